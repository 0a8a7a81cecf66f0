/- SessionLoads: any sessions are loaded as they are, or are refused, just as the document says. -/
import Derived.Test.YthbfigkfelfhcaaLo
import Derived.Test.YthbfigkfelfhcaaK7
import Derived.Test.YthbfigkfelfhcaaK16
import Derived.Test.YthbfigkfelfhcaaRows
set_option linter.unusedSimpArgs false
set_option linter.unusedVariables false
set_option maxRecDepth 100000
set_option maxHeartbeats 8000000
namespace Go.Proofs.Ythbfigkfelfhcaa
open Go.RowKit Go.ChangeShapes Go.WideShapes Go.ChangeAt
theorem load_yes (n last : Int) (hlast : 0 ≤ last ∧ last ≤ 18446744073709551615) (v : Value) (ys : List Ses) (w : World) (hr : RdRow w v 4 (ys.map sc)) (hys : ∀ y ∈ ys, SesB y) (hM : MayS (min (max n 1) 64) last ys) :
    Ret Try.prog 12 #[.int .i64 n, v, .int .u64 last] w fun u w' => ∃ b0 b v B, u = .tuple #[.pointer (some ⟨b0, 0, none⟩), .int .i64 0] ∧ WfS ys ∧ Sl 73 7 v ((ys.map rowOf).map tr) B ∧ St w [] (SO b0 b (min (max n 1) 64) last v B) w' :=
  (load_any n last hlast v ys w hr hys).mono fun u w' h => by
    rcases h with ⟨_, hw, b0, b, v, B, h1, h2, h3⟩ | ⟨h, _⟩
    · exact ⟨b0, b, v, B, h1, hw, h2, h3⟩
    · exact absurd hM h
theorem load_no (n last : Int) (hlast : 0 ≤ last ∧ last ≤ 18446744073709551615) (v : Value) (ys : List Ses) (w : World) (hr : RdRow w v 4 (ys.map sc)) (hys : ∀ y ∈ ys, SesB y) (hM : ¬ MayS (min (max n 1) 64) last ys) :
    Ret Try.prog 12 #[.int .i64 n, v, .int .u64 last] w fun u w' => u = .tuple #[.pointer none, .int .i64 2] ∧ St w [] [] w' :=
  (load_any n last hlast v ys w hr hys).mono fun u w' h => by
    rcases h with ⟨h, _⟩ | ⟨_, h⟩
    · exact absurd h hM
    · exact h
theorem loads_yes (n last : Int) (hlast : 0 ≤ last ∧ last ≤ 18446744073709551615) (v : Value) (ys : List Ses) (w : World) (hr : RdRow w v 4 (ys.map sc)) (hys : ∀ y ∈ ys, SesB y) (hM : MayS (min (max n 1) 64) last ys) : Ret Try.prog 4 #[.int .i64 n, v, .int .u64 last] w fun u w' => u = .bool true ∧ St w [] [] w' := by
  have hS := St.init0 w
  have hle := hM.1
  have hm : ¬ min (max n 1) 64 = 0 := by omega
  have hln : (ys.map sc).length ≤ 9223372036854775807 := by rw [List.length_map]; omega
  refine Ret.enter Try.func4 Try.ntmps4 rfl rfl ?_
  simp only [argEnv, Nat.reduceAdd]
  refine SatC.seq ?_
  refine SatC.region ?_
  refine SatL.pu (RunV.assign rfl) rfl ?_
  refine SatL.nil (SatE.thenC ?_)
  refine SatC.seq ?_
  refine SatC.region ?_
  refine SatL.pu (RunV.move rfl) rfl ?_
  refine SatL.pu (RunV.move rfl) rfl ?_
  refine SatL.pu (RunV.move rfl) rfl ?_
  refine SatL.op rfl (OpW.enter rfl rfl rfl (rfl) (load_yes n last hlast v ys _ (hr.st hS) hys hM) ?_)
  rintro r1 w1 ⟨b0, b, tv, B, rfl, hw, hsl, h⟩
  replace hS := hS.callT (A := []) (by repeat constructor) h
  refine SatL.pu (RunV.move rfl) rfl ?_
  refine SatL.pu (RunV.extract rfl rfl) rfl ?_
  refine SatL.pu (RunV.extract rfl rfl) rfl ?_
  refine SatL.pu (RunV.assign rfl) rfl ?_
  refine SatL.pu (RunV.assign rfl) rfl ?_
  refine SatL.nil (SatE.thenC ?_)
  refine SatC.seq ?_
  refine SatC.seq ?_
  refine SatC.region ?_
  refine SatL.pu (RunV.move rfl) rfl ?_
  refine SatL.pu (RunV.move rfl) rfl ?_
  refine SatL.pu (RunV.move rfl) rfl ?_
  refine SatL.op rfl (OpW.enter rfl rfl rfl (rfl) (may_any n last v ys _ (hr.st hS) hys) ?_)
  rintro r2 w2 ⟨q, rfl, hq, h⟩
  replace hS := St.callN hS h
  obtain rfl : q = true := hq.2 hM
  refine SatL.pu (RunV.not rfl) rfl ?_
  refine SatL.nil (SatE.thenC ?_)
  refine SatC.weak (e' := [(1, _), (2, _), (6, _), (7, _), (8, _), (20, _)]) (by repeat constructor) ?_
  refine SatC.cond rfl (fun h1 => ?_) (fun h1 => ?_)
  · (try simp only [cx, ne_eq] at h1)
    try (exfalso; (first | omega | exact h1 trivial | contradiction | (first | exact h1 rfl | cases h1 | (simp at h1; done))); done)
    all_goals
    refine SatC.seq ?_
    refine SatC.region ?_
    refine SatL.pu (RunV.move rfl) rfl ?_
    refine SatL.pu (RunV.eql rfl rfl) rfl ?_
    refine SatL.pu (RunV.move rfl) rfl ?_
    refine SatL.guard rfl rfl rfl (fun h2 => ?_) (fun h2 => ?_)
    · (try simp only [cx, ne_eq] at h2)
      try (exfalso; (first | omega | exact h2 trivial | contradiction | (first | exact h2 rfl | cases h2 | (simp at h2; done))); done)
      all_goals
      refine SatL.pu (RunV.move rfl) rfl ?_
      refine SatL.guard_y rfl rfl ?_
      refine SatL.pu (RunV.eqlPtrNil rfl rfl rfl) rfl ?_
      refine SatL.pu (RunV.pick_t rfl rfl) rfl ?_
      refine SatL.pu (RunV.move rfl) rfl ?_
      refine SatL.guard rfl rfl rfl (fun h3 => ?_) (fun h3 => ?_)
      · (try simp only [cx, ne_eq] at h3)
        try (exfalso; (first | omega | exact h3 trivial | contradiction | (first | exact h3 rfl | cases h3 | (simp at h3; done))); done)
        all_goals
        refine SatL.op rfl (OpW.enter rfl rfl rfl (rfl) (works_any _) ?_)
        rintro r3 w3 ⟨rfl, h⟩
        replace hS := St.callN hS h
        refine SatL.pu (RunV.pick_t rfl rfl) rfl ?_
        refine SatL.pu (RunV.assign rfl) rfl ?_
        refine SatL.nil (SatE.thenC ?_)
        refine SatC.ret (SatE.then_ret ?_)
        refine SatE.ret1 rfl rfl ?_
        exact ⟨rfl, hS.sel (by repeat constructor)⟩
      · (try simp only [cx, ne_eq] at h3)
        try (exfalso; (first | omega | exact h3 trivial | contradiction | (first | exact h3 rfl | cases h3 | (simp at h3; done))); done)
        all_goals
        refine SatL.pu (RunV.pick_f rfl rfl) rfl ?_
        refine SatL.pu (RunV.assign rfl) rfl ?_
        refine SatL.nil (SatE.thenC ?_)
        refine SatC.ret (SatE.then_ret ?_)
        refine SatE.ret1 rfl rfl ?_
        exact ⟨rfl, hS.sel (by repeat constructor)⟩
    · (try simp only [cx, ne_eq] at h2)
      try (exfalso; (first | omega | exact h2 trivial | contradiction | (first | exact h2 rfl | cases h2 | (simp at h2; done))); done)
      all_goals
      refine SatL.guard_n rfl rfl rfl rfl ?_
      refine SatL.pu (RunV.pick_f rfl rfl) rfl ?_
      refine SatL.pu (RunV.move rfl) rfl ?_
      refine SatL.guard_n rfl rfl rfl rfl ?_
      refine SatL.pu (RunV.pick_f rfl rfl) rfl ?_
      refine SatL.pu (RunV.assign rfl) rfl ?_
      refine SatL.nil (SatE.thenC ?_)
      refine SatC.ret (SatE.then_ret ?_)
      refine SatE.ret1 rfl rfl ?_
      exact ⟨rfl, hS.sel (by repeat constructor)⟩
  · (try simp only [cx, ne_eq] at h1)
    try (exfalso; (first | omega | exact h1 trivial | contradiction | (first | exact h1 rfl | cases h1 | (simp at h1; done))); done)
    all_goals
    refine SatC.skip (SatE.thenC ?_)
    refine SatC.seq ?_
    refine SatC.region ?_
    refine SatL.pu (RunV.move rfl) rfl ?_
    refine SatL.pu (RunV.eql rfl rfl) rfl ?_
    refine SatL.pu (RunV.move rfl) rfl ?_
    refine SatL.guard rfl rfl rfl (fun h2 => ?_) (fun h2 => ?_)
    · (try simp only [cx, ne_eq] at h2)
      try (exfalso; (first | omega | exact h2 trivial | contradiction | (first | exact h2 rfl | cases h2 | (simp at h2; done))); done)
      all_goals
      refine SatL.pu (RunV.move rfl) rfl ?_
      refine SatL.guard_y rfl rfl ?_
      refine SatL.op rfl (OpW.enter rfl rfl rfl (rfl) (listS_any hw hm hsl (by omega) (hS.ownT (A := SO b0 b (min (max n 1) 64) last tv B) (by repeat constructor))) ?_)
      rintro r3 w3 ⟨LB, hsL, h⟩
      replace hS := hS.call0 h
      refine SatL.guard_y rfl rfl ?_
      refine SatL.pu (RunV.move rfl) rfl ?_
      refine SatL.guard_y rfl rfl ?_
      refine SatL.op rfl (OpW.enter rfl rfl rfl (rfl) (same_any _ _ ys ys _ (hsL.row hS (by repeat constructor) hln) (hr.st hS)) ?_)
      rintro r4 w4 ⟨rfl, h⟩
      replace hS := St.callN hS h
      refine SatL.pu (RunV.pick_t rfl rfl) rfl ?_
      refine SatL.pu (RunV.move rfl) rfl ?_
      refine SatL.guard rfl rfl rfl (fun h3 => ?_) (fun h3 => ?_)
      · (try simp only [cx, ne_eq] at h3)
        try (exfalso; (first | omega | exact h3 trivial | contradiction | (first | exact h3 rfl | cases h3 | (simp at h3; done))); done)
        all_goals
        refine SatL.pu (RunV.move rfl) rfl ?_
        refine SatL.guard_y rfl rfl ?_
        refine SatL.op rfl (OpW.enter rfl rfl rfl (rfl) (last_any' hm (hS.ownT (A := SO b0 b (min (max n 1) 64) last tv B) (by repeat constructor))) ?_)
        rintro r5 w5 ⟨rfl, h⟩
        replace hS := St.callN hS h
        refine SatL.guard_y rfl rfl ?_
        refine SatL.pu (RunV.move rfl) rfl ?_
        refine SatL.guard_y rfl rfl ?_
        refine SatL.pu (RunV.eql rfl rfl) rfl ?_
        refine SatL.pu (RunV.pick_t rfl rfl) rfl ?_
        refine SatL.pu (RunV.move rfl) rfl ?_
        refine SatL.guard rfl rfl rfl (fun h4 => ?_) (fun h4 => ?_)
        · (try simp only [cx, ne_eq] at h4)
          try (exfalso; (first | omega | exact h4 trivial | contradiction | (first | exact h4 rfl | cases h4 | (simp at h4; done))); done)
          all_goals
          refine SatL.op rfl (OpW.enter rfl rfl rfl (rfl) (works_any _) ?_)
          rintro r6 w6 ⟨rfl, h⟩
          replace hS := St.callN hS h
          refine SatL.pu (RunV.pick_t rfl rfl) rfl ?_
          refine SatL.pu (RunV.assign rfl) rfl ?_
          refine SatL.nil (SatE.thenC ?_)
          refine SatC.ret ?_
          refine SatE.ret1 rfl rfl ?_
          exact ⟨rfl, hS.sel (by repeat constructor)⟩
        · (try simp only [cx, ne_eq] at h4)
          try (exfalso; (first | omega | exact h4 trivial | contradiction | (first | exact h4 rfl | cases h4 | (simp at h4; done))); done)
          all_goals
          refine SatL.pu (RunV.pick_f rfl rfl) rfl ?_
          refine SatL.pu (RunV.assign rfl) rfl ?_
          refine SatL.nil (SatE.thenC ?_)
          refine SatC.ret ?_
          refine SatE.ret1 rfl rfl ?_
          exact ⟨rfl, hS.sel (by repeat constructor)⟩
      · (try simp only [cx, ne_eq] at h3)
        try (exfalso; (first | omega | exact h3 trivial | contradiction | (first | exact h3 rfl | cases h3 | (simp at h3; done))); done)
        all_goals
        refine SatL.guard_n rfl rfl rfl rfl ?_
        refine SatL.guard_n rfl rfl rfl rfl ?_
        refine SatL.guard_n rfl rfl rfl rfl ?_
        refine SatL.pu (RunV.pick_f rfl rfl) rfl ?_
        refine SatL.pu (RunV.move rfl) rfl ?_
        refine SatL.guard_n rfl rfl rfl rfl ?_
        refine SatL.pu (RunV.pick_f rfl rfl) rfl ?_
        refine SatL.pu (RunV.assign rfl) rfl ?_
        refine SatL.nil (SatE.thenC ?_)
        refine SatC.ret ?_
        refine SatE.ret1 rfl rfl ?_
        exact ⟨rfl, hS.sel (by repeat constructor)⟩
    · (try simp only [cx, ne_eq] at h2)
      try (exfalso; (first | omega | exact h2 trivial | contradiction | (first | exact h2 rfl | cases h2 | (simp at h2; done))); done)
      all_goals
      refine SatL.guard_n rfl rfl rfl rfl ?_
      refine SatL.guard_n rfl rfl rfl rfl ?_
      refine SatL.guard_n rfl rfl rfl rfl ?_
      refine SatL.pu (RunV.pick_f rfl rfl) rfl ?_
      refine SatL.pu (RunV.move rfl) rfl ?_
      refine SatL.guard_n rfl rfl rfl rfl ?_
      refine SatL.guard_n rfl rfl rfl rfl ?_
      refine SatL.guard_n rfl rfl rfl rfl ?_
      refine SatL.guard_n rfl rfl rfl rfl ?_
      refine SatL.pu (RunV.pick_f rfl rfl) rfl ?_
      refine SatL.pu (RunV.move rfl) rfl ?_
      refine SatL.guard_n rfl rfl rfl rfl ?_
      refine SatL.pu (RunV.pick_f rfl rfl) rfl ?_
      refine SatL.pu (RunV.assign rfl) rfl ?_
      refine SatL.nil (SatE.thenC ?_)
      refine SatC.ret ?_
      refine SatE.ret1 rfl rfl ?_
      exact ⟨rfl, hS.sel (by repeat constructor)⟩
theorem loads_no (n last : Int) (hlast : 0 ≤ last ∧ last ≤ 18446744073709551615) (v : Value) (ys : List Ses) (w : World) (hr : RdRow w v 4 (ys.map sc)) (hys : ∀ y ∈ ys, SesB y) (hM : ¬ MayS (min (max n 1) 64) last ys) : Ret Try.prog 4 #[.int .i64 n, v, .int .u64 last] w fun u w' => u = .bool true ∧ St w [] [] w' := by
  have hS := St.init0 w
  refine Ret.enter Try.func4 Try.ntmps4 rfl rfl ?_
  simp only [argEnv, Nat.reduceAdd]
  refine SatC.seq ?_
  refine SatC.region ?_
  refine SatL.pu (RunV.assign rfl) rfl ?_
  refine SatL.nil (SatE.thenC ?_)
  refine SatC.seq ?_
  refine SatC.region ?_
  refine SatL.pu (RunV.move rfl) rfl ?_
  refine SatL.pu (RunV.move rfl) rfl ?_
  refine SatL.pu (RunV.move rfl) rfl ?_
  refine SatL.op rfl (OpW.enter rfl rfl rfl (rfl) (load_no n last hlast v ys _ (hr.st hS) hys hM) ?_)
  rintro r1 w1 ⟨rfl, h⟩
  replace hS := St.callN hS h
  refine SatL.pu (RunV.move rfl) rfl ?_
  refine SatL.pu (RunV.extract rfl rfl) rfl ?_
  refine SatL.pu (RunV.extract rfl rfl) rfl ?_
  refine SatL.pu (RunV.assign rfl) rfl ?_
  refine SatL.pu (RunV.assign rfl) rfl ?_
  refine SatL.nil (SatE.thenC ?_)
  refine SatC.seq ?_
  refine SatC.seq ?_
  refine SatC.region ?_
  refine SatL.pu (RunV.move rfl) rfl ?_
  refine SatL.pu (RunV.move rfl) rfl ?_
  refine SatL.pu (RunV.move rfl) rfl ?_
  refine SatL.op rfl (OpW.enter rfl rfl rfl (rfl) (may_any n last v ys _ (hr.st hS) hys) ?_)
  rintro r2 w2 ⟨q, rfl, hq, h⟩
  replace hS := St.callN hS h
  obtain rfl : q = false := by cases q; rfl; exact absurd (hq.1 rfl) hM
  refine SatL.pu (RunV.not rfl) rfl ?_
  refine SatL.nil (SatE.thenC ?_)
  refine SatC.weak (e' := [(1, _), (2, _), (6, _), (7, _), (8, _), (20, _)]) (by repeat constructor) ?_
  refine SatC.cond rfl (fun h1 => ?_) (fun h1 => ?_)
  · (try simp only [cx, ne_eq] at h1)
    try (exfalso; (first | omega | exact h1 trivial | contradiction | (first | exact h1 rfl | cases h1 | (simp at h1; done))); done)
    all_goals
    refine SatC.seq ?_
    refine SatC.region ?_
    refine SatL.pu (RunV.move rfl) rfl ?_
    refine SatL.pu (RunV.eql rfl rfl) rfl ?_
    refine SatL.pu (RunV.move rfl) rfl ?_
    refine SatL.guard rfl rfl rfl (fun h2 => ?_) (fun h2 => ?_)
    · (try simp only [cx, ne_eq] at h2)
      try (exfalso; (first | omega | exact h2 trivial | contradiction | (first | exact h2 rfl | cases h2 | (simp at h2; done))); done)
      all_goals
      refine SatL.pu (RunV.move rfl) rfl ?_
      refine SatL.guard_y rfl rfl ?_
      refine SatL.pu (RunV.eqlPtrNil rfl rfl rfl) rfl ?_
      refine SatL.pu (RunV.pick_t rfl rfl) rfl ?_
      refine SatL.pu (RunV.move rfl) rfl ?_
      refine SatL.guard rfl rfl rfl (fun h3 => ?_) (fun h3 => ?_)
      · (try simp only [cx, ne_eq] at h3)
        try (exfalso; (first | omega | exact h3 trivial | contradiction | (first | exact h3 rfl | cases h3 | (simp at h3; done))); done)
        all_goals
        refine SatL.op rfl (OpW.enter rfl rfl rfl (rfl) (works_any _) ?_)
        rintro r3 w3 ⟨rfl, h⟩
        replace hS := St.callN hS h
        refine SatL.pu (RunV.pick_t rfl rfl) rfl ?_
        refine SatL.pu (RunV.assign rfl) rfl ?_
        refine SatL.nil (SatE.thenC ?_)
        refine SatC.ret (SatE.then_ret ?_)
        refine SatE.ret1 rfl rfl ?_
        exact ⟨rfl, hS.sel (by repeat constructor)⟩
      · (try simp only [cx, ne_eq] at h3)
        try (exfalso; (first | omega | exact h3 trivial | contradiction | (first | exact h3 rfl | cases h3 | (simp at h3; done))); done)
        all_goals
        refine SatL.pu (RunV.pick_f rfl rfl) rfl ?_
        refine SatL.pu (RunV.assign rfl) rfl ?_
        refine SatL.nil (SatE.thenC ?_)
        refine SatC.ret (SatE.then_ret ?_)
        refine SatE.ret1 rfl rfl ?_
        exact ⟨rfl, hS.sel (by repeat constructor)⟩
    · (try simp only [cx, ne_eq] at h2)
      try (exfalso; (first | omega | exact h2 trivial | contradiction | (first | exact h2 rfl | cases h2 | (simp at h2; done))); done)
      all_goals
      refine SatL.guard_n rfl rfl rfl rfl ?_
      refine SatL.pu (RunV.pick_f rfl rfl) rfl ?_
      refine SatL.pu (RunV.move rfl) rfl ?_
      refine SatL.guard_n rfl rfl rfl rfl ?_
      refine SatL.pu (RunV.pick_f rfl rfl) rfl ?_
      refine SatL.pu (RunV.assign rfl) rfl ?_
      refine SatL.nil (SatE.thenC ?_)
      refine SatC.ret (SatE.then_ret ?_)
      refine SatE.ret1 rfl rfl ?_
      exact ⟨rfl, hS.sel (by repeat constructor)⟩
  · (try simp only [cx, ne_eq] at h1)
    try (exfalso; (first | omega | exact h1 trivial | contradiction | (first | exact h1 rfl | cases h1 | (simp at h1; done))); done)
    all_goals
    refine SatC.skip (SatE.thenC ?_)
    refine SatC.seq ?_
    refine SatC.region ?_
    refine SatL.pu (RunV.move rfl) rfl ?_
    refine SatL.pu (RunV.eql rfl rfl) rfl ?_
    refine SatL.pu (RunV.move rfl) rfl ?_
    refine SatL.guard rfl rfl rfl (fun h2 => ?_) (fun h2 => ?_)
    · (try simp only [cx, ne_eq] at h2)
      try (exfalso; (first | omega | exact h2 trivial | contradiction | (first | exact h2 rfl | cases h2 | (simp at h2; done))); done)
      all_goals
      refine SatL.pu (RunV.move rfl) rfl ?_
      refine SatL.guard_y rfl rfl ?_
      -- STOP -- CALL 10
      trace_state
      sorry
    · (try simp only [cx, ne_eq] at h2)
      try (exfalso; (first | omega | exact h2 trivial | contradiction | (first | exact h2 rfl | cases h2 | (simp at h2; done))); done)
      all_goals
      refine SatL.guard_n rfl rfl rfl rfl ?_
      refine SatL.guard_n rfl rfl rfl rfl ?_
      refine SatL.guard_n rfl rfl rfl rfl ?_
      refine SatL.pu (RunV.pick_f rfl rfl) rfl ?_
      refine SatL.pu (RunV.move rfl) rfl ?_
      refine SatL.guard_n rfl rfl rfl rfl ?_
      refine SatL.guard_n rfl rfl rfl rfl ?_
      refine SatL.guard_n rfl rfl rfl rfl ?_
      refine SatL.guard_n rfl rfl rfl rfl ?_
      refine SatL.pu (RunV.pick_f rfl rfl) rfl ?_
      refine SatL.pu (RunV.move rfl) rfl ?_
      refine SatL.guard_n rfl rfl rfl rfl ?_
      refine SatL.pu (RunV.pick_f rfl rfl) rfl ?_
      refine SatL.pu (RunV.assign rfl) rfl ?_
      refine SatL.nil (SatE.thenC ?_)
      refine SatC.ret ?_
      refine SatE.ret1 rfl rfl ?_
      exact ⟨rfl, hS.sel (by repeat constructor)⟩
theorem loads_any (n last : Int) (hlast : 0 ≤ last ∧ last ≤ 18446744073709551615) (v : Value) (ys : List Ses) (w : World) (hr : RdRow w v 4 (ys.map sc)) (hys : ∀ y ∈ ys, SesB y) : Ret Try.prog 4 #[.int .i64 n, v, .int .u64 last] w fun u w' => u = .bool true ∧ St w [] [] w' := by
  by_cases hM : MayS (min (max n 1) 64) last ys
  · exact loads_yes n last hlast v ys w hr hys hM
  · exact loads_no n last hlast v ys w hr hys hM
theorem sessionLoads_lifted (os : Os) (started : os.Started) (H : Type) (enc : TypeId × Value → H) :
    ReturnsInHanded {} Try.checked os 4 .any (Rows.sessionLoadsSpec.pre6 enc Try.prog Try.f4 Rows.sessionLoadsRow.domain false) (Rows.sessionLoadsSpec.post enc Try.prog Try.f4 false true false false) := by
  refine law_returns (C := Try.checked) (b := 4) (by kernel_rfl) started (by kernel_rfl) Try.func4
    (ChangeSpec.witness6 (enc := enc) (C := Try.checked) false ⟨#[], #[.int .i64 0, .slice none 0 0, .int .u64 0], []⟩ 8 (by kernel_rfl) (by kernel_rfl) (by kernel_rfl) (by kernel_rfl))
    rfl rfl (by kernel_rfl) (by kernel_rfl) (by kernel_rfl) (fun ds h => ?_) ?_
  · rw [Try.params4] at h
    match ds, h with
    | [_, _, _], _ => rfl
  intro W base args ds ps hval hA hsz
  rw [Try.params4] at hA hval
  obtain ⟨v0, v1, v2, d0, d1, d2, q0, q1, q2, hargs, rfl, rfl, h0, h1, h2⟩ := trodAll_three hA
  subst hargs
  obtain ⟨a0, rfl, rfl, rfl, b0⟩ := open_int Try.underlying3 (hval 0 3 v0 rfl rfl) h0
  replace b0 := bnd_i64 b0
  obtain ⟨xs1, hr1, hx1⟩ := open_rows (l := [25, 3, 25, 25]) 6 Try.underlying32 (by kernel_rfl) (by kernel_rfl) (by decide) (hval 1 32 v1 rfl rfl) h1
  obtain ⟨ys1, rfl, hy1⟩ := rows_map (enc' := sc) (q := SesB) (fun r hr => by
    obtain ⟨u0, u1, u2, u3, rfl, l0, l1, l2, l3⟩ := allLeaf_list4 hr
    obtain ⟨n0, rfl, e0⟩ := leaf_int Try.underlying25 l0
    obtain ⟨n1, rfl, e1⟩ := leaf_int Try.underlying3 l1
    obtain ⟨n2, rfl, e2⟩ := leaf_int Try.underlying25 l2
    obtain ⟨n3, rfl, e3⟩ := leaf_int Try.underlying25 l3
    exact ⟨⟨n0, n1, n2, n3⟩, rfl, bnd_u64 e0, bnd_u64 e2, bnd_u64 e3⟩) xs1 hx1
  obtain ⟨a2, rfl, rfl, rfl, b2⟩ := open_int Try.underlying25 (hval 2 25 v2 rfl rfl) h2
  replace b2 := bnd_u64 b2
  exact law_done (loads_any a0 a2 b2 _ ys1 W hr1 hy1)
theorem sessionLoads_holds : Rows.SessionLoadsSaid :=
  OpenClaim.holds_of_wide 4 Try.f4 rfl rfl rfl rfl rfl rfl rfl ⟨rfl, rfl, rfl, rfl, rfl⟩ rfl rfl rfl rfl rfl (by kernel_rfl) Try.func4 (by kernel_rfl)
    (of_decide_eq_true (by kernel_rfl)) (by unfold Func.isWrapper; first | (rw [if_pos (by decide +kernel)]; kernel_rfl) | (rw [if_neg (by decide +kernel)]; exact ⟨rfl, rfl⟩))
    (fun os started H enc _ => sessionLoads_lifted os started H enc)
end Go.Proofs.Ythbfigkfelfhcaa
