/- DoubtPlays: whoever confirms it, and whatever ticks go by, a doubt lasts, and is due, as the document says: true at every input, with no condition. -/
import Derived.Test.YthkgcdkkdmogpaaP
import Derived.Test.YthkgcdkkdmogpaaK7
import Derived.Test.YthkgcdkkdmogpaaRows
set_option linter.unusedSimpArgs false
set_option linter.unusedVariables false
set_option maxRecDepth 100000
set_option maxHeartbeats 1000000
namespace Go.Proofs.Ythkgcdkkdmogpaa
open Go.RowKit Go.ChangeShapes Go.WideShapes Go.ChangeAt
theorem wt_pos {l m k : Int} (q : Int) (ho : okp l m k) : 1 ≤ wt l m k q := by
  rw [wt, if_neg (fun e => e ho)]
  by_cases hk : k = 0
  · rw [if_pos hk]
    unfold okp at ho
    omega
  · rw [if_neg hk]
    have := wt_facts (h := q) ho hk
    omega
theorem wt_no {l m k : Int} (q : Int) (ho : ¬ okp l m k) : wt l m k q = 0 := by rw [wt, if_pos ho]
theorem new_ok {l m k x : Int} {w : World} (ho : okp l m k) : Ret Try.prog 16 #[.int .i64 l, .int .i64 m, .int .i64 k, .int .i64 x] w fun v w' => ∃ b mb o, v = .tuple #[.pointer (some ⟨b, 0, none⟩), .int .i64 0] ∧ IsMp (fun n : Int => Value.int .i64 n) o (kvs [x]) ∧ St w [] [(b, C 30 (dp l m k mb 0)), (mb, o)] w' :=
  (new_any l m k x w).mono fun v w' h => by rwa [if_pos ho] at h
theorem new_no {l m k x : Int} {w : World} (ho : ¬ okp l m k) : Ret Try.prog 16 #[.int .i64 l, .int .i64 m, .int .i64 k, .int .i64 x] w fun v w' => v = .tuple #[.pointer none, .int .i64 2] ∧ St w [] [] w' :=
  (new_any l m k x w).mono fun v w' h => by rwa [if_neg ho] at h
@[reducible] def st2 (y : Int × Int) : List Value := [.int .i64 y.1, .int .i64 y.2]
theorem plays_no (l m k f : Int) (v : Value) (ys : List (Int × Int)) (w : World) (hr : RdRow w v 2 (ys.map st2)) (ho : ¬ okp l m k) : Ret Try.prog 6 #[.agg #[.int .i64 l, .int .i64 m, .int .i64 k, .int .i64 f], v] w fun v w' => v = .bool true ∧ St w [] [] w' := by
  have hS := St.init0 w
  have hz := wt_no 0 ho
  refine Ret.enter Try.func6 Try.ntmps6 rfl rfl ?_
  simp only [argEnv, Nat.reduceAdd]
  refine SatC.seq ?_
  refine SatC.region ?_
  refine SatL.op rfl (OpW.box hS rfl rfl (by repeat constructor) ?_)
  clear hS
  intro b2 w1 _ hS
  refine SatL.pu (RunV.assign rfl) rfl ?_
  refine SatL.nil (SatE.thenC ?_)
  refine SatC.seq ?_
  refine SatC.region ?_
  first | refine SatL.pu (RunV.fieldAddrL rfl rfl rfl) rfl ?_ | refine SatL.pu (RunV.fieldAddr rfl rfl rfl) rfl ?_
  refine SatL.pu (RunV.load1 hS rfl rfl (by repeat constructor) rfl) rfl ?_
  first | refine SatL.pu (RunV.fieldAddrL rfl rfl rfl) rfl ?_ | refine SatL.pu (RunV.fieldAddr rfl rfl rfl) rfl ?_
  refine SatL.pu (RunV.load1 hS rfl rfl (by repeat constructor) rfl) rfl ?_
  first | refine SatL.pu (RunV.fieldAddrL rfl rfl rfl) rfl ?_ | refine SatL.pu (RunV.fieldAddr rfl rfl rfl) rfl ?_
  refine SatL.pu (RunV.load1 hS rfl rfl (by repeat constructor) rfl) rfl ?_
  first | refine SatL.pu (RunV.fieldAddrL rfl rfl rfl) rfl ?_ | refine SatL.pu (RunV.fieldAddr rfl rfl rfl) rfl ?_
  refine SatL.pu (RunV.load1 hS rfl rfl (by repeat constructor) rfl) rfl ?_
  refine SatL.op rfl (OpW.enter rfl rfl rfl rfl (new_no ho) ?_)
  rintro r2 w2 ⟨rfl, h⟩
  replace hS := St.callN hS h
  refine SatL.pu (RunV.move rfl) rfl ?_
  refine SatL.pu (RunV.extract rfl rfl) rfl ?_
  refine SatL.pu (RunV.extract rfl rfl) rfl ?_
  refine SatL.pu (RunV.assign rfl) rfl ?_
  refine SatL.pu (RunV.assign rfl) rfl ?_
  refine SatL.nil (SatE.thenC ?_)
  refine SatC.seq ?_
  refine SatC.seq ?_
  refine SatC.weak (e' := [(1, _), (2, _), (4, _), (5, _), (6, _)]) (by repeat constructor) ?_
  refine SatC.region ?_
  first | refine SatL.pu (RunV.fieldAddrL rfl rfl rfl) rfl ?_ | refine SatL.pu (RunV.fieldAddr rfl rfl rfl) rfl ?_
  refine SatL.pu (RunV.load1 hS rfl rfl (by repeat constructor) rfl) rfl ?_
  first | refine SatL.pu (RunV.fieldAddrL rfl rfl rfl) rfl ?_ | refine SatL.pu (RunV.fieldAddr rfl rfl rfl) rfl ?_
  refine SatL.pu (RunV.load1 hS rfl rfl (by repeat constructor) rfl) rfl ?_
  first | refine SatL.pu (RunV.fieldAddrL rfl rfl rfl) rfl ?_ | refine SatL.pu (RunV.fieldAddr rfl rfl rfl) rfl ?_
  refine SatL.pu (RunV.load1 hS rfl rfl (by repeat constructor) rfl) rfl ?_
  refine SatL.op rfl (OpW.enter rfl rfl rfl rfl (wait_ref _ _ _ _ _) ?_)
  rintro r3 w3 ⟨rfl, h⟩
  replace hS := St.callN hS h
  refine SatL.pu (RunV.eql rfl rfl) rfl ?_
  refine SatL.nil (SatE.thenC ?_)
  refine SatC.cond rfl (fun h1 => ?_) (fun h1 => ?_)
  · (try simp only [cx, ne_eq] at h1)
    try (exfalso; (first | omega | exact h1 trivial | contradiction); done)
    all_goals
    refine SatC.seq ?_
    refine SatC.region ?_
    refine SatL.pu (RunV.move rfl) rfl ?_
    refine SatL.pu (RunV.eql rfl rfl) rfl ?_
    refine SatL.pu (RunV.move rfl) rfl ?_
    refine SatL.guard rfl rfl rfl (fun h2 => ?_) (fun h2 => ?_)
    · (try simp only [cx, ne_eq] at h2)
      try (exfalso; (first | omega | exact h2 trivial | contradiction); done)
      all_goals
      refine SatL.pu (RunV.move rfl) rfl ?_
      refine SatL.guard_y rfl rfl ?_
      refine SatL.pu (RunV.eqlPtrNil rfl rfl rfl) rfl ?_
      refine SatL.pu (RunV.pick_t rfl rfl) rfl ?_
      refine SatL.pu (RunV.move rfl) rfl ?_
      refine SatL.guard rfl rfl rfl (fun h3 => ?_) (fun h3 => ?_)
      · (try simp only [cx, ne_eq] at h3)
        try (exfalso; (first | omega | exact h3 trivial | contradiction); done)
        all_goals
        refine SatL.op rfl (OpW.enter rfl rfl rfl rfl (works_any _) ?_)
        rintro r4 w4 ⟨rfl, h⟩
        replace hS := St.callN hS h
        refine SatL.pu (RunV.pick_t rfl rfl) rfl ?_
        refine SatL.pu (RunV.assign rfl) rfl ?_
        refine SatL.nil (SatE.thenC ?_)
        refine SatC.ret (SatE.then_ret ?_)
        refine SatE.ret1 rfl rfl ?_
        exact ⟨rfl, hS.sub (List.nil_sublist _)⟩
      · (try simp only [cx, ne_eq] at h3)
        try (exfalso; (first | omega | exact h3 trivial | contradiction); done)
        all_goals
        refine SatL.pu (RunV.pick_f rfl rfl) rfl ?_
        refine SatL.pu (RunV.assign rfl) rfl ?_
        refine SatL.nil (SatE.thenC ?_)
        refine SatC.ret (SatE.then_ret ?_)
        refine SatE.ret1 rfl rfl ?_
        exact ⟨rfl, hS.sub (List.nil_sublist _)⟩
    · (try simp only [cx, ne_eq] at h2)
      try (exfalso; (first | omega | exact h2 trivial | contradiction); done)
      all_goals
      refine SatL.guard_n rfl rfl rfl rfl ?_
      refine SatL.pu (RunV.pick_f rfl rfl) rfl ?_
      refine SatL.pu (RunV.move rfl) rfl ?_
      refine SatL.guard_n rfl rfl rfl rfl ?_
      refine SatL.pu (RunV.pick_f rfl rfl) rfl ?_
      refine SatL.pu (RunV.assign rfl) rfl ?_
      refine SatL.nil (SatE.thenC ?_)
      refine SatC.ret (SatE.then_ret ?_)
      refine SatE.ret1 rfl rfl ?_
      exact ⟨rfl, hS.sub (List.nil_sublist _)⟩
  · (try simp only [cx, ne_eq] at h1)
    try (exfalso; (first | omega | exact h1 trivial | contradiction); done)
    all_goals
    refine SatC.skip (SatE.thenC ?_)
    refine SatC.seq ?_
    refine SatC.seq ?_
    refine SatC.region ?_
    refine SatL.pu (RunV.move rfl) rfl ?_
    refine SatL.pu (RunV.neq rfl rfl) rfl ?_
    refine SatL.nil (SatE.thenC ?_)
    refine SatC.cond rfl (fun h2 => ?_) (fun h2 => ?_)
    · (try simp only [cx, ne_eq] at h2)
      try (exfalso; (first | omega | exact h2 trivial | contradiction); done)
      all_goals
      refine SatC.seq ?_
      refine SatC.weak (e' := [(4, _)]) (by repeat constructor) ?_
      refine SatC.region ?_
      refine SatL.pu (RunV.assign rfl) rfl ?_
      refine SatL.nil (SatE.thenC ?_)
      refine SatC.ret (SatE.then_ret ?_)
      refine SatE.ret1 rfl rfl ?_
      exact ⟨rfl, hS.sub (List.nil_sublist _)⟩
    · (try simp only [cx, ne_eq] at h2)
      try (exfalso; (first | omega | exact h2 trivial | contradiction); done)
      all_goals
      refine SatC.skip (SatE.thenC ?_)
      refine SatC.seq ?_
      refine SatC.region ?_
      first | refine SatL.pu (RunV.fieldAddrL rfl rfl rfl) rfl ?_ | refine SatL.pu (RunV.fieldAddr rfl rfl rfl) rfl ?_
      refine SatL.pu (RunV.load1 hS rfl rfl (by repeat constructor) rfl) rfl ?_
      first | refine SatL.pu (RunV.fieldAddrL rfl rfl rfl) rfl ?_ | refine SatL.pu (RunV.fieldAddr rfl rfl rfl) rfl ?_
      refine SatL.pu (RunV.load1 hS rfl rfl (by repeat constructor) rfl) rfl ?_
      first | refine SatL.pu (RunV.fieldAddrL rfl rfl rfl) rfl ?_ | refine SatL.pu (RunV.fieldAddr rfl rfl rfl) rfl ?_
      refine SatL.pu (RunV.load1 hS rfl rfl (by repeat constructor) rfl) rfl ?_
      first | refine SatL.pu (RunV.fieldAddrL rfl rfl rfl) rfl ?_ | refine SatL.pu (RunV.fieldAddr rfl rfl rfl) rfl ?_
      refine SatL.pu (RunV.load1 hS rfl rfl (by repeat constructor) rfl) rfl ?_
      refine SatL.op rfl (OpW.buildSlice1 hS rfl rfl rfl rfl rfl (by repeat constructor) rfl rfl rfl ?_)
      clear hS
      intro b48 w4 _ hS
      refine SatL.pu (RunV.build rfl (by simp [go_sem]; try rfl)) rfl ?_
      refine SatL.op rfl (OpW.box hS rfl rfl (by repeat constructor) ?_)
      clear hS
      intro b50 w5 _ hS
      refine SatL.pu (RunV.assign rfl) rfl ?_
      refine SatL.nil (SatE.thenC ?_)
      refine SatC.seq ?_
      refine SatC.seq ?_
      refine SatC.weak (e' := [(1, _), (4, _), (5, _), (7, _)]) (by repeat constructor) ?_
      refine SatC.region ?_
      refine SatL.pu (RunV.assign rfl) rfl ?_
      refine SatL.nil (SatE.thenC ?_)
      refine SatC.block ?_
      -- LOOP 1: turn [4, 8], stay [1, 5, 7]
      -- STOP loop 1
      skip
theorem plays_ok (l m k f : Int) (v : Value) (ys : List (Int × Int)) (w : World) (hr : RdRow w v 2 (ys.map st2)) (ho : okp l m k) : Ret Try.prog 6 #[.agg #[.int .i64 l, .int .i64 m, .int .i64 k, .int .i64 f], v] w fun v w' => v = .bool true ∧ St w [] [] w' := by
  have hS := St.init0 w
  have hz := wt_pos 0 ho
  obtain ⟨bl, ol, cl, hvl, hmaxl, hcl, hltl⟩ := hr.open
  simp only [List.length_map] at hvl hmaxl
  refine Ret.enter Try.func6 Try.ntmps6 rfl rfl ?_
  simp only [argEnv, Nat.reduceAdd]
  refine SatC.seq ?_
  refine SatC.region ?_
  refine SatL.op rfl (OpW.box hS rfl rfl (by repeat constructor) ?_)
  clear hS
  intro b2 w1 _ hS
  refine SatL.pu (RunV.assign rfl) rfl ?_
  refine SatL.nil (SatE.thenC ?_)
  refine SatC.seq ?_
  refine SatC.region ?_
  first | refine SatL.pu (RunV.fieldAddrL rfl rfl rfl) rfl ?_ | refine SatL.pu (RunV.fieldAddr rfl rfl rfl) rfl ?_
  refine SatL.pu (RunV.load1 hS rfl rfl (by repeat constructor) rfl) rfl ?_
  first | refine SatL.pu (RunV.fieldAddrL rfl rfl rfl) rfl ?_ | refine SatL.pu (RunV.fieldAddr rfl rfl rfl) rfl ?_
  refine SatL.pu (RunV.load1 hS rfl rfl (by repeat constructor) rfl) rfl ?_
  first | refine SatL.pu (RunV.fieldAddrL rfl rfl rfl) rfl ?_ | refine SatL.pu (RunV.fieldAddr rfl rfl rfl) rfl ?_
  refine SatL.pu (RunV.load1 hS rfl rfl (by repeat constructor) rfl) rfl ?_
  first | refine SatL.pu (RunV.fieldAddrL rfl rfl rfl) rfl ?_ | refine SatL.pu (RunV.fieldAddr rfl rfl rfl) rfl ?_
  refine SatL.pu (RunV.load1 hS rfl rfl (by repeat constructor) rfl) rfl ?_
  refine SatL.op rfl (OpW.enter rfl rfl rfl rfl (new_ok ho) ?_)
  rintro r2 w2 ⟨b, mb, o, rfl, ho', h⟩
  replace hS := hS.call0 h
  refine SatL.pu (RunV.move rfl) rfl ?_
  refine SatL.pu (RunV.extract rfl rfl) rfl ?_
  refine SatL.pu (RunV.extract rfl rfl) rfl ?_
  refine SatL.pu (RunV.assign rfl) rfl ?_
  refine SatL.pu (RunV.assign rfl) rfl ?_
  refine SatL.nil (SatE.thenC ?_)
  refine SatC.seq ?_
  refine SatC.seq ?_
  refine SatC.weak (e' := [(1, _), (2, _), (4, _), (5, _), (6, _)]) (by repeat constructor) ?_
  refine SatC.region ?_
  first | refine SatL.pu (RunV.fieldAddrL rfl rfl rfl) rfl ?_ | refine SatL.pu (RunV.fieldAddr rfl rfl rfl) rfl ?_
  refine SatL.pu (RunV.load1 hS rfl rfl (by repeat constructor) rfl) rfl ?_
  first | refine SatL.pu (RunV.fieldAddrL rfl rfl rfl) rfl ?_ | refine SatL.pu (RunV.fieldAddr rfl rfl rfl) rfl ?_
  refine SatL.pu (RunV.load1 hS rfl rfl (by repeat constructor) rfl) rfl ?_
  first | refine SatL.pu (RunV.fieldAddrL rfl rfl rfl) rfl ?_ | refine SatL.pu (RunV.fieldAddr rfl rfl rfl) rfl ?_
  refine SatL.pu (RunV.load1 hS rfl rfl (by repeat constructor) rfl) rfl ?_
  refine SatL.op rfl (OpW.enter rfl rfl rfl rfl (wait_ref _ _ _ _ _) ?_)
  rintro r3 w3 ⟨rfl, h⟩
  replace hS := St.callN hS h
  refine SatL.pu (RunV.eql rfl rfl) rfl ?_
  refine SatL.nil (SatE.thenC ?_)
  refine SatC.cond rfl (fun h1 => ?_) (fun h1 => ?_)
  · (try simp only [cx, ne_eq] at h1)
    try (exfalso; (first | omega | exact h1 trivial | contradiction | exact h1 rfl); done)
    all_goals
    refine SatC.seq ?_
    refine SatC.region ?_
    refine SatL.pu (RunV.move rfl) rfl ?_
    refine SatL.pu (RunV.eql rfl rfl) rfl ?_
    refine SatL.pu (RunV.move rfl) rfl ?_
    refine SatL.guard rfl rfl rfl (fun h2 => ?_) (fun h2 => ?_)
    · (try simp only [cx, ne_eq] at h2)
      try (exfalso; (first | omega | exact h2 trivial | contradiction | exact h2 rfl); done)
      all_goals
      refine SatL.pu (RunV.move rfl) rfl ?_
      refine SatL.guard_y rfl rfl ?_
      refine SatL.pu (RunV.eqlPtrNil rfl rfl rfl) rfl ?_
      refine SatL.pu (RunV.pick_t rfl rfl) rfl ?_
      refine SatL.pu (RunV.move rfl) rfl ?_
      refine SatL.guard rfl rfl rfl (fun h3 => ?_) (fun h3 => ?_)
      · (try simp only [cx, ne_eq] at h3)
        try (exfalso; (first | omega | exact h3 trivial | contradiction | exact h3 rfl); done)
        all_goals
        refine SatL.op rfl (OpW.enter rfl rfl rfl rfl (works_any _) ?_)
        rintro r4 w4 ⟨rfl, h⟩
        replace hS := St.callN hS h
        refine SatL.pu (RunV.pick_t rfl rfl) rfl ?_
        refine SatL.pu (RunV.assign rfl) rfl ?_
        refine SatL.nil (SatE.thenC ?_)
        refine SatC.ret (SatE.then_ret ?_)
        refine SatE.ret1 rfl rfl ?_
        exact ⟨by first | rfl | simp, hS.sub (List.nil_sublist _)⟩
      · (try simp only [cx, ne_eq] at h3)
        try (exfalso; (first | omega | exact h3 trivial | contradiction | exact h3 rfl); done)
        all_goals
        refine SatL.pu (RunV.pick_f rfl rfl) rfl ?_
        refine SatL.pu (RunV.assign rfl) rfl ?_
        refine SatL.nil (SatE.thenC ?_)
        refine SatC.ret (SatE.then_ret ?_)
        refine SatE.ret1 rfl rfl ?_
        exact ⟨by first | rfl | simp, hS.sub (List.nil_sublist _)⟩
    · (try simp only [cx, ne_eq] at h2)
      try (exfalso; (first | omega | exact h2 trivial | contradiction | exact h2 rfl); done)
      all_goals
      refine SatL.guard_n rfl rfl rfl rfl ?_
      refine SatL.pu (RunV.pick_f rfl rfl) rfl ?_
      refine SatL.pu (RunV.move rfl) rfl ?_
      refine SatL.guard_n rfl rfl rfl rfl ?_
      refine SatL.pu (RunV.pick_f rfl rfl) rfl ?_
      refine SatL.pu (RunV.assign rfl) rfl ?_
      refine SatL.nil (SatE.thenC ?_)
      refine SatC.ret (SatE.then_ret ?_)
      refine SatE.ret1 rfl rfl ?_
      exact ⟨by first | rfl | simp, hS.sub (List.nil_sublist _)⟩
  · (try simp only [cx, ne_eq] at h1)
    try (exfalso; (first | omega | exact h1 trivial | contradiction | exact h1 rfl); done)
    all_goals
    refine SatC.skip (SatE.thenC ?_)
    refine SatC.seq ?_
    refine SatC.seq ?_
    refine SatC.region ?_
    refine SatL.pu (RunV.move rfl) rfl ?_
    refine SatL.pu (RunV.neq rfl rfl) rfl ?_
    refine SatL.nil (SatE.thenC ?_)
    refine SatC.cond rfl (fun h2 => ?_) (fun h2 => ?_)
    · (try simp only [cx, ne_eq] at h2)
      try (exfalso; (first | omega | exact h2 trivial | contradiction | exact h2 rfl); done)
      all_goals
      refine SatC.seq ?_
      refine SatC.weak (e' := [(4, _)]) (by repeat constructor) ?_
      refine SatC.region ?_
      refine SatL.pu (RunV.assign rfl) rfl ?_
      refine SatL.nil (SatE.thenC ?_)
      refine SatC.ret (SatE.then_ret ?_)
      refine SatE.ret1 rfl rfl ?_
      exact ⟨by first | rfl | simp, hS.sub (List.nil_sublist _)⟩
    · (try simp only [cx, ne_eq] at h2)
      try (exfalso; (first | omega | exact h2 trivial | contradiction | exact h2 rfl); done)
      all_goals
      refine SatC.skip (SatE.thenC ?_)
      refine SatC.seq ?_
      refine SatC.region ?_
      first | refine SatL.pu (RunV.fieldAddrL rfl rfl rfl) rfl ?_ | refine SatL.pu (RunV.fieldAddr rfl rfl rfl) rfl ?_
      refine SatL.pu (RunV.load1 hS rfl rfl (by repeat constructor) rfl) rfl ?_
      first | refine SatL.pu (RunV.fieldAddrL rfl rfl rfl) rfl ?_ | refine SatL.pu (RunV.fieldAddr rfl rfl rfl) rfl ?_
      refine SatL.pu (RunV.load1 hS rfl rfl (by repeat constructor) rfl) rfl ?_
      first | refine SatL.pu (RunV.fieldAddrL rfl rfl rfl) rfl ?_ | refine SatL.pu (RunV.fieldAddr rfl rfl rfl) rfl ?_
      refine SatL.pu (RunV.load1 hS rfl rfl (by repeat constructor) rfl) rfl ?_
      first | refine SatL.pu (RunV.fieldAddrL rfl rfl rfl) rfl ?_ | refine SatL.pu (RunV.fieldAddr rfl rfl rfl) rfl ?_
      refine SatL.pu (RunV.load1 hS rfl rfl (by repeat constructor) rfl) rfl ?_
      refine SatL.op rfl (OpW.buildSlice1 hS rfl rfl rfl rfl rfl (by repeat constructor) rfl rfl rfl ?_)
      clear hS
      intro b48 w4 _ hS
      refine SatL.pu (RunV.build rfl (by simp [go_sem]; try rfl)) rfl ?_
      refine SatL.op rfl (OpW.box hS rfl rfl (by repeat constructor) ?_)
      clear hS
      intro b50 w5 _ hS
      refine SatL.pu (RunV.assign rfl) rfl ?_
      refine SatL.nil (SatE.thenC ?_)
      refine SatC.seq ?_
      refine SatC.seq ?_
      refine SatC.weak (e' := [(1, _), (4, _), (5, _), (7, _)]) (by repeat constructor) ?_
      refine SatC.region ?_
      refine SatL.pu (RunV.assign rfl) rfl ?_
      refine SatL.nil (SatE.thenC ?_)
      refine SatC.block ?_
      refine SatC.loopK (G := Nat × List Int × Int × Obj × Value × List (Nat × Obj)) (V := fun ⟨i, fr, g, o1, u, B⟩ => [(8, .int .i64 (i : Int))]) (Cn := [(1, _), (5, _), (7, _), (4, _)]) (I := fun ⟨i, fr, g, o1, u, B⟩ w' => i ≤ ys.length ∧ i ≤ 100 ∧ (1 ≤ fr.length ∧ fr.length ≤ i + 1) ∧ (0 ≤ g ∧ g ≤ i) ∧ IsMp (fun n : Int => Value.int .i64 n) o1 (kvs fr) ∧ Sl 3 1 u (fr.map fr1) B ∧ St w [] ((b50, C 41 (dr l m k u g)) :: (B ++ [(b, C 30 (dp l m k mb g)), (mb, o1)])) w') (μ := fun ⟨i, fr, g, o1, u, B⟩ => ys.length - i) (0, [f], 0, o, .slice (some ⟨b48, 0, none⟩) 1 1, [(b48, C 3 [.int .i64 f])]) ?_ (by repeat constructor) ?_
      · exact ⟨Nat.zero_le _, by omega, ⟨by simp, by simp⟩, ⟨by omega, by omega⟩, ho', Sl.own (rows := [fr1 f]) (cap := 1) (by simp) rfl (Nat.le_refl 1) (by decide) rfl, hS.sub (List.sublist_append_left _ _)⟩
      clear hS
      rintro ⟨i, fr, g, o1, u, B⟩ w6 ⟨hi, hi1, hf, hg, ho1, hsl, hS⟩
      refine SatC.weak (e' := [(1, _), (4, _), (5, _), (7, _), (8, _)]) (by repeat constructor) ?_
      refine SatC.seq ?_
      refine SatC.seq ?_
      refine SatC.region ?_
      refine SatL.pu (RunV.move rfl) rfl ?_
      refine SatL.pu (RunV.move rfl) rfl ?_
      first | refine SatL.pu (RunV.lenR (by assumption) rfl rfl) rfl ?_ | refine SatL.pu (RunV.lenS rfl rfl) rfl ?_
      refine SatL.pu (RunV.lss rfl rfl) rfl ?_
      refine SatL.pu (RunV.move rfl) rfl ?_
      refine SatL.guard rfl rfl rfl (fun h3 => ?_) (fun h3 => ?_)
      · (try simp only [cx, ne_eq] at h3)
        try (exfalso; (first | omega | exact h3 trivial | contradiction | exact h3 rfl); done)
        all_goals
        refine SatL.pu (RunV.move rfl) rfl ?_
        refine SatL.guard_y rfl rfl ?_
        refine SatL.pu (RunV.lss rfl rfl) rfl ?_
        refine SatL.pu (RunV.pick_t rfl rfl) rfl ?_
        refine SatL.nil (SatE.thenC ?_)
        refine SatC.cond rfl (fun h4 => ?_) (fun h4 => ?_)
        · (try simp only [cx, ne_eq] at h4)
          try (exfalso; (first | omega | exact h4 trivial | contradiction | exact h4 rfl); done)
          all_goals
          refine SatC.skip (SatE.thenC ?_)
          refine SatC.seq ?_
          refine SatC.block ?_
          refine SatC.seq ?_
          refine SatC.seq ?_
          obtain ⟨y, hy⟩ := get_some ys i (by omega)
          refine SatC.region ?_
          refine SatL.pu (RunV.move rfl) rfl ?_
          refine SatL.pu (RunV.move rfl) rfl ?_
          first | refine SatL.pu (RunV.indexR (by assumption) rfl rfl rfl (by omega) (by omega) rfl) rfl ?_ | refine SatL.pu (RunV.indexS rfl rfl rfl (by omega) (by omega) rfl) rfl ?_
          first | refine SatL.pu (RunV.fieldAddrL rfl rfl rfl) rfl ?_ | refine SatL.pu (RunV.fieldAddr rfl rfl rfl) rfl ?_
          first | refine SatL.pu (RunV.loadR1f (RdC.st (by assumption) hS List.not_mem_nil) rfl rfl (by first | assumption | exact map_get (by assumption)) rfl) rfl ?_ | refine SatL.pu (RunV.loadR1f (Sl.rd (by assumption) hS (by repeat constructor)) rfl rfl (by first | assumption | exact map_get (by assumption)) rfl) rfl ?_
          refine SatL.pu (RunV.eql rfl rfl) rfl ?_
          refine SatL.nil (SatE.thenC ?_)
          refine SatC.weak (e' := [(1, _), (4, _), (5, _), (7, _), (8, _), (66, _)]) (by repeat constructor) ?_
          refine SatC.cond rfl (fun h5 => ?_) (fun h5 => ?_)
          · (try simp only [cx, ne_eq] at h5)
            try (exfalso; (first | omega | exact h5 trivial | contradiction | exact h5 rfl); done)
            all_goals
            refine SatC.seq ?_
            refine SatC.drawnT 15 hS ((hS.sub (List.nil_sublist _))) (by kernel_rfl) ?_
            clear hS
            intro w7 hh hS hD
            refine SatD.take 0 rfl [] (by kernel_rfl) (fun _ _ _ h => h) rfl rfl hD (fun _ hw => RunV.move rfl) ?_
            refine SatD.take 1 rfl [] (by kernel_rfl) (fun _ _ _ h => h) rfl rfl hD (fun _ hw => RunV.move rfl) ?_
            refine SatD.take 2 rfl [] (by kernel_rfl) (fun _ _ _ h => h) rfl rfl hD (fun _ hw => RunV.move rfl) ?_
            first | refine SatD.take 3 rfl [] (by kernel_rfl) (fun _ _ _ h => h) rfl rfl hD (fun _ hw => RunV.indexR (by assumption) rfl rfl rfl (by omega) (by omega) rfl) ?_ | refine SatD.take 3 rfl [] (by kernel_rfl) (fun _ _ _ h => h) rfl rfl hD (fun _ hw => RunV.indexS rfl rfl rfl (by omega) (by omega) rfl) ?_
            first | refine SatD.take 4 rfl [] (by kernel_rfl) (fun _ _ _ h => h) rfl rfl hD (fun _ hw => RunV.fieldAddrL rfl rfl rfl) ?_ | refine SatD.take 4 rfl [] (by kernel_rfl) (fun _ _ _ h => h) rfl rfl hD (fun _ hw => RunV.fieldAddr rfl rfl rfl) ?_
            first | refine SatD.take 5 rfl [] (by kernel_rfl) (fun _ _ _ h => h) rfl rfl hD (fun _ hw => RunV.loadR1f (RdC.st (by assumption) hw List.not_mem_nil) rfl rfl (by first | assumption | exact map_get (by assumption)) rfl) ?_ | refine SatD.take 5 rfl [] (by kernel_rfl) (fun _ _ _ h => h) rfl rfl hD (fun _ hw => RunV.loadR1f (Sl.rd (by assumption) hw (by repeat constructor)) rfl rfl (by first | assumption | exact map_get (by assumption)) rfl) ?_
            refine SatD.take 7 rfl [] (by kernel_rfl) (fun _ _ _ h => h) rfl rfl hD (fun _ hw => RunV.move rfl) ?_
            refine SatD.take 8 rfl [] (by kernel_rfl) (fun _ _ _ h => h) rfl rfl hD (fun _ hw => RunV.move rfl) ?_
            refine SatD.take 9 rfl [] (by kernel_rfl) (fun _ _ _ h => h) rfl rfl hD (fun _ hw => RunV.move rfl) ?_
            first | refine SatD.take 10 rfl [] (by kernel_rfl) (fun _ _ _ h => h) rfl rfl hD (fun _ hw => RunV.indexR (by assumption) rfl rfl rfl (by omega) (by omega) rfl) ?_ | refine SatD.take 10 rfl [] (by kernel_rfl) (fun _ _ _ h => h) rfl rfl hD (fun _ hw => RunV.indexS rfl rfl rfl (by omega) (by omega) rfl) ?_
            first | refine SatD.take 11 rfl [] (by kernel_rfl) (fun _ _ _ h => h) rfl rfl hD (fun _ hw => RunV.fieldAddrL rfl rfl rfl) ?_ | refine SatD.take 11 rfl [] (by kernel_rfl) (fun _ _ _ h => h) rfl rfl hD (fun _ hw => RunV.fieldAddr rfl rfl rfl) ?_
            first | refine SatD.take 12 rfl [] (by kernel_rfl) (fun _ _ _ h => h) rfl rfl hD (fun _ hw => RunV.loadR1f (RdC.st (by assumption) hw List.not_mem_nil) rfl rfl (by first | assumption | exact map_get (by assumption)) rfl) ?_ | refine SatD.take 12 rfl [] (by kernel_rfl) (fun _ _ _ h => h) rfl rfl hD (fun _ hw => RunV.loadR1f (Sl.rd (by assumption) hw (by repeat constructor)) rfl rfl (by first | assumption | exact map_get (by assumption)) rfl) ?_
            refine SatD.eff 6 (by kernel_rfl) rfl rfl (OpW.enter rfl rfl rfl rfl (confirm_any _ (hS.ownOf (by repeat constructor)) (by assumption) (by omega)) ?_)
            rintro r8 w8 ⟨rfl, o8, ho8, h⟩
            replace hS := hS.callR (A := [(b, C 30 (dp l m k mb g)), (mb, o1)]) (by repeat constructor) h
            refine keepS (hS.sb (by repeat constructor)) (fun hD => ?_)
            refine SatD.eff 13 (by kernel_rfl) rfl rfl (OpW.enter rfl rfl rfl rfl (rconfirm_any _ (by assumption) (hS.ownOf (by repeat constructor)) (by omega)) ?_)
            rintro r9 w9 ⟨rfl, v9, B9, hsl9, h⟩
            replace hS := hS.callR (A := (b50, C 41 (dr l m k u g)) :: B) (by repeat constructor) h
            have hf2 : 1 ≤ (if conf k fr y.2 = true then fr ++ [y.2] else fr).length ∧ (if conf k fr y.2 = true then fr ++ [y.2] else fr).length ≤ fr.length + 1 := (by split <;> simp <;> omega)
            generalize (if conf k fr y.2 = true then fr ++ [y.2] else fr) = fr2 at *
            refine keepS (hS.sb (by repeat constructor)) (fun hD => ?_)
            refine SatD.take 14 rfl [] (by kernel_rfl) (fun _ _ _ h => h) rfl rfl hD (fun _ hw => RunV.bneq rfl rfl rfl) ?_
            refine SatD.done 0 (by kernel_rfl) (SatE.thenC ?_)
            clear hD
            refine SatC.weak (e' := [(1, _), (4, _), (5, _), (7, _), (8, _), (81, _)]) (by repeat constructor) ?_
            refine SatC.cond rfl (fun h6 => ?_) (fun h6 => ?_)
            · (try simp only [cx, ne_eq] at h6)
              try (exfalso; (first | omega | exact h6 trivial | contradiction | exact h6 rfl); done)
              all_goals
              refine SatC.seq ?_
              refine SatC.region ?_
              refine SatL.pu (RunV.assign rfl) rfl ?_
              refine SatL.nil (SatE.thenC ?_)
              refine SatC.ret (SatE.then_ret (SatE.blk_ret (SatE.then_ret (SatE.then_ret (SatE.blk_ret (SatE.then_ret ?_))))))
              refine SatE.ret1 rfl rfl ?_
              exact ⟨by first | rfl | simp, hS.sub (List.nil_sublist _)⟩
            · (try simp only [cx, ne_eq] at h6)
              try (exfalso; (first | omega | exact h6 trivial | contradiction | exact h6 rfl); done)
              all_goals
              refine SatC.skip (SatE.thenC ?_)
              refine SatC.seq ?_
              first | have hs := hsl9.slv | have hs := hsl.slv
              obtain ⟨c2, hv2⟩ := hs
              simp only [List.length_map] at hv2
              refine SatC.drawnT 37 hS (hS) (by kernel_rfl) ?_
              clear hS
              intro w10 hh hS hD
              refine SatD.take 0 rfl [] (by kernel_rfl) (fun _ _ _ h => h) rfl rfl hD (fun _ hw => RunV.move rfl) ?_
              refine SatD.take 2 rfl [] (by kernel_rfl) (fun _ _ _ h => h) rfl rfl hD (fun _ hw => RunV.move rfl) ?_
              refine SatD.eff 1 (by kernel_rfl) rfl rfl (OpW.enter rfl rfl rfl rfl (dwait_any (hS.ownOf (by repeat constructor)) (by assumption) (by omega)) ?_)
              rintro r11 w11 ⟨rfl, h⟩
              replace hS := St.callN hS h
              refine keepS (hS.sb (by repeat constructor)) (fun hD => ?_)
              refine SatD.eff 3 (by kernel_rfl) rfl rfl (OpW.enter rfl rfl rfl rfl (rwait_any (by assumption) (hS.ownOf (by repeat constructor)) (by omega)) ?_)
              rintro r12 w12 ⟨rfl, h⟩
              replace hS := St.callN hS h
              refine keepS (hS.sb (by repeat constructor)) (fun hD => ?_)
              refine SatD.take 4 rfl [] (by kernel_rfl) (fun _ _ _ h => h) rfl rfl hD (fun _ hw => RunV.neq rfl rfl) ?_
              refine SatD.take 5 rfl [] (by kernel_rfl) (fun _ _ _ h => h) rfl rfl hD (fun _ hw => RunV.move rfl) ?_
              refine SatD.ways 105 rfl (fun h7 => ?_) (fun h7 => ?_)
              · (try simp only [cx, ne_eq] at h7)
                try (exfalso; (first | omega | exact h7 trivial | contradiction | exact h7 rfl); done)
                all_goals
                refine SatD.skip 6 rfl [] (by kernel_rfl) (fun _ _ _ h => h) rfl rfl hD ?_
                refine SatD.skip 7 rfl [] (by kernel_rfl) (fun _ _ _ h => h) rfl rfl hD ?_
                refine SatD.skip 8 rfl [] (by kernel_rfl) (fun _ _ _ h => h) rfl rfl hD ?_
                refine SatD.skip 9 rfl [] (by kernel_rfl) (fun _ _ _ h => h) rfl rfl hD ?_
                refine SatD.skip 10 rfl [] (by kernel_rfl) (fun _ _ _ h => h) rfl rfl hD ?_
                refine SatD.skip 11 rfl [] (by kernel_rfl) (fun _ _ _ h => h) rfl rfl hD ?_
                refine SatD.skip 12 rfl [] (by kernel_rfl) (fun _ _ _ h => h) rfl rfl hD ?_
                refine SatD.take 13 rfl [] (by kernel_rfl) (fun _ _ _ h => h) rfl rfl hD (fun _ hw => RunV.pick_t rfl rfl) ?_
                refine SatD.take 14 rfl [] (by kernel_rfl) (fun _ _ _ h => h) rfl rfl hD (fun _ hw => RunV.move rfl) ?_
                refine SatD.skip 15 rfl [] (by kernel_rfl) (fun _ _ _ h => h) rfl rfl hD ?_
                refine SatD.skip 16 rfl [] (by kernel_rfl) (fun _ _ _ h => h) rfl rfl hD ?_
                refine SatD.skip 17 rfl [] (by kernel_rfl) (fun _ _ _ h => h) rfl rfl hD ?_
                refine SatD.skip 18 rfl [] (by kernel_rfl) (fun _ _ _ h => h) rfl rfl hD ?_
                refine SatD.skip 19 rfl [] (by kernel_rfl) (fun _ _ _ h => h) rfl rfl hD ?_
                refine SatD.skip 20 rfl [] (by kernel_rfl) (fun _ _ _ h => h) rfl rfl hD ?_
                refine SatD.skip 21 rfl [] (by kernel_rfl) (fun _ _ _ h => h) rfl rfl hD ?_
                refine SatD.skip 22 rfl [] (by kernel_rfl) (fun _ _ _ h => h) rfl rfl hD ?_
                refine SatD.skip 23 rfl [] (by kernel_rfl) (fun _ _ _ h => h) rfl rfl hD ?_
                refine SatD.take 24 rfl [] (by kernel_rfl) (fun _ _ _ h => h) rfl rfl hD (fun _ hw => RunV.pick_t rfl rfl) ?_
                refine SatD.take 25 rfl [] (by kernel_rfl) (fun _ _ _ h => h) rfl rfl hD (fun _ hw => RunV.move rfl) ?_
                refine SatD.skip 26 rfl [] (by kernel_rfl) (fun _ _ _ h => h) rfl rfl hD ?_
                refine SatD.skip 27 rfl [] (by kernel_rfl) (fun _ _ _ h => h) rfl rfl hD ?_
                refine SatD.skip 28 rfl [] (by kernel_rfl) (fun _ _ _ h => h) rfl rfl hD ?_
                refine SatD.skip 29 rfl [] (by kernel_rfl) (fun _ _ _ h => h) rfl rfl hD ?_
                refine SatD.skip 30 rfl [] (by kernel_rfl) (fun _ _ _ h => h) rfl rfl hD ?_
                refine SatD.skip 31 rfl [] (by kernel_rfl) (fun _ _ _ h => h) rfl rfl hD ?_
                refine SatD.skip 32 rfl [] (by kernel_rfl) (fun _ _ _ h => h) rfl rfl hD ?_
                refine SatD.skip 33 rfl [] (by kernel_rfl) (fun _ _ _ h => h) rfl rfl hD ?_
                refine SatD.skip 34 rfl [] (by kernel_rfl) (fun _ _ _ h => h) rfl rfl hD ?_
                refine SatD.skip 35 rfl [] (by kernel_rfl) (fun _ _ _ h => h) rfl rfl hD ?_
                refine SatD.take 36 rfl [] (by kernel_rfl) (fun _ _ _ h => h) rfl rfl hD (fun _ hw => RunV.pick_t rfl rfl) ?_
                refine SatD.done 0 (by kernel_rfl) (SatE.thenC ?_)
                clear hD
                refine SatC.weak (e' := [(1, _), (4, _), (5, _), (7, _), (8, _), (136, _)]) (by repeat constructor) ?_
                refine SatC.cond_t rfl ?_
                refine SatC.seq ?_
                refine SatC.region ?_
                refine SatL.pu (RunV.assign rfl) rfl ?_
                refine SatL.nil (SatE.thenC ?_)
                refine SatC.ret (SatE.blk_ret (SatE.then_ret (SatE.then_ret (SatE.blk_ret (SatE.then_ret ?_)))))
                refine SatE.ret1 rfl rfl ?_
                exact ⟨by first | rfl | simp, hS.sub (List.nil_sublist _)⟩
              · (try simp only [cx, ne_eq] at h7)
                try (exfalso; (first | omega | exact h7 trivial | contradiction | exact h7 rfl); done)
                all_goals
                refine SatD.take 6 rfl [] (by kernel_rfl) (fun _ _ _ h => h) rfl rfl hD (fun _ hw => RunV.move rfl) ?_
                refine SatD.take 8 rfl [] (by kernel_rfl) (fun _ _ _ h => h) rfl rfl hD (fun _ hw => RunV.move rfl) ?_
                first | refine SatD.take 9 rfl [] (by kernel_rfl) (fun _ _ _ h => h) rfl rfl hD (fun _ hw => RunV.nil_ptr rfl) ?_ | refine SatD.take 9 rfl [] (by kernel_rfl) (fun _ _ _ h => h) rfl rfl hD (fun _ hw => RunV.nil_func rfl) ?_ | refine SatD.take 9 rfl [] (by kernel_rfl) (fun _ _ _ h => h) rfl rfl hD (fun _ hw => RunV.nil_yield rfl) ?_
                first | refine SatD.take 10 rfl [] (by kernel_rfl) (fun _ _ _ h => h) rfl rfl hD (fun _ hw => RunV.fieldAddrL rfl rfl rfl) ?_ | refine SatD.take 10 rfl [] (by kernel_rfl) (fun _ _ _ h => h) rfl rfl hD (fun _ hw => RunV.fieldAddr rfl rfl rfl) ?_
                refine SatD.take 11 rfl [] (by kernel_rfl) (fun _ _ _ h => h) rfl rfl hD (fun _ hw => RunV.load1 hw rfl rfl (by repeat constructor) rfl) ?_
                refine SatD.eff 7 (by kernel_rfl) rfl rfl (OpW.enter rfl rfl rfl rfl (elapsed_any (hS.ownOf (by repeat constructor)) (by assumption) (by omega)) ?_)
                rintro r13 w13 ⟨rfl, h⟩
                replace hS := St.callN hS h
                refine keepS (hS.sb (by repeat constructor)) (fun hD => ?_)
                refine SatD.take 12 rfl [] (by kernel_rfl) (fun _ _ _ h => h) rfl rfl hD (fun _ hw => RunV.neq rfl rfl) ?_
                refine SatD.take 13 rfl [] (by kernel_rfl) (fun _ _ _ h => h) rfl rfl hD (fun _ hw => RunV.pick_f rfl rfl) ?_
                refine SatD.take 14 rfl [] (by kernel_rfl) (fun _ _ _ h => h) rfl rfl hD (fun _ hw => RunV.move rfl) ?_
                refine SatD.ways 114 rfl (fun h8 => ?_) (fun h8 => ?_)
                · (try simp only [cx, ne_eq] at h8)
                  try (exfalso; (first | omega | exact h8 trivial | contradiction | exact h8 rfl); done)
                  all_goals
                  refine SatD.skip 15 rfl [] (by kernel_rfl) (fun _ _ _ h => h) rfl rfl hD ?_
                  refine SatD.skip 16 rfl [] (by kernel_rfl) (fun _ _ _ h => h) rfl rfl hD ?_
                  refine SatD.skip 17 rfl [] (by kernel_rfl) (fun _ _ _ h => h) rfl rfl hD ?_
                  refine SatD.skip 18 rfl [] (by kernel_rfl) (fun _ _ _ h => h) rfl rfl hD ?_
                  refine SatD.skip 19 rfl [] (by kernel_rfl) (fun _ _ _ h => h) rfl rfl hD ?_
                  refine SatD.skip 20 rfl [] (by kernel_rfl) (fun _ _ _ h => h) rfl rfl hD ?_
                  refine SatD.skip 21 rfl [] (by kernel_rfl) (fun _ _ _ h => h) rfl rfl hD ?_
                  refine SatD.skip 22 rfl [] (by kernel_rfl) (fun _ _ _ h => h) rfl rfl hD ?_
                  refine SatD.skip 23 rfl [] (by kernel_rfl) (fun _ _ _ h => h) rfl rfl hD ?_
                  refine SatD.take 24 rfl [] (by kernel_rfl) (fun _ _ _ h => h) rfl rfl hD (fun _ hw => RunV.pick_t rfl rfl) ?_
                  refine SatD.take 25 rfl [] (by kernel_rfl) (fun _ _ _ h => h) rfl rfl hD (fun _ hw => RunV.move rfl) ?_
                  refine SatD.skip 26 rfl [] (by kernel_rfl) (fun _ _ _ h => h) rfl rfl hD ?_
                  refine SatD.skip 27 rfl [] (by kernel_rfl) (fun _ _ _ h => h) rfl rfl hD ?_
                  refine SatD.skip 28 rfl [] (by kernel_rfl) (fun _ _ _ h => h) rfl rfl hD ?_
                  refine SatD.skip 29 rfl [] (by kernel_rfl) (fun _ _ _ h => h) rfl rfl hD ?_
                  refine SatD.skip 30 rfl [] (by kernel_rfl) (fun _ _ _ h => h) rfl rfl hD ?_
                  refine SatD.skip 31 rfl [] (by kernel_rfl) (fun _ _ _ h => h) rfl rfl hD ?_
                  refine SatD.skip 32 rfl [] (by kernel_rfl) (fun _ _ _ h => h) rfl rfl hD ?_
                  refine SatD.skip 33 rfl [] (by kernel_rfl) (fun _ _ _ h => h) rfl rfl hD ?_
                  refine SatD.skip 34 rfl [] (by kernel_rfl) (fun _ _ _ h => h) rfl rfl hD ?_
                  refine SatD.skip 35 rfl [] (by kernel_rfl) (fun _ _ _ h => h) rfl rfl hD ?_
                  refine SatD.take 36 rfl [] (by kernel_rfl) (fun _ _ _ h => h) rfl rfl hD (fun _ hw => RunV.pick_t rfl rfl) ?_
                  refine SatD.done 0 (by kernel_rfl) (SatE.thenC ?_)
                  clear hD
                  refine SatC.weak (e' := [(1, _), (4, _), (5, _), (7, _), (8, _), (136, _)]) (by repeat constructor) ?_
                  refine SatC.cond_t rfl ?_
                  refine SatC.seq ?_
                  refine SatC.region ?_
                  refine SatL.pu (RunV.assign rfl) rfl ?_
                  refine SatL.nil (SatE.thenC ?_)
                  refine SatC.ret (SatE.blk_ret (SatE.then_ret (SatE.then_ret (SatE.blk_ret (SatE.then_ret ?_)))))
                  refine SatE.ret1 rfl rfl ?_
                  exact ⟨by first | rfl | simp, hS.sub (List.nil_sublist _)⟩
                · (try simp only [cx, ne_eq] at h8)
                  try (exfalso; (first | omega | exact h8 trivial | contradiction | exact h8 rfl); done)
                  all_goals
                  refine SatD.take 15 rfl [] (by kernel_rfl) (fun _ _ _ h => h) rfl rfl hD (fun _ hw => RunV.move rfl) ?_
                  refine SatD.take 17 rfl [] (by kernel_rfl) (fun _ _ _ h => h) rfl rfl hD (fun _ hw => RunV.move rfl) ?_
                  first | refine SatD.take 18 rfl [] (by kernel_rfl) (fun _ _ _ h => h) rfl rfl hD (fun _ hw => RunV.nil_ptr rfl) ?_ | refine SatD.take 18 rfl [] (by kernel_rfl) (fun _ _ _ h => h) rfl rfl hD (fun _ hw => RunV.nil_func rfl) ?_ | refine SatD.take 18 rfl [] (by kernel_rfl) (fun _ _ _ h => h) rfl rfl hD (fun _ hw => RunV.nil_yield rfl) ?_
                  first | refine SatD.take 19 rfl [] (by kernel_rfl) (fun _ _ _ h => h) rfl rfl hD (fun _ hw => RunV.fieldAddrL rfl rfl rfl) ?_ | refine SatD.take 19 rfl [] (by kernel_rfl) (fun _ _ _ h => h) rfl rfl hD (fun _ hw => RunV.fieldAddr rfl rfl rfl) ?_
                  refine SatD.take 20 rfl [] (by kernel_rfl) (fun _ _ _ h => h) rfl rfl hD (fun _ hw => RunV.load1 hw rfl rfl (by repeat constructor) rfl) ?_
                  first | refine SatD.take 21 rfl [] (by kernel_rfl) (fun _ _ _ h => h) rfl rfl hD (fun _ hw => RunV.lenR (by assumption) rfl rfl) ?_ | refine SatD.take 21 rfl [] (by kernel_rfl) (fun _ _ _ h => h) rfl rfl hD (fun _ hw => RunV.lenS rfl rfl) ?_
                  refine SatD.take 22 rfl [] (by kernel_rfl) (fun _ _ _ h => h) rfl rfl hD (fun _ hw => RunV.sub rfl rfl (by first | exact wrapI64 (by omega) | rfl)) ?_
                  refine SatD.eff 16 (by kernel_rfl) rfl rfl (OpW.enter rfl rfl rfl rfl (have_any (hS.ownOf (by repeat constructor)) (by assumption) (by omega)) ?_)
                  rintro r14 w14 ⟨rfl, h⟩
                  replace hS := St.callN hS h
                  refine keepS (hS.sb (by repeat constructor)) (fun hD => ?_)
                  refine SatD.take 23 rfl [] (by kernel_rfl) (fun _ _ _ h => h) rfl rfl hD (fun _ hw => RunV.neq rfl rfl) ?_
                  refine SatD.take 24 rfl [] (by kernel_rfl) (fun _ _ _ h => h) rfl rfl hD (fun _ hw => RunV.pick_f rfl rfl) ?_
                  refine SatD.take 25 rfl [] (by kernel_rfl) (fun _ _ _ h => h) rfl rfl hD (fun _ hw => RunV.move rfl) ?_
                  refine SatD.ways 125 rfl (fun h9 => ?_) (fun h9 => ?_)
                  · (try simp only [cx, ne_eq] at h9)
                    try (exfalso; (first | omega | exact h9 trivial | contradiction | exact h9 rfl); done)
                    all_goals
                    refine SatD.skip 26 rfl [] (by kernel_rfl) (fun _ _ _ h => h) rfl rfl hD ?_
                    refine SatD.skip 27 rfl [] (by kernel_rfl) (fun _ _ _ h => h) rfl rfl hD ?_
                    refine SatD.skip 28 rfl [] (by kernel_rfl) (fun _ _ _ h => h) rfl rfl hD ?_
                    refine SatD.skip 29 rfl [] (by kernel_rfl) (fun _ _ _ h => h) rfl rfl hD ?_
                    refine SatD.skip 30 rfl [] (by kernel_rfl) (fun _ _ _ h => h) rfl rfl hD ?_
                    refine SatD.skip 31 rfl [] (by kernel_rfl) (fun _ _ _ h => h) rfl rfl hD ?_
                    refine SatD.skip 32 rfl [] (by kernel_rfl) (fun _ _ _ h => h) rfl rfl hD ?_
                    refine SatD.skip 33 rfl [] (by kernel_rfl) (fun _ _ _ h => h) rfl rfl hD ?_
                    refine SatD.skip 34 rfl [] (by kernel_rfl) (fun _ _ _ h => h) rfl rfl hD ?_
                    refine SatD.skip 35 rfl [] (by kernel_rfl) (fun _ _ _ h => h) rfl rfl hD ?_
                    refine SatD.take 36 rfl [] (by kernel_rfl) (fun _ _ _ h => h) rfl rfl hD (fun _ hw => RunV.pick_t rfl rfl) ?_
                    refine SatD.done 0 (by kernel_rfl) (SatE.thenC ?_)
                    clear hD
                    refine SatC.weak (e' := [(1, _), (4, _), (5, _), (7, _), (8, _), (136, _)]) (by repeat constructor) ?_
                    refine SatC.cond_t rfl ?_
                    refine SatC.seq ?_
                    refine SatC.region ?_
                    refine SatL.pu (RunV.assign rfl) rfl ?_
                    refine SatL.nil (SatE.thenC ?_)
                    refine SatC.ret (SatE.blk_ret (SatE.then_ret (SatE.then_ret (SatE.blk_ret (SatE.then_ret ?_)))))
                    refine SatE.ret1 rfl rfl ?_
                    exact ⟨by first | rfl | simp, hS.sub (List.nil_sublist _)⟩
                  · (try simp only [cx, ne_eq] at h9)
                    try (exfalso; (first | omega | exact h9 trivial | contradiction | exact h9 rfl); done)
                    all_goals
                    refine SatD.take 26 rfl [] (by kernel_rfl) (fun _ _ _ h => h) rfl rfl hD (fun _ hw => RunV.move rfl) ?_
                    refine SatD.take 28 rfl [] (by kernel_rfl) (fun _ _ _ h => h) rfl rfl hD (fun _ hw => RunV.move rfl) ?_
                    first | refine SatD.take 29 rfl [] (by kernel_rfl) (fun _ _ _ h => h) rfl rfl hD (fun _ hw => RunV.nil_ptr rfl) ?_ | refine SatD.take 29 rfl [] (by kernel_rfl) (fun _ _ _ h => h) rfl rfl hD (fun _ hw => RunV.nil_func rfl) ?_ | refine SatD.take 29 rfl [] (by kernel_rfl) (fun _ _ _ h => h) rfl rfl hD (fun _ hw => RunV.nil_yield rfl) ?_
                    first | refine SatD.take 30 rfl [] (by kernel_rfl) (fun _ _ _ h => h) rfl rfl hD (fun _ hw => RunV.fieldAddrL rfl rfl rfl) ?_ | refine SatD.take 30 rfl [] (by kernel_rfl) (fun _ _ _ h => h) rfl rfl hD (fun _ hw => RunV.fieldAddr rfl rfl rfl) ?_
                    refine SatD.take 31 rfl [] (by kernel_rfl) (fun _ _ _ h => h) rfl rfl hD (fun _ hw => RunV.load1 hw rfl rfl (by repeat constructor) rfl) ?_
                    refine SatD.take 32 rfl [] (by kernel_rfl) (fun _ _ _ h => h) rfl rfl hD (fun _ hw => RunV.move rfl) ?_
                    refine SatD.eff 27 (by kernel_rfl) rfl rfl (OpW.enter rfl rfl rfl rfl (due_any (hS.ownOf (by repeat constructor)) (by assumption) (by omega)) ?_)
                    rintro r15 w15 ⟨rfl, h⟩
                    replace hS := St.callN hS h
                    refine keepS (hS.sb (by repeat constructor)) (fun hD => ?_)
                    refine SatD.eff 33 (by kernel_rfl) rfl rfl (OpW.enter rfl rfl rfl rfl (rwait_any (by assumption) (hS.ownOf (by repeat constructor)) (by omega)) ?_)
                    rintro r16 w16 ⟨rfl, h⟩
                    replace hS := St.callN hS h
                    refine keepS (hS.sb (by repeat constructor)) (fun hD => ?_)
                    refine SatD.take 34 rfl [] (by kernel_rfl) (fun _ _ _ h => h) rfl rfl hD (fun _ hw => RunV.geq rfl rfl) ?_
                    refine SatD.take 35 rfl [] (by kernel_rfl) (fun _ _ _ h => h) rfl rfl hD (fun _ hw => RunV.bneq rfl rfl rfl) ?_
                    refine SatD.take 36 rfl [] (by kernel_rfl) (fun _ _ _ h => h) rfl rfl hD (fun _ hw => RunV.pick_f rfl rfl) ?_
                    refine SatD.done 0 (by kernel_rfl) (SatE.thenC ?_)
                    clear hD
                    refine SatC.weak (e' := [(1, _), (4, _), (5, _), (7, _), (8, _), (136, _)]) (by repeat constructor) ?_
                    refine SatC.cond rfl (fun h10 => ?_) (fun h10 => ?_)
                    · (try simp only [cx, ne_eq] at h10)
                      try (exfalso; (first | omega | exact h10 trivial | contradiction | exact h10 rfl); done)
                      all_goals
                      refine SatC.seq ?_
                      refine SatC.region ?_
                      refine SatL.pu (RunV.assign rfl) rfl ?_
                      refine SatL.nil (SatE.thenC ?_)
                      refine SatC.ret (SatE.blk_ret (SatE.then_ret (SatE.then_ret (SatE.blk_ret (SatE.then_ret ?_)))))
                      refine SatE.ret1 rfl rfl ?_
                      exact ⟨by first | rfl | simp, hS.sub (List.nil_sublist _)⟩
                    · (try simp only [cx, ne_eq] at h10)
                      try (exfalso; (first | omega | exact h10 trivial | contradiction | exact h10 rfl); done)
                      all_goals
                      refine SatC.skip (SatE.blk_normal (SatE.thenC ?_))
                      refine SatC.region ?_
                      refine SatL.pu (RunV.move rfl) rfl ?_
                      refine SatL.pu (RunV.add rfl rfl (by first | exact wrapI64 (by omega) | rfl)) rfl ?_
                      refine SatL.pu (RunV.assign rfl) rfl ?_
                      refine SatL.nil ?_
                      refine SatE.again ((i + 1, fr2, g, o8, v9, B9)) ?_ (by first | omega | (dsimp only; omega)) (by repeat constructor)
                      exact ⟨by omega, by omega, ⟨by omega, by omega⟩, ⟨by omega, by omega⟩, ho8, hsl9, by simpa using hS⟩
          · (try simp only [cx, ne_eq] at h5)
            try (exfalso; (first | omega | exact h5 trivial | contradiction | exact h5 rfl); done)
            all_goals
            refine SatC.seq ?_
            refine SatC.region ?_
            refine SatL.pu (RunV.move rfl) rfl ?_
            refine SatL.pu (RunV.move rfl) rfl ?_
            first | refine SatL.pu (RunV.nil_ptr rfl) rfl ?_ | refine SatL.pu (RunV.nil_func rfl) rfl ?_ | refine SatL.pu (RunV.nil_yield rfl) rfl ?_
            first | refine SatL.pu (RunV.fieldAddrL rfl rfl rfl) rfl ?_ | refine SatL.pu (RunV.fieldAddr rfl rfl rfl) rfl ?_
            refine SatL.pu (RunV.load1 hS rfl rfl (by repeat constructor) rfl) rfl ?_
            refine SatL.pu (RunV.add rfl rfl (by first | exact wrapI64 (by omega) | rfl)) rfl ?_
            first | refine SatL.pu (RunV.nil_ptr rfl) rfl ?_ | refine SatL.pu (RunV.nil_func rfl) rfl ?_ | refine SatL.pu (RunV.nil_yield rfl) rfl ?_
            first | refine SatL.pu (RunV.fieldAddrL rfl rfl rfl) rfl ?_ | refine SatL.pu (RunV.fieldAddr rfl rfl rfl) rfl ?_
            refine SatL.op rfl (OpW.store hS rfl rfl (by repeat constructor) (by repeat constructor) (by repeat constructor) rfl rfl ?_)
            clear hS
            intro w7 hS
            refine SatL.nil (SatE.thenC ?_)
            refine SatC.seq ?_
            refine SatC.drawnT 10 hS ((hS.sub (List.sublist_append_left ((b50, C 41 (dr l m k u (g + 1))) :: B) [(b, C 30 (dp l m k mb g)), (mb, o1)]))) (by kernel_rfl) ?_
            clear hS
            intro w8 hh hS hD
            refine SatD.take 0 rfl [] (by kernel_rfl) (fun _ _ _ h => h) rfl rfl hD (fun _ hw => RunV.move rfl) ?_
            refine SatD.take 2 rfl [] (by kernel_rfl) (fun _ _ _ h => h) rfl rfl hD (fun _ hw => RunV.move rfl) ?_
            first | refine SatD.take 3 rfl [] (by kernel_rfl) (fun _ _ _ h => h) rfl rfl hD (fun _ hw => RunV.nil_ptr rfl) ?_ | refine SatD.take 3 rfl [] (by kernel_rfl) (fun _ _ _ h => h) rfl rfl hD (fun _ hw => RunV.nil_func rfl) ?_ | refine SatD.take 3 rfl [] (by kernel_rfl) (fun _ _ _ h => h) rfl rfl hD (fun _ hw => RunV.nil_yield rfl) ?_
            first | refine SatD.take 4 rfl [] (by kernel_rfl) (fun _ _ _ h => h) rfl rfl hD (fun _ hw => RunV.fieldAddrL rfl rfl rfl) ?_ | refine SatD.take 4 rfl [] (by kernel_rfl) (fun _ _ _ h => h) rfl rfl hD (fun _ hw => RunV.fieldAddr rfl rfl rfl) ?_
            refine SatD.take 5 rfl [] (by kernel_rfl) (fun _ _ _ h => h) rfl rfl hD (fun _ hw => RunV.load1 hw rfl rfl (by repeat constructor) rfl) ?_
            refine SatD.take 6 rfl [] (by kernel_rfl) (fun _ _ _ h => h) rfl rfl hD (fun _ hw => RunV.move rfl) ?_
            refine SatD.eff 1 (by kernel_rfl) rfl rfl (OpW.enter rfl rfl rfl rfl (tick_any (hS.ownOf (by repeat constructor)) (by assumption) (by omega) (by omega)) ?_)
            rintro r9 w9 ⟨rfl, h⟩
            replace hS := hS.callR (A := [(b, C 30 (dp l m k mb g)), (mb, o1)]) (by repeat constructor) h
            refine keepS (hS.sb (by repeat constructor)) (fun hD => ?_)
            refine SatD.eff 7 (by kernel_rfl) rfl rfl (OpW.enter rfl rfl rfl rfl (rwait_any (by assumption) (hS.ownOf (by repeat constructor)) (by omega)) ?_)
            rintro r10 w10 ⟨rfl, h⟩
            replace hS := St.callN hS h
            refine keepS (hS.sb (by repeat constructor)) (fun hD => ?_)
            refine SatD.take 8 rfl [] (by kernel_rfl) (fun _ _ _ h => h) rfl rfl hD (fun _ hw => RunV.geq rfl rfl) ?_
            refine SatD.take 9 rfl [] (by kernel_rfl) (fun _ _ _ h => h) rfl rfl hD (fun _ hw => RunV.bneq rfl rfl rfl) ?_
            refine SatD.done 0 (by kernel_rfl) (SatE.thenC ?_)
            clear hD
            refine SatC.weak (e' := [(1, _), (4, _), (5, _), (7, _), (8, _), (99, _)]) (by repeat constructor) ?_
            refine SatC.cond rfl (fun h6 => ?_) (fun h6 => ?_)
            · (try simp only [cx, ne_eq] at h6)
              try (exfalso; (first | omega | exact h6 trivial | contradiction | exact h6 rfl); done)
              all_goals
              refine SatC.seq ?_
              refine SatC.region ?_
              refine SatL.pu (RunV.assign rfl) rfl ?_
              refine SatL.nil (SatE.thenC ?_)
              refine SatC.ret (SatE.then_ret (SatE.blk_ret (SatE.then_ret (SatE.then_ret (SatE.blk_ret (SatE.then_ret ?_))))))
              refine SatE.ret1 rfl rfl ?_
              exact ⟨by first | rfl | simp, hS.sub (List.nil_sublist _)⟩
            · (try simp only [cx, ne_eq] at h6)
              try (exfalso; (first | omega | exact h6 trivial | contradiction | exact h6 rfl); done)
              all_goals
              refine SatC.skip (SatE.thenC ?_)
              refine SatC.seq ?_
              first | have hs := hsl9.slv | have hs := hsl.slv
              obtain ⟨c2, hv2⟩ := hs
              simp only [List.length_map] at hv2
              refine SatC.drawnT 37 hS (hS) (by kernel_rfl) ?_
              clear hS
              intro w11 hh hS hD
              refine SatD.take 0 rfl [] (by kernel_rfl) (fun _ _ _ h => h) rfl rfl hD (fun _ hw => RunV.move rfl) ?_
              refine SatD.take 2 rfl [] (by kernel_rfl) (fun _ _ _ h => h) rfl rfl hD (fun _ hw => RunV.move rfl) ?_
              refine SatD.eff 1 (by kernel_rfl) rfl rfl (OpW.enter rfl rfl rfl rfl (dwait_any (hS.ownOf (by repeat constructor)) (by assumption) (by omega)) ?_)
              rintro r12 w12 ⟨rfl, h⟩
              replace hS := St.callN hS h
              refine keepS (hS.sb (by repeat constructor)) (fun hD => ?_)
              refine SatD.eff 3 (by kernel_rfl) rfl rfl (OpW.enter rfl rfl rfl rfl (rwait_any (by assumption) (hS.ownOf (by repeat constructor)) (by omega)) ?_)
              rintro r13 w13 ⟨rfl, h⟩
              replace hS := St.callN hS h
              refine keepS (hS.sb (by repeat constructor)) (fun hD => ?_)
              refine SatD.take 4 rfl [] (by kernel_rfl) (fun _ _ _ h => h) rfl rfl hD (fun _ hw => RunV.neq rfl rfl) ?_
              refine SatD.take 5 rfl [] (by kernel_rfl) (fun _ _ _ h => h) rfl rfl hD (fun _ hw => RunV.move rfl) ?_
              refine SatD.ways 105 rfl (fun h7 => ?_) (fun h7 => ?_)
              · (try simp only [cx, ne_eq] at h7)
                try (exfalso; (first | omega | exact h7 trivial | contradiction | exact h7 rfl); done)
                all_goals
                refine SatD.skip 6 rfl [] (by kernel_rfl) (fun _ _ _ h => h) rfl rfl hD ?_
                refine SatD.skip 7 rfl [] (by kernel_rfl) (fun _ _ _ h => h) rfl rfl hD ?_
                refine SatD.skip 8 rfl [] (by kernel_rfl) (fun _ _ _ h => h) rfl rfl hD ?_
                refine SatD.skip 9 rfl [] (by kernel_rfl) (fun _ _ _ h => h) rfl rfl hD ?_
                refine SatD.skip 10 rfl [] (by kernel_rfl) (fun _ _ _ h => h) rfl rfl hD ?_
                refine SatD.skip 11 rfl [] (by kernel_rfl) (fun _ _ _ h => h) rfl rfl hD ?_
                refine SatD.skip 12 rfl [] (by kernel_rfl) (fun _ _ _ h => h) rfl rfl hD ?_
                refine SatD.take 13 rfl [] (by kernel_rfl) (fun _ _ _ h => h) rfl rfl hD (fun _ hw => RunV.pick_t rfl rfl) ?_
                refine SatD.take 14 rfl [] (by kernel_rfl) (fun _ _ _ h => h) rfl rfl hD (fun _ hw => RunV.move rfl) ?_
                refine SatD.skip 15 rfl [] (by kernel_rfl) (fun _ _ _ h => h) rfl rfl hD ?_
                refine SatD.skip 16 rfl [] (by kernel_rfl) (fun _ _ _ h => h) rfl rfl hD ?_
                refine SatD.skip 17 rfl [] (by kernel_rfl) (fun _ _ _ h => h) rfl rfl hD ?_
                refine SatD.skip 18 rfl [] (by kernel_rfl) (fun _ _ _ h => h) rfl rfl hD ?_
                refine SatD.skip 19 rfl [] (by kernel_rfl) (fun _ _ _ h => h) rfl rfl hD ?_
                refine SatD.skip 20 rfl [] (by kernel_rfl) (fun _ _ _ h => h) rfl rfl hD ?_
                refine SatD.skip 21 rfl [] (by kernel_rfl) (fun _ _ _ h => h) rfl rfl hD ?_
                refine SatD.skip 22 rfl [] (by kernel_rfl) (fun _ _ _ h => h) rfl rfl hD ?_
                refine SatD.skip 23 rfl [] (by kernel_rfl) (fun _ _ _ h => h) rfl rfl hD ?_
                refine SatD.take 24 rfl [] (by kernel_rfl) (fun _ _ _ h => h) rfl rfl hD (fun _ hw => RunV.pick_t rfl rfl) ?_
                refine SatD.take 25 rfl [] (by kernel_rfl) (fun _ _ _ h => h) rfl rfl hD (fun _ hw => RunV.move rfl) ?_
                refine SatD.skip 26 rfl [] (by kernel_rfl) (fun _ _ _ h => h) rfl rfl hD ?_
                refine SatD.skip 27 rfl [] (by kernel_rfl) (fun _ _ _ h => h) rfl rfl hD ?_
                refine SatD.skip 28 rfl [] (by kernel_rfl) (fun _ _ _ h => h) rfl rfl hD ?_
                refine SatD.skip 29 rfl [] (by kernel_rfl) (fun _ _ _ h => h) rfl rfl hD ?_
                refine SatD.skip 30 rfl [] (by kernel_rfl) (fun _ _ _ h => h) rfl rfl hD ?_
                refine SatD.skip 31 rfl [] (by kernel_rfl) (fun _ _ _ h => h) rfl rfl hD ?_
                refine SatD.skip 32 rfl [] (by kernel_rfl) (fun _ _ _ h => h) rfl rfl hD ?_
                refine SatD.skip 33 rfl [] (by kernel_rfl) (fun _ _ _ h => h) rfl rfl hD ?_
                refine SatD.skip 34 rfl [] (by kernel_rfl) (fun _ _ _ h => h) rfl rfl hD ?_
                refine SatD.skip 35 rfl [] (by kernel_rfl) (fun _ _ _ h => h) rfl rfl hD ?_
                refine SatD.take 36 rfl [] (by kernel_rfl) (fun _ _ _ h => h) rfl rfl hD (fun _ hw => RunV.pick_t rfl rfl) ?_
                refine SatD.done 0 (by kernel_rfl) (SatE.thenC ?_)
                clear hD
                refine SatC.weak (e' := [(1, _), (4, _), (5, _), (7, _), (8, _), (136, _)]) (by repeat constructor) ?_
                refine SatC.cond_t rfl ?_
                refine SatC.seq ?_
                refine SatC.region ?_
                refine SatL.pu (RunV.assign rfl) rfl ?_
                refine SatL.nil (SatE.thenC ?_)
                refine SatC.ret (SatE.blk_ret (SatE.then_ret (SatE.then_ret (SatE.blk_ret (SatE.then_ret ?_)))))
                refine SatE.ret1 rfl rfl ?_
                exact ⟨by first | rfl | simp, hS.sub (List.nil_sublist _)⟩
              · (try simp only [cx, ne_eq] at h7)
                try (exfalso; (first | omega | exact h7 trivial | contradiction | exact h7 rfl); done)
                all_goals
                refine SatD.take 6 rfl [] (by kernel_rfl) (fun _ _ _ h => h) rfl rfl hD (fun _ hw => RunV.move rfl) ?_
                refine SatD.take 8 rfl [] (by kernel_rfl) (fun _ _ _ h => h) rfl rfl hD (fun _ hw => RunV.move rfl) ?_
                first | refine SatD.take 9 rfl [] (by kernel_rfl) (fun _ _ _ h => h) rfl rfl hD (fun _ hw => RunV.nil_ptr rfl) ?_ | refine SatD.take 9 rfl [] (by kernel_rfl) (fun _ _ _ h => h) rfl rfl hD (fun _ hw => RunV.nil_func rfl) ?_ | refine SatD.take 9 rfl [] (by kernel_rfl) (fun _ _ _ h => h) rfl rfl hD (fun _ hw => RunV.nil_yield rfl) ?_
                first | refine SatD.take 10 rfl [] (by kernel_rfl) (fun _ _ _ h => h) rfl rfl hD (fun _ hw => RunV.fieldAddrL rfl rfl rfl) ?_ | refine SatD.take 10 rfl [] (by kernel_rfl) (fun _ _ _ h => h) rfl rfl hD (fun _ hw => RunV.fieldAddr rfl rfl rfl) ?_
                refine SatD.take 11 rfl [] (by kernel_rfl) (fun _ _ _ h => h) rfl rfl hD (fun _ hw => RunV.load1 hw rfl rfl (by repeat constructor) rfl) ?_
                refine SatD.eff 7 (by kernel_rfl) rfl rfl (OpW.enter rfl rfl rfl rfl (elapsed_any (hS.ownOf (by repeat constructor)) (by assumption) (by omega)) ?_)
                rintro r14 w14 ⟨rfl, h⟩
                replace hS := St.callN hS h
                refine keepS (hS.sb (by repeat constructor)) (fun hD => ?_)
                refine SatD.take 12 rfl [] (by kernel_rfl) (fun _ _ _ h => h) rfl rfl hD (fun _ hw => RunV.neq rfl rfl) ?_
                refine SatD.take 13 rfl [] (by kernel_rfl) (fun _ _ _ h => h) rfl rfl hD (fun _ hw => RunV.pick_f rfl rfl) ?_
                refine SatD.take 14 rfl [] (by kernel_rfl) (fun _ _ _ h => h) rfl rfl hD (fun _ hw => RunV.move rfl) ?_
                refine SatD.ways 114 rfl (fun h8 => ?_) (fun h8 => ?_)
                · (try simp only [cx, ne_eq] at h8)
                  try (exfalso; (first | omega | exact h8 trivial | contradiction | exact h8 rfl); done)
                  all_goals
                  refine SatD.skip 15 rfl [] (by kernel_rfl) (fun _ _ _ h => h) rfl rfl hD ?_
                  refine SatD.skip 16 rfl [] (by kernel_rfl) (fun _ _ _ h => h) rfl rfl hD ?_
                  refine SatD.skip 17 rfl [] (by kernel_rfl) (fun _ _ _ h => h) rfl rfl hD ?_
                  refine SatD.skip 18 rfl [] (by kernel_rfl) (fun _ _ _ h => h) rfl rfl hD ?_
                  refine SatD.skip 19 rfl [] (by kernel_rfl) (fun _ _ _ h => h) rfl rfl hD ?_
                  refine SatD.skip 20 rfl [] (by kernel_rfl) (fun _ _ _ h => h) rfl rfl hD ?_
                  refine SatD.skip 21 rfl [] (by kernel_rfl) (fun _ _ _ h => h) rfl rfl hD ?_
                  refine SatD.skip 22 rfl [] (by kernel_rfl) (fun _ _ _ h => h) rfl rfl hD ?_
                  refine SatD.skip 23 rfl [] (by kernel_rfl) (fun _ _ _ h => h) rfl rfl hD ?_
                  refine SatD.take 24 rfl [] (by kernel_rfl) (fun _ _ _ h => h) rfl rfl hD (fun _ hw => RunV.pick_t rfl rfl) ?_
                  refine SatD.take 25 rfl [] (by kernel_rfl) (fun _ _ _ h => h) rfl rfl hD (fun _ hw => RunV.move rfl) ?_
                  refine SatD.skip 26 rfl [] (by kernel_rfl) (fun _ _ _ h => h) rfl rfl hD ?_
                  refine SatD.skip 27 rfl [] (by kernel_rfl) (fun _ _ _ h => h) rfl rfl hD ?_
                  refine SatD.skip 28 rfl [] (by kernel_rfl) (fun _ _ _ h => h) rfl rfl hD ?_
                  refine SatD.skip 29 rfl [] (by kernel_rfl) (fun _ _ _ h => h) rfl rfl hD ?_
                  refine SatD.skip 30 rfl [] (by kernel_rfl) (fun _ _ _ h => h) rfl rfl hD ?_
                  refine SatD.skip 31 rfl [] (by kernel_rfl) (fun _ _ _ h => h) rfl rfl hD ?_
                  refine SatD.skip 32 rfl [] (by kernel_rfl) (fun _ _ _ h => h) rfl rfl hD ?_
                  refine SatD.skip 33 rfl [] (by kernel_rfl) (fun _ _ _ h => h) rfl rfl hD ?_
                  refine SatD.skip 34 rfl [] (by kernel_rfl) (fun _ _ _ h => h) rfl rfl hD ?_
                  refine SatD.skip 35 rfl [] (by kernel_rfl) (fun _ _ _ h => h) rfl rfl hD ?_
                  refine SatD.take 36 rfl [] (by kernel_rfl) (fun _ _ _ h => h) rfl rfl hD (fun _ hw => RunV.pick_t rfl rfl) ?_
                  refine SatD.done 0 (by kernel_rfl) (SatE.thenC ?_)
                  clear hD
                  refine SatC.weak (e' := [(1, _), (4, _), (5, _), (7, _), (8, _), (136, _)]) (by repeat constructor) ?_
                  refine SatC.cond_t rfl ?_
                  refine SatC.seq ?_
                  refine SatC.region ?_
                  refine SatL.pu (RunV.assign rfl) rfl ?_
                  refine SatL.nil (SatE.thenC ?_)
                  refine SatC.ret (SatE.blk_ret (SatE.then_ret (SatE.then_ret (SatE.blk_ret (SatE.then_ret ?_)))))
                  refine SatE.ret1 rfl rfl ?_
                  exact ⟨by first | rfl | simp, hS.sub (List.nil_sublist _)⟩
                · (try simp only [cx, ne_eq] at h8)
                  try (exfalso; (first | omega | exact h8 trivial | contradiction | exact h8 rfl); done)
                  all_goals
                  refine SatD.take 15 rfl [] (by kernel_rfl) (fun _ _ _ h => h) rfl rfl hD (fun _ hw => RunV.move rfl) ?_
                  refine SatD.take 17 rfl [] (by kernel_rfl) (fun _ _ _ h => h) rfl rfl hD (fun _ hw => RunV.move rfl) ?_
                  first | refine SatD.take 18 rfl [] (by kernel_rfl) (fun _ _ _ h => h) rfl rfl hD (fun _ hw => RunV.nil_ptr rfl) ?_ | refine SatD.take 18 rfl [] (by kernel_rfl) (fun _ _ _ h => h) rfl rfl hD (fun _ hw => RunV.nil_func rfl) ?_ | refine SatD.take 18 rfl [] (by kernel_rfl) (fun _ _ _ h => h) rfl rfl hD (fun _ hw => RunV.nil_yield rfl) ?_
                  first | refine SatD.take 19 rfl [] (by kernel_rfl) (fun _ _ _ h => h) rfl rfl hD (fun _ hw => RunV.fieldAddrL rfl rfl rfl) ?_ | refine SatD.take 19 rfl [] (by kernel_rfl) (fun _ _ _ h => h) rfl rfl hD (fun _ hw => RunV.fieldAddr rfl rfl rfl) ?_
                  refine SatD.take 20 rfl [] (by kernel_rfl) (fun _ _ _ h => h) rfl rfl hD (fun _ hw => RunV.load1 hw rfl rfl (by repeat constructor) rfl) ?_
                  first | refine SatD.take 21 rfl [] (by kernel_rfl) (fun _ _ _ h => h) rfl rfl hD (fun _ hw => RunV.lenR (by assumption) rfl rfl) ?_ | refine SatD.take 21 rfl [] (by kernel_rfl) (fun _ _ _ h => h) rfl rfl hD (fun _ hw => RunV.lenS rfl rfl) ?_
                  refine SatD.take 22 rfl [] (by kernel_rfl) (fun _ _ _ h => h) rfl rfl hD (fun _ hw => RunV.sub rfl rfl (by first | exact wrapI64 (by omega) | rfl)) ?_
                  refine SatD.eff 16 (by kernel_rfl) rfl rfl (OpW.enter rfl rfl rfl rfl (have_any (hS.ownOf (by repeat constructor)) (by assumption) (by omega)) ?_)
                  rintro r15 w15 ⟨rfl, h⟩
                  replace hS := St.callN hS h
                  refine keepS (hS.sb (by repeat constructor)) (fun hD => ?_)
                  refine SatD.take 23 rfl [] (by kernel_rfl) (fun _ _ _ h => h) rfl rfl hD (fun _ hw => RunV.neq rfl rfl) ?_
                  refine SatD.take 24 rfl [] (by kernel_rfl) (fun _ _ _ h => h) rfl rfl hD (fun _ hw => RunV.pick_f rfl rfl) ?_
                  refine SatD.take 25 rfl [] (by kernel_rfl) (fun _ _ _ h => h) rfl rfl hD (fun _ hw => RunV.move rfl) ?_
                  refine SatD.ways 125 rfl (fun h9 => ?_) (fun h9 => ?_)
                  · (try simp only [cx, ne_eq] at h9)
                    try (exfalso; (first | omega | exact h9 trivial | contradiction | exact h9 rfl); done)
                    all_goals
                    refine SatD.skip 26 rfl [] (by kernel_rfl) (fun _ _ _ h => h) rfl rfl hD ?_
                    refine SatD.skip 27 rfl [] (by kernel_rfl) (fun _ _ _ h => h) rfl rfl hD ?_
                    refine SatD.skip 28 rfl [] (by kernel_rfl) (fun _ _ _ h => h) rfl rfl hD ?_
                    refine SatD.skip 29 rfl [] (by kernel_rfl) (fun _ _ _ h => h) rfl rfl hD ?_
                    refine SatD.skip 30 rfl [] (by kernel_rfl) (fun _ _ _ h => h) rfl rfl hD ?_
                    refine SatD.skip 31 rfl [] (by kernel_rfl) (fun _ _ _ h => h) rfl rfl hD ?_
                    refine SatD.skip 32 rfl [] (by kernel_rfl) (fun _ _ _ h => h) rfl rfl hD ?_
                    refine SatD.skip 33 rfl [] (by kernel_rfl) (fun _ _ _ h => h) rfl rfl hD ?_
                    refine SatD.skip 34 rfl [] (by kernel_rfl) (fun _ _ _ h => h) rfl rfl hD ?_
                    refine SatD.skip 35 rfl [] (by kernel_rfl) (fun _ _ _ h => h) rfl rfl hD ?_
                    refine SatD.take 36 rfl [] (by kernel_rfl) (fun _ _ _ h => h) rfl rfl hD (fun _ hw => RunV.pick_t rfl rfl) ?_
                    refine SatD.done 0 (by kernel_rfl) (SatE.thenC ?_)
                    clear hD
                    refine SatC.weak (e' := [(1, _), (4, _), (5, _), (7, _), (8, _), (136, _)]) (by repeat constructor) ?_
                    refine SatC.cond_t rfl ?_
                    refine SatC.seq ?_
                    refine SatC.region ?_
                    refine SatL.pu (RunV.assign rfl) rfl ?_
                    refine SatL.nil (SatE.thenC ?_)
                    refine SatC.ret (SatE.blk_ret (SatE.then_ret (SatE.then_ret (SatE.blk_ret (SatE.then_ret ?_)))))
                    refine SatE.ret1 rfl rfl ?_
                    exact ⟨by first | rfl | simp, hS.sub (List.nil_sublist _)⟩
                  · (try simp only [cx, ne_eq] at h9)
                    try (exfalso; (first | omega | exact h9 trivial | contradiction | exact h9 rfl); done)
                    all_goals
                    refine SatD.take 26 rfl [] (by kernel_rfl) (fun _ _ _ h => h) rfl rfl hD (fun _ hw => RunV.move rfl) ?_
                    refine SatD.take 28 rfl [] (by kernel_rfl) (fun _ _ _ h => h) rfl rfl hD (fun _ hw => RunV.move rfl) ?_
                    first | refine SatD.take 29 rfl [] (by kernel_rfl) (fun _ _ _ h => h) rfl rfl hD (fun _ hw => RunV.nil_ptr rfl) ?_ | refine SatD.take 29 rfl [] (by kernel_rfl) (fun _ _ _ h => h) rfl rfl hD (fun _ hw => RunV.nil_func rfl) ?_ | refine SatD.take 29 rfl [] (by kernel_rfl) (fun _ _ _ h => h) rfl rfl hD (fun _ hw => RunV.nil_yield rfl) ?_
                    first | refine SatD.take 30 rfl [] (by kernel_rfl) (fun _ _ _ h => h) rfl rfl hD (fun _ hw => RunV.fieldAddrL rfl rfl rfl) ?_ | refine SatD.take 30 rfl [] (by kernel_rfl) (fun _ _ _ h => h) rfl rfl hD (fun _ hw => RunV.fieldAddr rfl rfl rfl) ?_
                    refine SatD.take 31 rfl [] (by kernel_rfl) (fun _ _ _ h => h) rfl rfl hD (fun _ hw => RunV.load1 hw rfl rfl (by repeat constructor) rfl) ?_
                    refine SatD.take 32 rfl [] (by kernel_rfl) (fun _ _ _ h => h) rfl rfl hD (fun _ hw => RunV.move rfl) ?_
                    refine SatD.eff 27 (by kernel_rfl) rfl rfl (OpW.enter rfl rfl rfl rfl (due_any (hS.ownOf (by repeat constructor)) (by assumption) (by omega)) ?_)
                    rintro r16 w16 ⟨rfl, h⟩
                    replace hS := St.callN hS h
                    refine keepS (hS.sb (by repeat constructor)) (fun hD => ?_)
                    refine SatD.eff 33 (by kernel_rfl) rfl rfl (OpW.enter rfl rfl rfl rfl (rwait_any (by assumption) (hS.ownOf (by repeat constructor)) (by omega)) ?_)
                    rintro r17 w17 ⟨rfl, h⟩
                    replace hS := St.callN hS h
                    refine keepS (hS.sb (by repeat constructor)) (fun hD => ?_)
                    refine SatD.take 34 rfl [] (by kernel_rfl) (fun _ _ _ h => h) rfl rfl hD (fun _ hw => RunV.geq rfl rfl) ?_
                    refine SatD.take 35 rfl [] (by kernel_rfl) (fun _ _ _ h => h) rfl rfl hD (fun _ hw => RunV.bneq rfl rfl rfl) ?_
                    refine SatD.take 36 rfl [] (by kernel_rfl) (fun _ _ _ h => h) rfl rfl hD (fun _ hw => RunV.pick_f rfl rfl) ?_
                    refine SatD.done 0 (by kernel_rfl) (SatE.thenC ?_)
                    clear hD
                    refine SatC.weak (e' := [(1, _), (4, _), (5, _), (7, _), (8, _), (136, _)]) (by repeat constructor) ?_
                    refine SatC.cond rfl (fun h10 => ?_) (fun h10 => ?_)
                    · (try simp only [cx, ne_eq] at h10)
                      try (exfalso; (first | omega | exact h10 trivial | contradiction | exact h10 rfl); done)
                      all_goals
                      refine SatC.seq ?_
                      refine SatC.region ?_
                      refine SatL.pu (RunV.assign rfl) rfl ?_
                      refine SatL.nil (SatE.thenC ?_)
                      refine SatC.ret (SatE.blk_ret (SatE.then_ret (SatE.then_ret (SatE.blk_ret (SatE.then_ret ?_)))))
                      refine SatE.ret1 rfl rfl ?_
                      exact ⟨by first | rfl | simp, hS.sub (List.nil_sublist _)⟩
                    · (try simp only [cx, ne_eq] at h10)
                      try (exfalso; (first | omega | exact h10 trivial | contradiction | exact h10 rfl); done)
                      all_goals
                      refine SatC.skip (SatE.blk_normal (SatE.thenC ?_))
                      refine SatC.region ?_
                      refine SatL.pu (RunV.move rfl) rfl ?_
                      refine SatL.pu (RunV.add rfl rfl (by first | exact wrapI64 (by omega) | rfl)) rfl ?_
                      refine SatL.pu (RunV.assign rfl) rfl ?_
                      refine SatL.nil ?_
                      refine SatE.again ((i + 1, fr, g + 1, o1, u, B)) ?_ (by first | omega | (dsimp only; omega)) (by repeat constructor)
                      exact ⟨by omega, by omega, ⟨by omega, by omega⟩, ⟨by omega, by omega⟩, ho1, hsl, by simpa using hS.perm List.perm_append_comm⟩
        · (try simp only [cx, ne_eq] at h4)
          try (exfalso; (first | omega | exact h4 trivial | contradiction | exact h4 rfl); done)
          all_goals
          refine SatC.exit (SatE.then_exit (SatE.then_exit (SatE.blk_exit (SatE.thenC ?_))))
          refine SatC.seq ?_
          refine SatC.region ?_
          refine SatL.pu (RunV.move rfl) rfl ?_
          refine SatL.op rfl (OpW.enter rfl rfl rfl rfl (dwait_any (hS.ownOf (by repeat constructor)) (by assumption) (by omega)) ?_)
          rintro r7 w7 ⟨rfl, h⟩
          replace hS := St.callN hS h
          refine SatL.pu (RunV.move rfl) rfl ?_
          refine SatL.op rfl (OpW.enter rfl rfl rfl rfl (rwait_any (by assumption) (hS.ownOf (by repeat constructor)) (by omega)) ?_)
          rintro r8 w8 ⟨rfl, h⟩
          replace hS := St.callN hS h
          refine SatL.pu (RunV.eql rfl rfl) rfl ?_
          refine SatL.pu (RunV.move rfl) rfl ?_
          refine SatL.guard rfl rfl rfl (fun h5 => ?_) (fun h5 => ?_)
          · (try simp only [cx, ne_eq] at h5)
            try (exfalso; (first | omega | exact h5 trivial | contradiction | exact h5 rfl); done)
            all_goals
            refine SatL.op rfl (OpW.enter rfl rfl rfl rfl (works_any _) ?_)
            rintro r9 w9 ⟨rfl, h⟩
            replace hS := St.callN hS h
            refine SatL.pu (RunV.pick_t rfl rfl) rfl ?_
            refine SatL.pu (RunV.assign rfl) rfl ?_
            refine SatL.nil (SatE.thenC ?_)
            refine SatC.ret ?_
            refine SatE.ret1 rfl rfl ?_
            exact ⟨by first | rfl | simp, hS.sub (List.nil_sublist _)⟩
          · (try simp only [cx, ne_eq] at h5)
            try (exfalso; (first | omega | exact h5 trivial | contradiction | exact h5 rfl); done)
            all_goals
            refine SatL.pu (RunV.pick_f rfl rfl) rfl ?_
            refine SatL.pu (RunV.assign rfl) rfl ?_
            refine SatL.nil (SatE.thenC ?_)
            refine SatC.ret ?_
            refine SatE.ret1 rfl rfl ?_
            exact ⟨by first | rfl | simp, hS.sub (List.nil_sublist _)⟩
      · (try simp only [cx, ne_eq] at h3)
        try (exfalso; (first | omega | exact h3 trivial | contradiction | exact h3 rfl); done)
        all_goals
        refine SatL.guard_n rfl rfl rfl rfl ?_
        refine SatL.pu (RunV.pick_f rfl rfl) rfl ?_
        refine SatL.nil (SatE.thenC ?_)
        refine SatC.cond_f rfl ?_
        refine SatC.exit (SatE.then_exit (SatE.then_exit (SatE.blk_exit (SatE.thenC ?_))))
        refine SatC.seq ?_
        refine SatC.region ?_
        refine SatL.pu (RunV.move rfl) rfl ?_
        refine SatL.op rfl (OpW.enter rfl rfl rfl rfl (dwait_any (hS.ownOf (by repeat constructor)) (by assumption) (by omega)) ?_)
        rintro r7 w7 ⟨rfl, h⟩
        replace hS := St.callN hS h
        refine SatL.pu (RunV.move rfl) rfl ?_
        refine SatL.op rfl (OpW.enter rfl rfl rfl rfl (rwait_any (by assumption) (hS.ownOf (by repeat constructor)) (by omega)) ?_)
        rintro r8 w8 ⟨rfl, h⟩
        replace hS := St.callN hS h
        refine SatL.pu (RunV.eql rfl rfl) rfl ?_
        refine SatL.pu (RunV.move rfl) rfl ?_
        refine SatL.guard rfl rfl rfl (fun h4 => ?_) (fun h4 => ?_)
        · (try simp only [cx, ne_eq] at h4)
          try (exfalso; (first | omega | exact h4 trivial | contradiction | exact h4 rfl); done)
          all_goals
          refine SatL.op rfl (OpW.enter rfl rfl rfl rfl (works_any _) ?_)
          rintro r9 w9 ⟨rfl, h⟩
          replace hS := St.callN hS h
          refine SatL.pu (RunV.pick_t rfl rfl) rfl ?_
          refine SatL.pu (RunV.assign rfl) rfl ?_
          refine SatL.nil (SatE.thenC ?_)
          refine SatC.ret ?_
          refine SatE.ret1 rfl rfl ?_
          exact ⟨by first | rfl | simp, hS.sub (List.nil_sublist _)⟩
        · (try simp only [cx, ne_eq] at h4)
          try (exfalso; (first | omega | exact h4 trivial | contradiction | exact h4 rfl); done)
          all_goals
          refine SatL.pu (RunV.pick_f rfl rfl) rfl ?_
          refine SatL.pu (RunV.assign rfl) rfl ?_
          refine SatL.nil (SatE.thenC ?_)
          refine SatC.ret ?_
          refine SatE.ret1 rfl rfl ?_
          exact ⟨by first | rfl | simp, hS.sub (List.nil_sublist _)⟩
theorem doubtPlays_lifted (os : Os) (started : os.Started) (H : Type) (enc : TypeId × Value → H) :
    ReturnsInHanded {} Try.checked os 6 .any (Rows.doubtPlaysSpec.pre6 enc Try.prog Try.f6 Rows.doubtPlaysRow.domain false) (Rows.doubtPlaysSpec.post enc Try.prog Try.f6 false true false false) := by
  refine law_returns (C := Try.checked) (b := 4) (by kernel_rfl) started (by kernel_rfl) Try.func6
    (ChangeSpec.witness6 (enc := enc) (C := Try.checked) false ⟨#[], #[.agg #[.int .i64 0, .int .i64 0, .int .i64 0, .int .i64 0], .slice none 0 0], []⟩ 8 (by kernel_rfl) (by kernel_rfl) (by kernel_rfl) (by kernel_rfl))
    rfl rfl (by kernel_rfl) (by kernel_rfl) (by kernel_rfl) (fun ds h => ?_) ?_
  · rw [Try.params6] at h
    match ds, h with
    | [_, _], _ => rfl
  intro W base args ds ps hval hA hsz
  rw [Try.params6] at hA hval
  obtain ⟨v0, v1, d0, d1, q0, q1, hargs, rfl, rfl, h0, h1⟩ := trodAll_two hA
  subst hargs
  obtain ⟨c0, rfl, l0⟩ := open_struct (l := [3, 3, 3, 3]) 6 Try.underlying23 (by kernel_rfl) (hval 0 23 v0 rfl rfl) h0
  obtain ⟨a0_0, a0_1, a0_2, a0_3, rfl, l0_0, l0_1, l0_2, l0_3⟩ := allLeaf_list4 l0
  obtain ⟨a0_0, rfl, ba0_0⟩ := leaf_int Try.underlying3 l0_0
  replace ba0_0 := bnd_i64 ba0_0
  obtain ⟨a0_1, rfl, ba0_1⟩ := leaf_int Try.underlying3 l0_1
  replace ba0_1 := bnd_i64 ba0_1
  obtain ⟨a0_2, rfl, ba0_2⟩ := leaf_int Try.underlying3 l0_2
  replace ba0_2 := bnd_i64 ba0_2
  obtain ⟨a0_3, rfl, ba0_3⟩ := leaf_int Try.underlying3 l0_3
  replace ba0_3 := bnd_i64 ba0_3
  obtain ⟨xs1, hr1, hx1⟩ := open_rows (l := [3, 3]) 6 Try.underlying34 (by kernel_rfl) (by kernel_rfl) (by decide) (hval 1 34 v1 rfl rfl) h1
  obtain ⟨ys1, rfl, hy1⟩ := rows_map (enc' := st2) (q := fun _ => True) (fun r hr => by
    obtain ⟨u0, u1, rfl, l0, l1⟩ := allLeaf_list2 hr
    obtain ⟨n0, rfl, e0⟩ := leaf_int Try.underlying3 l0
    obtain ⟨n1, rfl, e1⟩ := leaf_int Try.underlying3 l1
    exact ⟨⟨n0, n1⟩, rfl, trivial⟩) xs1 hx1
  exact law_done (if h : okp a0_0 a0_1 a0_2 then plays_ok _ _ _ _ _ ys1 W hr1 h else plays_no _ _ _ _ _ ys1 W hr1 h)
theorem doubtPlays_holds : Rows.DoubtPlaysSaid :=
  OpenClaim.holds_of_wide 6 Try.f6 rfl rfl rfl rfl rfl rfl rfl ⟨rfl, rfl, rfl, rfl, rfl⟩ rfl rfl rfl rfl rfl (by kernel_rfl) Try.func6 (by kernel_rfl)
    (of_decide_eq_true (by kernel_rfl)) (by unfold Func.isWrapper; first | (rw [if_pos (by decide +kernel)]; kernel_rfl) | (rw [if_neg (by decide +kernel)]; exact ⟨rfl, rfl⟩))
    (fun os started H enc _ => doubtPlays_lifted os started H enc)
end Go.Proofs.Ythkgcdkkdmogpaa
