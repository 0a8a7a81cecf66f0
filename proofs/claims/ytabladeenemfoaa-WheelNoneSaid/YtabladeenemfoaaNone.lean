/- WheelNone: a wheel that is not there, and one that New did not make, has nothing. -/
import Derived.Test.YtabladeenemfoaaWh
import Derived.Test.YtabladeenemfoaaK7
import Derived.Test.YtabladeenemfoaaK16
import Derived.Test.YtabladeenemfoaaK25
import Derived.Test.YtabladeenemfoaaRows
set_option linter.unusedSimpArgs false
set_option linter.unusedVariables false
set_option maxRecDepth 100000
set_option maxHeartbeats 8000000
namespace Go.Proofs.Ytabladeenemfoaa
open Go.RowKit Go.ChangeShapes Go.WideShapes Go.ChangeAt
def z0 : List Value := .int .i64 0 :: .map none :: List.replicate 192 (.slice none 0 0)
def NoW (r : Value) (w : World) : Prop := r = .pointer none ∨ ∃ b, r = .pointer (some ⟨b, 0, none⟩) ∧ w.heap[b]? = some (C 48 z0)
theorem NoW.st {r : Value} {w w' : World} {L : List (Nat × Obj)} (h : NoW r w) (hS : St w [] L w') : NoW r w' := by
  rcases h with h | ⟨b, h, hb⟩
  · exact .inl h
  · exact .inr ⟨b, h, by rw [hS.old b (Array.getElem?_eq_some_iff.1 hb).1 List.not_mem_nil]; exact hb⟩
theorem NoW.one {r : Value} {w : World} (h : NoW r w) : r.oneCell' = true := by
  rcases h with rfl | ⟨b, rfl, _⟩ <;> rfl
theorem none_no {r : Value} {w : World} (hr : NoW r w) : Ret Try.prog 22 #[r] w fun v w' => v = .bool true ∧ St w [] [] w' := by
  rcases hr with rfl | ⟨b, rfl, hb⟩
  · have hS := St.init0 w
    refine Ret.enter Try.func22 Try.ntmps22 rfl rfl ?_
    simp only [argEnv, Nat.reduceAdd]
    refine SatC.seq ?_
    refine SatC.region ?_
    refine SatL.pu (RunV.assign rfl) rfl ?_
    refine SatL.nil (SatE.thenC ?_)
    refine SatC.seq ?_
    refine SatC.region ?_
    refine SatL.pu (RunV.move rfl) rfl ?_
    refine SatL.pu (RunV.eqlPtrNil rfl rfl rfl) rfl ?_
    refine SatL.pu (RunV.move rfl) rfl ?_
    refine SatL.guard rfl rfl rfl (fun h1 => ?_) (fun h1 => ?_)
    · (try simp only [cx, ne_eq] at h1)
      try (exfalso; (first | omega | exact h1 trivial | contradiction | (simp at h1; done)); done)
      all_goals
      refine SatL.pu (RunV.move rfl) rfl ?_
      refine SatL.guard_y rfl rfl ?_
      first | refine SatL.pu (RunV.nil_ptr rfl) rfl ?_ | refine SatL.pu (RunV.nil_func rfl) rfl ?_ | refine SatL.pu (RunV.nil_yield rfl) rfl ?_
      refine SatL.guard_y rfl rfl ?_
      first | refine SatL.pu (RunV.fieldAddrL rfl rfl rfl) rfl ?_ | refine SatL.pu (RunV.fieldAddr rfl rfl rfl) rfl ?_
      refine SatL.guard_y rfl rfl ?_
      refine SatL.pu (RunV.load1 hS rfl rfl (by repeat constructor) rfl) rfl ?_
      refine SatL.guard_y rfl rfl ?_
      refine SatL.pu (RunV.eqlMapNil rfl rfl rfl) rfl ?_
      refine SatL.pu (RunV.pick_f rfl rfl) rfl ?_
      refine SatL.pu (RunV.assign rfl) rfl ?_
      refine SatL.nil (SatE.thenC ?_)
      refine SatC.ret ?_
      refine SatE.ret1 rfl rfl ?_
      exact ⟨rfl, hS⟩
    · (try simp only [cx, ne_eq] at h1)
      try (exfalso; (first | omega | exact h1 trivial | contradiction | (simp at h1; done)); done)
      all_goals
      refine SatL.guard_n rfl rfl rfl rfl ?_
      refine SatL.guard_n rfl rfl rfl rfl ?_
      refine SatL.guard_n rfl rfl rfl rfl ?_
      refine SatL.guard_n rfl rfl rfl rfl ?_
      refine SatL.pu (RunV.pick_t rfl rfl) rfl ?_
      refine SatL.pu (RunV.assign rfl) rfl ?_
      refine SatL.nil (SatE.thenC ?_)
      refine SatC.ret ?_
      refine SatE.ret1 rfl rfl ?_
      exact ⟨rfl, hS⟩
  · have hown : Own w [(b, C 48 z0)] := ⟨fun c hc => by simp only [List.mem_singleton] at hc; subst hc; exact hb, by simp⟩
    have hS := St.init hown
    simp only [List.map_cons, List.map_nil] at hS
    refine Ret.enter Try.func22 Try.ntmps22 rfl rfl ?_
    simp only [argEnv, Nat.reduceAdd]
    refine SatC.seq ?_
    refine SatC.region ?_
    refine SatL.pu (RunV.assign rfl) rfl ?_
    refine SatL.nil (SatE.thenC ?_)
    refine SatC.seq ?_
    refine SatC.region ?_
    refine SatL.pu (RunV.move rfl) rfl ?_
    refine SatL.pu (RunV.eqlPtrNil rfl rfl rfl) rfl ?_
    refine SatL.pu (RunV.move rfl) rfl ?_
    refine SatL.guard rfl rfl rfl (fun h1 => ?_) (fun h1 => ?_)
    · (try simp only [cx, ne_eq] at h1)
      try (exfalso; (first | omega | exact h1 trivial | contradiction | (simp at h1; done)); done)
      all_goals
      refine SatL.pu (RunV.move rfl) rfl ?_
      refine SatL.guard_y rfl rfl ?_
      first | refine SatL.pu (RunV.nil_ptr rfl) rfl ?_ | refine SatL.pu (RunV.nil_func rfl) rfl ?_ | refine SatL.pu (RunV.nil_yield rfl) rfl ?_
      refine SatL.guard_y rfl rfl ?_
      first | refine SatL.pu (RunV.fieldAddrL rfl rfl rfl) rfl ?_ | refine SatL.pu (RunV.fieldAddr rfl rfl rfl) rfl ?_
      refine SatL.guard_y rfl rfl ?_
      refine SatL.pu (RunV.load1 hS rfl rfl (by repeat constructor) rfl) rfl ?_
      refine SatL.guard_y rfl rfl ?_
      refine SatL.pu (RunV.eqlMapNil rfl rfl rfl) rfl ?_
      refine SatL.pu (RunV.pick_f rfl rfl) rfl ?_
      refine SatL.pu (RunV.assign rfl) rfl ?_
      refine SatL.nil (SatE.thenC ?_)
      refine SatC.ret ?_
      refine SatE.ret1 rfl rfl ?_
      exact ⟨rfl, St.ro hown hS (by repeat constructor)⟩
    · (try simp only [cx, ne_eq] at h1)
      try (exfalso; (first | omega | exact h1 trivial | contradiction | (simp at h1; done)); done)
      all_goals
      refine SatL.guard_n rfl rfl rfl rfl ?_
      refine SatL.guard_n rfl rfl rfl rfl ?_
      refine SatL.guard_n rfl rfl rfl rfl ?_
      refine SatL.guard_n rfl rfl rfl rfl ?_
      refine SatL.pu (RunV.pick_t rfl rfl) rfl ?_
      refine SatL.pu (RunV.assign rfl) rfl ?_
      refine SatL.nil (SatE.thenC ?_)
      refine SatC.ret ?_
      refine SatE.ret1 rfl rfl ?_
      exact ⟨rfl, St.ro hown hS (by repeat constructor)⟩
section
variable {r : Value} {w : World}
theorem set_no (i n : Int) (hr : NoW r w) : Ret Try.prog 9 #[r, .int .i64 i, .int .i64 n] w fun u w' => u = .bool false ∧ St w [] [] w' := by
  have hS := St.init0 w
  refine Ret.enter Try.func9 Try.ntmps9 rfl rfl ?_
  simp only [argEnv, Nat.reduceAdd]
  refine SatC.seq ?_
  refine SatC.region ?_
  refine SatL.pu (RunV.assign rfl) rfl ?_
  refine SatL.nil (SatE.thenC ?_)
  refine SatC.seq ?_
  refine SatC.seq ?_
  refine SatC.region ?_
  refine SatL.pu (RunV.move rfl) rfl ?_
  refine SatL.op rfl (OpW.enter rfl rfl rfl (rfl) (none_no (hr.st hS)) ?_)
  rintro r1 w1 ⟨rfl, h⟩
  replace hS := St.callN hS h
  refine SatL.pu (RunV.move rfl) rfl ?_
  refine SatL.guard rfl rfl rfl (fun h1 => ?_) (fun h1 => ?_)
  · (try simp only [cx, ne_eq] at h1)
    try (exfalso; (first | omega | exact h1 trivial | contradiction | (simp at h1; done)); done)
    all_goals
    refine SatL.pu (RunV.move rfl) rfl ?_
    refine SatL.guard_y rfl rfl ?_
    refine SatL.pu (RunV.lss rfl rfl) rfl ?_
    refine SatL.pu (RunV.pick_f rfl rfl) rfl ?_
    refine SatL.pu (RunV.move rfl) rfl ?_
    refine SatL.guard rfl rfl rfl (fun h2 => ?_) (fun h2 => ?_)
    · (try simp only [cx, ne_eq] at h2)
      try (exfalso; (first | omega | exact h2 trivial | contradiction | (simp at h2; done)); done)
      all_goals
      refine SatL.pu (RunV.move rfl) rfl ?_
      refine SatL.guard_y rfl rfl ?_
      refine SatL.pu (RunV.gtr rfl rfl) rfl ?_
      refine SatL.pu (RunV.pick_f rfl rfl) rfl ?_
      refine SatL.nil (SatE.thenC ?_)
      refine SatC.cond rfl (fun h3 => ?_) (fun h3 => ?_)
      · (try simp only [cx, ne_eq] at h3)
        try (exfalso; (first | omega | exact h3 trivial | contradiction | (simp at h3; done)); done)
        all_goals
        refine SatC.seq ?_
        refine SatC.weak (e' := [(6, _)]) (by repeat constructor) ?_
        refine SatC.region ?_
        refine SatL.pu (RunV.assign rfl) rfl ?_
        refine SatL.nil (SatE.thenC ?_)
        refine SatC.ret (SatE.then_ret ?_)
        refine SatE.ret1 rfl rfl ?_
        exact ⟨rfl, hS.sel (by repeat constructor)⟩
      · (try simp only [cx, ne_eq] at h3)
        try (exfalso; (first | omega | exact h3 trivial | contradiction | (simp at h3; done)); done)
        all_goals
        refine SatC.skip (SatE.thenC ?_)
        refine SatC.seq ?_
        refine SatC.seq ?_
        refine SatC.region ?_
        refine SatL.pu (RunV.move rfl) rfl ?_
        first | refine SatL.pu (RunV.nil_ptr rfl) rfl ?_ | refine SatL.pu (RunV.nil_func rfl) rfl ?_ | refine SatL.pu (RunV.nil_yield rfl) rfl ?_
        first | refine SatL.pu (RunV.fieldAddrL rfl rfl rfl) rfl ?_ | refine SatL.pu (RunV.fieldAddr rfl rfl rfl) rfl ?_
        refine SatL.pu (RunV.load1 hS rfl rfl (by repeat constructor) rfl) rfl ?_
        refine SatL.pu (RunV.move rfl) rfl ?_
        refine SatL.pu (RunV.lookup2 (keyInt rfl) hS rfl rfl rfl rfl (by repeat constructor) (by assumption)) rfl ?_
        refine SatL.pu (RunV.move rfl) rfl ?_
        refine SatL.pu (RunV.extract rfl rfl) rfl ?_
        refine SatL.pu (RunV.extract rfl rfl) rfl ?_
        refine SatL.op rfl (OpW.alloc hS rfl rfl (by repeat constructor) ?_)
        clear hS
        intro b7 w2 _ hS
        refine SatL.op rfl (OpW.store hS rfl rfl (by repeat constructor) (by repeat constructor) (by repeat constructor) rfl rfl ?_)
        clear hS
        intro w3 hS
        refine SatL.pu (RunV.assign rfl) rfl ?_
        refine SatL.nil (SatE.thenC ?_)
        refine SatC.seq ?_
        refine SatC.weak (e' := [(0, _), (1, _), (2, _), (6, _), (8, _)]) (by repeat constructor) ?_
        refine SatC.region ?_
        refine SatL.pu (RunV.move rfl) rfl ?_
        refine SatL.nil (SatE.thenC ?_)
        refine SatC.cond rfl (fun h4 => ?_) (fun h4 => ?_)
        · (try simp only [cx, ne_eq] at h4)
          try (exfalso; (first | omega | exact h4 trivial | contradiction | (simp at h4; done)); done)
          all_goals
          refine SatC.region ?_
          refine SatL.pu (RunV.move rfl) rfl ?_
          refine SatL.pu (RunV.move rfl) rfl ?_
          -- STOP -- CALL 26
          done
        · (try simp only [cx, ne_eq] at h4)
          try (exfalso; (first | omega | exact h4 trivial | contradiction | (simp at h4; done)); done)
          all_goals
          refine SatC.seq ?_
          refine SatC.region ?_
          refine SatL.pu (RunV.move rfl) rfl ?_
          first | refine SatL.pu (RunV.nil_ptr rfl) rfl ?_ | refine SatL.pu (RunV.nil_func rfl) rfl ?_ | refine SatL.pu (RunV.nil_yield rfl) rfl ?_
          first | refine SatL.pu (RunV.fieldAddrL rfl rfl rfl) rfl ?_ | refine SatL.pu (RunV.fieldAddr rfl rfl rfl) rfl ?_
          refine SatL.pu (RunV.load1 hS rfl rfl (by repeat constructor) rfl) rfl ?_
          refine SatL.pu (RunV.lenM hS rfl rfl (by repeat constructor) (by assumption)) rfl ?_
          refine SatL.pu (RunV.geq rfl rfl) rfl ?_
          refine SatL.nil (SatE.thenC ?_)
          refine SatC.cond rfl (fun h5 => ?_) (fun h5 => ?_)
          · (try simp only [cx, ne_eq] at h5)
            try (exfalso; (first | omega | exact h5 trivial | contradiction | (simp at h5; done)); done)
            all_goals
            refine SatC.seq ?_
            refine SatC.region ?_
            refine SatL.pu (RunV.assign rfl) rfl ?_
            refine SatL.nil (SatE.thenC ?_)
            refine SatC.ret (SatE.then_ret ?_)
            refine SatE.ret1 rfl rfl ?_
            exact ⟨rfl, hS.sel (by repeat constructor)⟩
          · (try simp only [cx, ne_eq] at h5)
            try (exfalso; (first | omega | exact h5 trivial | contradiction | (simp at h5; done)); done)
            all_goals
            refine SatC.skip (SatE.thenC ?_)
            refine SatC.seq ?_
            refine SatC.region ?_
            refine SatL.pu (RunV.move rfl) rfl ?_
            refine SatL.pu (RunV.move rfl) rfl ?_
            refine SatL.pu (RunV.move rfl) rfl ?_
            first | refine SatL.pu (RunV.nil_ptr rfl) rfl ?_ | refine SatL.pu (RunV.nil_func rfl) rfl ?_ | refine SatL.pu (RunV.nil_yield rfl) rfl ?_
            first | refine SatL.pu (RunV.fieldAddrL rfl rfl rfl) rfl ?_ | refine SatL.pu (RunV.fieldAddr rfl rfl rfl) rfl ?_
            refine SatL.pu (RunV.load1 hS rfl rfl (by repeat constructor) rfl) rfl ?_
            refine SatL.pu (RunV.move rfl) rfl ?_
            refine SatL.pu (RunV.add rfl rfl (by first | exact wrapI64 (by omega) | rfl)) rfl ?_
            -- STOP -- CALL 27
            done
    · (try simp only [cx, ne_eq] at h2)
      try (exfalso; (first | omega | exact h2 trivial | contradiction | (simp at h2; done)); done)
      all_goals
      refine SatL.guard_n rfl rfl rfl rfl ?_
      refine SatL.pu (RunV.pick_t rfl rfl) rfl ?_
      refine SatL.nil (SatE.thenC ?_)
      refine SatC.cond_t rfl ?_
      refine SatC.seq ?_
      refine SatC.weak (e' := [(6, _)]) (by repeat constructor) ?_
      refine SatC.region ?_
      refine SatL.pu (RunV.assign rfl) rfl ?_
      refine SatL.nil (SatE.thenC ?_)
      refine SatC.ret (SatE.then_ret ?_)
      refine SatE.ret1 rfl rfl ?_
      exact ⟨rfl, hS.sel (by repeat constructor)⟩
  · (try simp only [cx, ne_eq] at h1)
    try (exfalso; (first | omega | exact h1 trivial | contradiction | (simp at h1; done)); done)
    all_goals
    refine SatL.guard_n rfl rfl rfl rfl ?_
    refine SatL.pu (RunV.pick_t rfl rfl) rfl ?_
    refine SatL.pu (RunV.move rfl) rfl ?_
    refine SatL.guard_n rfl rfl rfl rfl ?_
    refine SatL.guard_n rfl rfl rfl rfl ?_
    refine SatL.pu (RunV.pick_t rfl rfl) rfl ?_
    refine SatL.nil (SatE.thenC ?_)
    refine SatC.cond_t rfl ?_
    refine SatC.seq ?_
    refine SatC.weak (e' := [(6, _)]) (by repeat constructor) ?_
    refine SatC.region ?_
    refine SatL.pu (RunV.assign rfl) rfl ?_
    refine SatL.nil (SatE.thenC ?_)
    refine SatC.ret (SatE.then_ret ?_)
    refine SatE.ret1 rfl rfl ?_
    exact ⟨rfl, hS.sel (by repeat constructor)⟩
theorem stop_no (i : Int) (hr : NoW r w) : Ret Try.prog 10 #[r, .int .i64 i] w fun u w' => u = .bool false ∧ St w [] [] w' := by
  have hS := St.init0 w
  refine Ret.enter Try.func10 Try.ntmps10 rfl rfl ?_
  simp only [argEnv, Nat.reduceAdd]
  refine SatC.seq ?_
  refine SatC.region ?_
  refine SatL.pu (RunV.assign rfl) rfl ?_
  refine SatL.nil (SatE.thenC ?_)
  refine SatC.seq ?_
  refine SatC.seq ?_
  refine SatC.region ?_
  refine SatL.pu (RunV.move rfl) rfl ?_
  refine SatL.op rfl (OpW.enter rfl rfl rfl (rfl) (none_no (hr.st hS)) ?_)
  rintro r1 w1 ⟨rfl, h⟩
  replace hS := St.callN hS h
  refine SatL.nil (SatE.thenC ?_)
  refine SatC.cond rfl (fun h1 => ?_) (fun h1 => ?_)
  · (try simp only [cx, ne_eq] at h1)
    try (exfalso; (first | omega | exact h1 trivial | contradiction | (simp at h1; done)); done)
    all_goals
    refine SatC.seq ?_
    refine SatC.region ?_
    refine SatL.pu (RunV.assign rfl) rfl ?_
    refine SatL.nil (SatE.thenC ?_)
    refine SatC.ret (SatE.then_ret ?_)
    refine SatE.ret1 rfl rfl ?_
    exact ⟨rfl, hS.sel (by repeat constructor)⟩
  · (try simp only [cx, ne_eq] at h1)
    try (exfalso; (first | omega | exact h1 trivial | contradiction | (simp at h1; done)); done)
    all_goals
    refine SatC.skip (SatE.thenC ?_)
    refine SatC.seq ?_
    refine SatC.region ?_
    refine SatL.pu (RunV.move rfl) rfl ?_
    first | refine SatL.pu (RunV.nil_ptr rfl) rfl ?_ | refine SatL.pu (RunV.nil_func rfl) rfl ?_ | refine SatL.pu (RunV.nil_yield rfl) rfl ?_
    first | refine SatL.pu (RunV.fieldAddrL rfl rfl rfl) rfl ?_ | refine SatL.pu (RunV.fieldAddr rfl rfl rfl) rfl ?_
    refine SatL.pu (RunV.load1 hS rfl rfl (by repeat constructor) rfl) rfl ?_
    refine SatL.pu (RunV.move rfl) rfl ?_
    refine SatL.pu (RunV.lookup2 (keyInt rfl) hS rfl rfl rfl rfl (by repeat constructor) (by assumption)) rfl ?_
    refine SatL.pu (RunV.move rfl) rfl ?_
    refine SatL.pu (RunV.extract rfl rfl) rfl ?_
    refine SatL.pu (RunV.extract rfl rfl) rfl ?_
    refine SatL.op rfl (OpW.alloc hS rfl rfl (by repeat constructor) ?_)
    clear hS
    intro b5 w2 _ hS
    refine SatL.op rfl (OpW.store hS rfl rfl (by repeat constructor) (by repeat constructor) (by repeat constructor) rfl rfl ?_)
    clear hS
    intro w3 hS
    refine SatL.pu (RunV.assign rfl) rfl ?_
    refine SatL.nil (SatE.thenC ?_)
    refine SatC.seq ?_
    refine SatC.seq ?_
    refine SatC.weak (e' := [(0, _), (1, _), (4, _), (6, _)]) (by repeat constructor) ?_
    refine SatC.region ?_
    refine SatL.pu (RunV.move rfl) rfl ?_
    refine SatL.nil (SatE.thenC ?_)
    refine SatC.cond rfl (fun h2 => ?_) (fun h2 => ?_)
    · (try simp only [cx, ne_eq] at h2)
      try (exfalso; (first | omega | exact h2 trivial | contradiction | (simp at h2; done)); done)
      all_goals
      refine SatC.region ?_
      refine SatL.pu (RunV.move rfl) rfl ?_
      refine SatL.pu (RunV.move rfl) rfl ?_
      -- STOP -- CALL 26
      done
    · (try simp only [cx, ne_eq] at h2)
      try (exfalso; (first | omega | exact h2 trivial | contradiction | (simp at h2; done)); done)
      all_goals
      refine SatC.skip (SatE.thenC ?_)
      refine SatC.seq ?_
      refine SatC.region ?_
      refine SatL.pu (RunV.move rfl) rfl ?_
      refine SatL.pu (RunV.assign rfl) rfl ?_
      refine SatL.nil (SatE.thenC ?_)
      refine SatC.ret ?_
      refine SatE.ret1 rfl rfl ?_
      exact ⟨rfl, hS.sel (by repeat constructor)⟩
theorem left_no (i : Int) (hr : NoW r w) : Ret Try.prog 19 #[r, .int .i64 i] w fun u w' => u = .tuple #[.int .i64 0, .bool false] ∧ St w [] [] w' := by
  have hS := St.init0 w
  refine Ret.enter Try.func19 Try.ntmps19 rfl rfl ?_
  simp only [argEnv, Nat.reduceAdd]
  refine SatC.seq ?_
  refine SatC.region ?_
  refine SatL.pu (RunV.assign rfl) rfl ?_
  refine SatL.pu (RunV.assign rfl) rfl ?_
  refine SatL.nil (SatE.thenC ?_)
  refine SatC.seq ?_
  refine SatC.seq ?_
  refine SatC.region ?_
  refine SatL.pu (RunV.move rfl) rfl ?_
  refine SatL.op rfl (OpW.enter rfl rfl rfl (rfl) (none_no (hr.st hS)) ?_)
  rintro r1 w1 ⟨rfl, h⟩
  replace hS := St.callN hS h
  refine SatL.nil (SatE.thenC ?_)
  refine SatC.cond rfl (fun h1 => ?_) (fun h1 => ?_)
  · (try simp only [cx, ne_eq] at h1)
    try (exfalso; (first | omega | exact h1 trivial | contradiction | (simp at h1; done)); done)
    all_goals
    refine SatC.seq ?_
    refine SatC.region ?_
    refine SatL.pu (RunV.assign rfl) rfl ?_
    refine SatL.pu (RunV.assign rfl) rfl ?_
    refine SatL.nil (SatE.thenC ?_)
    refine SatC.ret (SatE.then_ret ?_)
    refine SatE.ret2 rfl rfl rfl ?_
    exact ⟨rfl, hS.sel (by repeat constructor)⟩
  · (try simp only [cx, ne_eq] at h1)
    try (exfalso; (first | omega | exact h1 trivial | contradiction | (simp at h1; done)); done)
    all_goals
    refine SatC.skip (SatE.thenC ?_)
    refine SatC.seq ?_
    refine SatC.region ?_
    refine SatL.pu (RunV.move rfl) rfl ?_
    first | refine SatL.pu (RunV.nil_ptr rfl) rfl ?_ | refine SatL.pu (RunV.nil_func rfl) rfl ?_ | refine SatL.pu (RunV.nil_yield rfl) rfl ?_
    first | refine SatL.pu (RunV.fieldAddrL rfl rfl rfl) rfl ?_ | refine SatL.pu (RunV.fieldAddr rfl rfl rfl) rfl ?_
    refine SatL.pu (RunV.load1 hS rfl rfl (by repeat constructor) rfl) rfl ?_
    refine SatL.pu (RunV.move rfl) rfl ?_
    refine SatL.pu (RunV.lookup2 (keyInt rfl) hS rfl rfl rfl rfl (by repeat constructor) (by assumption)) rfl ?_
    refine SatL.pu (RunV.move rfl) rfl ?_
    refine SatL.pu (RunV.extract rfl rfl) rfl ?_
    refine SatL.pu (RunV.extract rfl rfl) rfl ?_
    refine SatL.op rfl (OpW.alloc hS rfl rfl (by repeat constructor) ?_)
    clear hS
    intro b6 w2 _ hS
    refine SatL.op rfl (OpW.store hS rfl rfl (by repeat constructor) (by repeat constructor) (by repeat constructor) rfl rfl ?_)
    clear hS
    intro w3 hS
    refine SatL.pu (RunV.assign rfl) rfl ?_
    refine SatL.nil (SatE.thenC ?_)
    refine SatC.seq ?_
    refine SatC.seq ?_
    refine SatC.weak (e' := [(0, _), (4, _), (5, _), (6, _), (7, _)]) (by repeat constructor) ?_
    refine SatC.region ?_
    refine SatL.pu (RunV.move rfl) rfl ?_
    refine SatL.pu (RunV.not rfl) rfl ?_
    refine SatL.nil (SatE.thenC ?_)
    refine SatC.cond rfl (fun h2 => ?_) (fun h2 => ?_)
    · (try simp only [cx, ne_eq] at h2)
      try (exfalso; (first | omega | exact h2 trivial | contradiction | (simp at h2; done)); done)
      all_goals
      refine SatC.seq ?_
      refine SatC.region ?_
      refine SatL.pu (RunV.assign rfl) rfl ?_
      refine SatL.pu (RunV.assign rfl) rfl ?_
      refine SatL.nil (SatE.thenC ?_)
      refine SatC.ret (SatE.then_ret ?_)
      refine SatE.ret2 rfl rfl rfl ?_
      exact ⟨rfl, hS.sel (by repeat constructor)⟩
    · (try simp only [cx, ne_eq] at h2)
      try (exfalso; (first | omega | exact h2 trivial | contradiction | (simp at h2; done)); done)
      all_goals
      refine SatC.skip (SatE.thenC ?_)
      refine SatC.seq ?_
      refine SatC.drawnT 9 hS (hS) (by kernel_rfl) ?_
      clear hS
      intro w4 hh hS hD
      first | refine SatD.tk 0 rfl hD (fun _ hw => RunV.fieldAddrL rfl rfl rfl) ?_ | refine SatD.tk 0 rfl hD (fun _ hw => RunV.fieldAddr rfl rfl rfl) ?_
      refine SatD.tk 1 rfl hD (fun _ hw => RunV.load1 hw rfl rfl (by repeat constructor) rfl) ?_
      refine SatD.tk 2 rfl hD (fun _ hw => RunV.move rfl) ?_
      first | refine SatD.tk 3 rfl hD (fun _ hw => RunV.nil_ptr rfl) ?_ | refine SatD.tk 3 rfl hD (fun _ hw => RunV.nil_func rfl) ?_ | refine SatD.tk 3 rfl hD (fun _ hw => RunV.nil_yield rfl) ?_
      first | refine SatD.tk 4 rfl hD (fun _ hw => RunV.fieldAddrL rfl rfl rfl) ?_ | refine SatD.tk 4 rfl hD (fun _ hw => RunV.fieldAddr rfl rfl rfl) ?_
      refine SatD.tk 5 rfl hD (fun _ hw => RunV.load1 hw rfl rfl (by repeat constructor) rfl) ?_
      refine SatD.tk 6 rfl hD (fun _ hw => RunV.sub rfl rfl (by first | exact wrapI64 (by omega) | rfl)) ?_
      refine SatD.tk 7 rfl hD (fun _ hw => RunV.assign rfl) ?_
      refine SatD.tk 8 rfl hD (fun _ hw => RunV.assign rfl) ?_
      refine SatD.done 0 (by kernel_rfl) (SatE.thenC ?_)
      clear hD
      refine SatC.ret ?_
      refine SatE.ret2 rfl rfl rfl ?_
      exact ⟨rfl, hS.sel (by repeat constructor)⟩
theorem ids_no (hr : NoW r w) : Ret Try.prog 12 #[r] w fun u w' => u = .slice none 0 0 ∧ St w [] [] w' := by
  have hS := St.init0 w
  refine Ret.enter Try.func12 Try.ntmps12 rfl rfl ?_
  simp only [argEnv, Nat.reduceAdd]
  refine SatC.seq ?_
  refine SatC.region ?_
  refine SatL.pu (RunV.assign rfl) rfl ?_
  refine SatL.nil (SatE.thenC ?_)
  refine SatC.seq ?_
  refine SatC.seq ?_
  refine SatC.region ?_
  refine SatL.pu (RunV.move rfl) rfl ?_
  refine SatL.op rfl (OpW.enter rfl rfl rfl (rfl) (none_no (hr.st hS)) ?_)
  rintro r1 w1 ⟨rfl, h⟩
  replace hS := St.callN hS h
  refine SatL.nil (SatE.thenC ?_)
  refine SatC.cond rfl (fun h1 => ?_) (fun h1 => ?_)
  · (try simp only [cx, ne_eq] at h1)
    try (exfalso; (first | omega | exact h1 trivial | contradiction | (simp at h1; done)); done)
    all_goals
    refine SatC.seq ?_
    refine SatC.region ?_
    refine SatL.pu (RunV.assign rfl) rfl ?_
    refine SatL.nil (SatE.thenC ?_)
    refine SatC.ret (SatE.then_ret ?_)
    refine SatE.ret1 rfl rfl ?_
    exact ⟨rfl, hS.sel (by repeat constructor)⟩
  · (try simp only [cx, ne_eq] at h1)
    try (exfalso; (first | omega | exact h1 trivial | contradiction | (simp at h1; done)); done)
    all_goals
    refine SatC.skip (SatE.thenC ?_)
    refine SatC.seq ?_
    refine SatC.region ?_
    refine SatL.pu (RunV.assign rfl) rfl ?_
    refine SatL.nil (SatE.thenC ?_)
    refine SatC.seq ?_
    refine SatC.seq ?_
    refine SatC.region ?_
    refine SatL.pu (RunV.move rfl) rfl ?_
    first | refine SatL.pu (RunV.nil_ptr rfl) rfl ?_ | refine SatL.pu (RunV.nil_func rfl) rfl ?_ | refine SatL.pu (RunV.nil_yield rfl) rfl ?_
    first | refine SatL.pu (RunV.fieldAddrL rfl rfl rfl) rfl ?_ | refine SatL.pu (RunV.fieldAddr rfl rfl rfl) rfl ?_
    refine SatL.pu (RunV.load1 hS rfl rfl (by repeat constructor) rfl) rfl ?_
    -- STOP -- OP range
    done
theorem now_no (hr : NoW r w) : Ret Try.prog 21 #[r] w fun u w' => u = .int .i64 0 ∧ St w [] [] w' := by
  have hS := St.init0 w
  refine Ret.enter Try.func21 Try.ntmps21 rfl rfl ?_
  simp only [argEnv, Nat.reduceAdd]
  refine SatC.seq ?_
  refine SatC.region ?_
  refine SatL.pu (RunV.assign rfl) rfl ?_
  refine SatL.nil (SatE.thenC ?_)
  refine SatC.seq ?_
  refine SatC.seq ?_
  refine SatC.region ?_
  refine SatL.pu (RunV.move rfl) rfl ?_
  refine SatL.op rfl (OpW.enter rfl rfl rfl (rfl) (none_no (hr.st hS)) ?_)
  rintro r1 w1 ⟨rfl, h⟩
  replace hS := St.callN hS h
  refine SatL.nil (SatE.thenC ?_)
  refine SatC.cond rfl (fun h1 => ?_) (fun h1 => ?_)
  · (try simp only [cx, ne_eq] at h1)
    try (exfalso; (first | omega | exact h1 trivial | contradiction | (simp at h1; done)); done)
    all_goals
    refine SatC.seq ?_
    refine SatC.region ?_
    refine SatL.pu (RunV.assign rfl) rfl ?_
    refine SatL.nil (SatE.thenC ?_)
    refine SatC.ret (SatE.then_ret ?_)
    refine SatE.ret1 rfl rfl ?_
    exact ⟨rfl, hS.sel (by repeat constructor)⟩
  · (try simp only [cx, ne_eq] at h1)
    try (exfalso; (first | omega | exact h1 trivial | contradiction | (simp at h1; done)); done)
    all_goals
    refine SatC.skip (SatE.thenC ?_)
    refine SatC.seq ?_
    refine SatC.region ?_
    refine SatL.pu (RunV.move rfl) rfl ?_
    first | refine SatL.pu (RunV.nil_ptr rfl) rfl ?_ | refine SatL.pu (RunV.nil_func rfl) rfl ?_ | refine SatL.pu (RunV.nil_yield rfl) rfl ?_
    first | refine SatL.pu (RunV.fieldAddrL rfl rfl rfl) rfl ?_ | refine SatL.pu (RunV.fieldAddr rfl rfl rfl) rfl ?_
    refine SatL.pu (RunV.load1 hS rfl rfl (by repeat constructor) rfl) rfl ?_
    refine SatL.pu (RunV.assign rfl) rfl ?_
    refine SatL.nil (SatE.thenC ?_)
    refine SatC.ret ?_
    refine SatE.ret1 rfl rfl ?_
    exact ⟨rfl, hS.sel (by repeat constructor)⟩
theorem tick_no (hr : NoW r w) : Ret Try.prog 8 #[r] w fun u w' => u = .slice none 0 0 ∧ St w [] [] w' := by
  have hS := St.init0 w
  have hr1 := hr.one
  refine Ret.enter Try.func8 Try.ntmps8 rfl rfl ?_
  simp only [argEnv, Nat.reduceAdd]
  refine SatC.seq ?_
  refine SatC.region ?_
  refine SatL.op rfl (OpW.box hS rfl rfl (IsCells.one hr1) ?_)
  clear hS
  intro b1 w1 _ hS
  refine SatL.pu (RunV.assign rfl) rfl ?_
  refine SatL.nil (SatE.thenC ?_)
  refine SatC.seq ?_
  refine SatC.seq ?_
  refine SatC.region ?_
  refine SatL.pu (RunV.load1 hS rfl rfl (by repeat constructor) rfl) rfl ?_
  refine SatL.op rfl (OpW.enter rfl rfl rfl (rfl) (none_no (hr.st hS)) ?_)
  rintro r2 w2 ⟨rfl, h⟩
  replace hS := St.callN hS h
  refine SatL.nil (SatE.thenC ?_)
  refine SatC.cond rfl (fun h1 => ?_) (fun h1 => ?_)
  · (try simp only [cx, ne_eq] at h1)
    try (exfalso; (first | omega | exact h1 trivial | contradiction | (simp at h1; done)); done)
    all_goals
    refine SatC.seq ?_
    refine SatC.region ?_
    refine SatL.pu (RunV.assign rfl) rfl ?_
    refine SatL.nil (SatE.thenC ?_)
    refine SatC.ret (SatE.then_ret ?_)
    refine SatE.ret1 rfl rfl ?_
    exact ⟨rfl, hS.sel (by repeat constructor)⟩
  · (try simp only [cx, ne_eq] at h1)
    try (exfalso; (first | omega | exact h1 trivial | contradiction | (simp at h1; done)); done)
    all_goals
    refine SatC.skip (SatE.thenC ?_)
    refine SatC.seq ?_
    refine SatC.region ?_
    refine SatL.pu (RunV.load1 hS rfl rfl (by repeat constructor) rfl) rfl ?_
    first | refine SatL.pu (RunV.nil_ptr rfl) rfl ?_ | refine SatL.pu (RunV.nil_func rfl) rfl ?_ | refine SatL.pu (RunV.nil_yield rfl) rfl ?_
    first | refine SatL.pu (RunV.fieldAddrL rfl rfl rfl) rfl ?_ | refine SatL.pu (RunV.fieldAddr rfl rfl rfl) rfl ?_
    refine SatL.pu (RunV.load1 hS rfl rfl (by repeat constructor) rfl) rfl ?_
    refine SatL.pu (RunV.add rfl rfl (by first | exact wrapI64 (by omega) | rfl)) rfl ?_
    first | refine SatL.pu (RunV.nil_ptr rfl) rfl ?_ | refine SatL.pu (RunV.nil_func rfl) rfl ?_ | refine SatL.pu (RunV.nil_yield rfl) rfl ?_
    first | refine SatL.pu (RunV.fieldAddrL rfl rfl rfl) rfl ?_ | refine SatL.pu (RunV.fieldAddr rfl rfl rfl) rfl ?_
    refine SatL.op rfl (OpW.store hS rfl rfl (by repeat constructor) (by repeat constructor) (by repeat constructor) rfl rfl ?_)
    clear hS
    intro w3 hS
    refine SatL.nil (SatE.thenC ?_)
    refine SatC.seq ?_
    refine SatC.region ?_
    refine SatL.op rfl (OpW.alloc hS rfl rfl (by repeat constructor) ?_)
    clear hS
    intro b3 w4 _ hS
    refine SatL.nil (SatE.thenC ?_)
    refine SatC.seq ?_
    refine SatC.region ?_
    refine SatL.pu (RunV.mkFunc rfl) rfl ?_
    refine SatL.pu (RunV.assign rfl) rfl ?_
    refine SatL.nil (SatE.thenC ?_)
    refine SatC.seq ?_
    refine SatC.seq ?_
    refine SatC.region ?_
    refine SatL.pu (RunV.assign rfl) rfl ?_
    refine SatL.nil (SatE.thenC ?_)
    refine SatC.block ?_
    -- LOOP 1: turn [5], stay [1, 2, 3, 4]
    -- STOP loop 1
    done
theorem next_no (hr : NoW r w) : Ret Try.prog 20 #[r] w fun u w' => u = .tuple #[.int .i64 0, .bool false] ∧ St w [] [] w' := by
  have hS := St.init0 w
  refine Ret.enter Try.func20 Try.ntmps20 rfl rfl ?_
  simp only [argEnv, Nat.reduceAdd]
  refine SatC.seq ?_
  refine SatC.region ?_
  refine SatL.pu (RunV.assign rfl) rfl ?_
  refine SatL.pu (RunV.assign rfl) rfl ?_
  refine SatL.nil (SatE.thenC ?_)
  refine SatC.seq ?_
  refine SatC.region ?_
  refine SatL.pu (RunV.assign rfl) rfl ?_
  refine SatL.pu (RunV.assign rfl) rfl ?_
  refine SatL.nil (SatE.thenC ?_)
  refine SatC.seq ?_
  refine SatC.seq ?_
  refine SatC.region ?_
  refine SatL.pu (RunV.move rfl) rfl ?_
  refine SatL.op rfl (OpW.enter rfl rfl rfl (rfl) (ids_no (hr.st hS)) ?_)
  rintro r1 w1 ⟨rfl, h⟩
  replace hS := St.callN hS h
  first | refine SatL.pu (RunV.lenR (by assumption) rfl rfl) rfl ?_ | refine SatL.pu (RunV.lenS rfl rfl) rfl ?_
  refine SatL.pu (RunV.move rfl) rfl ?_
  refine SatL.nil (SatE.thenC ?_)
  refine SatC.block ?_
  refine SatC.loopK (G := Nat) (V := fun i => [(13, .int .i64 (i : Int)), (4, .int .i64 0), (5, .bool false)]) (Cn := [(0, _), (2, _), (3, _), (11, _), (12, _)]) (I := fun i w' => St w [] [] w') (μ := fun i => 0 - i) 0 ?_ (by repeat constructor) ?_
  · exact hS
  clear hS
  rintro i w2 hS
  refine SatC.weak (e' := [(0, _), (2, _), (3, _), (4, _), (5, _), (11, _), (12, _), (13, _)]) (by repeat constructor) ?_
  refine SatC.seq ?_
  refine SatC.region ?_
  refine SatL.pu (RunV.lss rfl rfl) rfl ?_
  refine SatL.nil (SatE.thenC ?_)
  refine SatC.seq ?_
  refine SatC.cond rfl (fun h1 => ?_) (fun h1 => ?_)
  · (try simp only [cx, ne_eq] at h1)
    try (exfalso; (first | omega | exact h1 trivial | contradiction | (first | omega | (simp at h1; done) | (simp at h1; omega))); done)
    all_goals
    refine SatC.skip (SatE.thenC ?_)
    refine SatC.seq ?_
    refine SatC.block ?_
    refine SatC.seq ?_
    refine SatC.region ?_
    first | refine SatL.pu (RunV.indexR (by assumption) rfl rfl rfl (by omega) (by omega) rfl) rfl ?_ | refine SatL.pu (RunV.indexS rfl rfl rfl (by omega) (by omega) rfl) rfl ?_
    first | refine SatL.pu (RunV.loadR1z (RdC.st (by assumption) hS List.not_mem_nil) rfl rfl (by first | assumption | exact map_get (by assumption)) rfl) rfl ?_ | refine SatL.pu (RunV.loadR1z (Sl.rd (by assumption) hS (by repeat constructor)) rfl rfl (by first | assumption | exact map_get (by assumption)) rfl) rfl ?_
    refine SatL.pu (RunV.assign rfl) rfl ?_
    refine SatL.nil (SatE.thenC ?_)
    refine SatC.seq ?_
    refine SatC.region ?_
    refine SatL.pu (RunV.move rfl) rfl ?_
    refine SatL.pu (RunV.move rfl) rfl ?_
    -- STOP -- CALL 19
    done
  · (try simp only [cx, ne_eq] at h1)
    try (exfalso; (first | omega | exact h1 trivial | contradiction | (first | omega | (simp at h1; done) | (simp at h1; omega))); done)
    all_goals
    refine SatC.exit (SatE.then_exit (SatE.then_exit (SatE.blk_exit (SatE.thenC ?_))))
    refine SatC.seq ?_
    refine SatC.region ?_
    refine SatL.pu (RunV.move rfl) rfl ?_
    refine SatL.pu (RunV.move rfl) rfl ?_
    refine SatL.pu (RunV.assign rfl) rfl ?_
    refine SatL.pu (RunV.assign rfl) rfl ?_
    refine SatL.nil (SatE.thenC ?_)
    refine SatC.ret ?_
    refine SatE.ret2 rfl rfl rfl ?_
    exact ⟨rfl, hS.sel (by repeat constructor)⟩
end
theorem none_any (i n : Int) (w : World) : Ret Try.prog 6 #[.int .i64 i, .int .i64 n] w fun v w' => v = .bool true ∧ St w [] [] w' := by
  have hS := St.init0 w
  refine Ret.enter Try.func6 Try.ntmps6 rfl rfl ?_
  simp only [argEnv, Nat.reduceAdd]
  refine SatC.seq ?_
  refine SatC.region ?_
  refine SatL.pu (RunV.assign rfl) rfl ?_
  refine SatL.nil (SatE.thenC ?_)
  refine SatC.seq ?_
  refine SatC.region ?_
  refine SatL.pu (RunV.assign rfl) rfl ?_
  refine SatL.nil (SatE.thenC ?_)
  refine SatC.seq ?_
  refine SatC.region ?_
  refine SatL.pu (RunV.move rfl) rfl ?_
  refine SatL.pu (RunV.build (v := .agg z0.toArray) rfl (by kernel_rfl)) rfl ?_
  refine SatL.op rfl (OpW.box (cs := z0) hS rfl rfl .agg ?_)
  clear hS
  intro b14 w1 _ hS
  refine SatL.op rfl (OpW.buildSliceV (vs := [_, _]) hS rfl rfl rfl rfl rfl rfl rfl rfl rfl ?_)
  clear hS
  intro b15 w2 _ hS
  refine SatL.pu (RunV.assign rfl) rfl ?_
  refine SatL.nil (SatE.thenC ?_)
  refine SatC.seq ?_
  refine SatC.seq ?_
  refine SatC.region ?_
  refine SatL.pu (RunV.assign rfl) rfl ?_
  refine SatL.nil (SatE.thenC ?_)
  refine SatC.block ?_
  refine SatC.loopK (G := Nat) (V := fun j => [(7, .int .i64 (j : Int))]) (Cn := [(0, _), (1, _), (6, _), (4, _)]) (I := fun j w' => j ≤ 2 ∧ St w [] [(b15, C 25 [.pointer none, .pointer (some ⟨b14, 0, none⟩)]), (b14, C 48 z0)] w') (μ := fun j => 2 - j) 0 ?_ (by repeat constructor) ?_
  · exact ⟨by omega, hS⟩
  clear hS
  rintro j w3 ⟨hi, hS⟩
  refine SatC.weak (e' := [(0, _), (1, _), (4, _), (6, _), (7, _)]) (by repeat constructor) ?_
  refine SatC.seq ?_
  refine SatC.seq ?_
  refine SatC.region ?_
  refine SatL.pu (RunV.move rfl) rfl ?_
  refine SatL.pu (RunV.move rfl) rfl ?_
  first | refine SatL.pu (RunV.lenR (by assumption) rfl rfl) rfl ?_ | refine SatL.pu (RunV.lenS rfl rfl) rfl ?_
  refine SatL.pu (RunV.lss rfl rfl) rfl ?_
  refine SatL.nil (SatE.thenC ?_)
  refine SatC.cond rfl (fun h1 => ?_) (fun h1 => ?_)
  · (try simp only [cx, ne_eq] at h1)
    try (exfalso; (first | omega | exact h1 trivial | contradiction | (first | exact h1 rfl | cases h1 | (simp at h1; done))); done)
    all_goals
    refine SatC.skip (SatE.thenC ?_)
    refine SatC.seq ?_
    refine SatC.block ?_
    refine SatC.seq ?_
    obtain ⟨z, hz, hzn⟩ : ∃ z, ([.pointer none, .pointer (some ⟨b14, 0, none⟩)] : List Value)[0 + (j : Int).toNat * 1]? = some z ∧ (z = .pointer none ∨ z = .pointer (some ⟨b14, 0, none⟩)) := by
      rcases (by omega : j = 0 ∨ j = 1) with rfl | rfl
      · exact ⟨_, rfl, .inl rfl⟩
      · exact ⟨_, rfl, .inr rfl⟩
    have hr : ∀ {L w'}, St w [] L w' → Has L b14 (C 48 z0) → NoW z w' := fun hS hm => hzn.imp id (fun e => ⟨b14, e, hS.own (b14, C 48 z0) hm.mem⟩)
    refine SatC.region ?_
    refine SatL.pu (RunV.move rfl) rfl ?_
    refine SatL.pu (RunV.move rfl) rfl ?_
    first | refine SatL.pu (RunV.indexR (by assumption) rfl rfl rfl (by omega) (by omega) rfl) rfl ?_ | refine SatL.pu (RunV.indexS rfl rfl rfl (by omega) (by omega) rfl) rfl ?_
    refine SatL.pu (RunV.load1 hS rfl rfl (by repeat constructor) hz) rfl ?_
    refine SatL.pu (RunV.move rfl) rfl ?_
    refine SatL.op rfl (OpW.enter rfl rfl rfl (rfl) (left_no _ (hr hS (by repeat constructor))) ?_)
    rintro r4 w4 ⟨rfl, h⟩
    replace hS := St.callN hS h
    refine SatL.pu (RunV.move rfl) rfl ?_
    refine SatL.pu (RunV.extract rfl rfl) rfl ?_
    refine SatL.pu (RunV.extract rfl rfl) rfl ?_
    refine SatL.pu (RunV.assign rfl) rfl ?_
    refine SatL.pu (RunV.assign rfl) rfl ?_
    refine SatL.nil (SatE.thenC ?_)
    refine SatC.seq ?_
    refine SatC.weak (e' := [(0, _), (1, _), (4, _), (6, _), (7, _), (8, _), (9, _)]) (by repeat constructor) ?_
    refine SatC.region ?_
    refine SatL.pu (RunV.move rfl) rfl ?_
    refine SatL.pu (RunV.move rfl) rfl ?_
    first | refine SatL.pu (RunV.indexR (by assumption) rfl rfl rfl (by omega) (by omega) rfl) rfl ?_ | refine SatL.pu (RunV.indexS rfl rfl rfl (by omega) (by omega) rfl) rfl ?_
    refine SatL.pu (RunV.load1 hS rfl rfl (by repeat constructor) hz) rfl ?_
    refine SatL.op rfl (OpW.enter rfl rfl rfl (rfl) (next_no (hr hS (by repeat constructor))) ?_)
    rintro r5 w5 ⟨rfl, h⟩
    replace hS := St.callN hS h
    refine SatL.pu (RunV.move rfl) rfl ?_
    refine SatL.pu (RunV.extract rfl rfl) rfl ?_
    refine SatL.pu (RunV.extract rfl rfl) rfl ?_
    refine SatL.pu (RunV.assign rfl) rfl ?_
    refine SatL.pu (RunV.assign rfl) rfl ?_
    refine SatL.nil (SatE.thenC ?_)
    refine SatC.seq ?_
    refine SatC.region ?_
    refine SatL.pu (RunV.move rfl) rfl ?_
    refine SatL.pu (RunV.move rfl) rfl ?_
    first | refine SatL.pu (RunV.indexR (by assumption) rfl rfl rfl (by omega) (by omega) rfl) rfl ?_ | refine SatL.pu (RunV.indexS rfl rfl rfl (by omega) (by omega) rfl) rfl ?_
    refine SatL.pu (RunV.load1 hS rfl rfl (by repeat constructor) hz) rfl ?_
    refine SatL.pu (RunV.move rfl) rfl ?_
    refine SatL.pu (RunV.move rfl) rfl ?_
    refine SatL.op rfl (OpW.enter rfl rfl rfl (rfl) (set_no _ _ (hr hS (by repeat constructor))) ?_)
    rintro r6 w6 ⟨rfl, h⟩
    replace hS := St.callN hS h
    refine SatL.pu (RunV.move rfl) rfl ?_
    refine SatL.guard rfl rfl rfl (fun h2 => ?_) (fun h2 => ?_)
    · (try simp only [cx, ne_eq] at h2)
      try (exfalso; (first | omega | exact h2 trivial | contradiction | (first | exact h2 rfl | cases h2 | (simp at h2; done))); done)
      all_goals
      refine SatL.pu (RunV.move rfl) rfl ?_
      refine SatL.guard_y rfl rfl ?_
      refine SatL.pu (RunV.move rfl) rfl ?_
      refine SatL.guard_y rfl rfl ?_
      first | refine SatL.pu (RunV.indexR (by assumption) rfl rfl rfl (by omega) (by omega) rfl) rfl ?_ | refine SatL.pu (RunV.indexS rfl rfl rfl (by omega) (by omega) rfl) rfl ?_
      refine SatL.guard_y rfl rfl ?_
      refine SatL.pu (RunV.load1 hS rfl rfl (by repeat constructor) hz) rfl ?_
      refine SatL.guard_y rfl rfl ?_
      refine SatL.pu (RunV.move rfl) rfl ?_
      refine SatL.guard_y rfl rfl ?_
      refine SatL.op rfl (OpW.enter rfl rfl rfl (rfl) (stop_no _ (hr hS (by repeat constructor))) ?_)
      rintro r7 w7 ⟨rfl, h⟩
      replace hS := St.callN hS h
      refine SatL.pu (RunV.pick_f rfl rfl) rfl ?_
      refine SatL.pu (RunV.move rfl) rfl ?_
      refine SatL.guard rfl rfl rfl (fun h3 => ?_) (fun h3 => ?_)
      · (try simp only [cx, ne_eq] at h3)
        try (exfalso; (first | omega | exact h3 trivial | contradiction | (first | exact h3 rfl | cases h3 | (simp at h3; done))); done)
        all_goals
        refine SatL.pu (RunV.move rfl) rfl ?_
        refine SatL.guard_y rfl rfl ?_
        refine SatL.pu (RunV.move rfl) rfl ?_
        refine SatL.guard_y rfl rfl ?_
        first | refine SatL.pu (RunV.indexR (by assumption) rfl rfl rfl (by omega) (by omega) rfl) rfl ?_ | refine SatL.pu (RunV.indexS rfl rfl rfl (by omega) (by omega) rfl) rfl ?_
        refine SatL.guard_y rfl rfl ?_
        refine SatL.pu (RunV.load1 hS rfl rfl (by repeat constructor) hz) rfl ?_
        refine SatL.guard_y rfl rfl ?_
        refine SatL.op rfl (OpW.enter rfl rfl rfl (rfl) (tick_no (hr hS (by repeat constructor))) ?_)
        rintro r8 w8 ⟨rfl, h⟩
        replace hS := St.callN hS h
        refine SatL.guard_y rfl rfl ?_
        first | refine SatL.pu (RunV.lenR (by assumption) rfl rfl) rfl ?_ | refine SatL.pu (RunV.lenS rfl rfl) rfl ?_
        refine SatL.guard_y rfl rfl ?_
        refine SatL.pu (RunV.neq rfl rfl) rfl ?_
        refine SatL.pu (RunV.pick_f rfl rfl) rfl ?_
        refine SatL.pu (RunV.move rfl) rfl ?_
        refine SatL.guard rfl rfl rfl (fun h4 => ?_) (fun h4 => ?_)
        · (try simp only [cx, ne_eq] at h4)
          try (exfalso; (first | omega | exact h4 trivial | contradiction | (first | exact h4 rfl | cases h4 | (simp at h4; done))); done)
          all_goals
          refine SatL.pu (RunV.move rfl) rfl ?_
          refine SatL.guard_y rfl rfl ?_
          refine SatL.pu (RunV.move rfl) rfl ?_
          refine SatL.guard_y rfl rfl ?_
          first | refine SatL.pu (RunV.indexR (by assumption) rfl rfl rfl (by omega) (by omega) rfl) rfl ?_ | refine SatL.pu (RunV.indexS rfl rfl rfl (by omega) (by omega) rfl) rfl ?_
          refine SatL.guard_y rfl rfl ?_
          refine SatL.pu (RunV.load1 hS rfl rfl (by repeat constructor) hz) rfl ?_
          refine SatL.guard_y rfl rfl ?_
          refine SatL.op rfl (OpW.enter rfl rfl rfl (rfl) (now_no (hr hS (by repeat constructor))) ?_)
          rintro r9 w9 ⟨rfl, h⟩
          replace hS := St.callN hS h
          refine SatL.guard_y rfl rfl ?_
          refine SatL.pu (RunV.neq rfl rfl) rfl ?_
          refine SatL.pu (RunV.pick_f rfl rfl) rfl ?_
          refine SatL.pu (RunV.move rfl) rfl ?_
          refine SatL.guard rfl rfl rfl (fun h5 => ?_) (fun h5 => ?_)
          · (try simp only [cx, ne_eq] at h5)
            try (exfalso; (first | omega | exact h5 trivial | contradiction | (first | exact h5 rfl | cases h5 | (simp at h5; done))); done)
            all_goals
            refine SatL.pu (RunV.move rfl) rfl ?_
            refine SatL.guard_y rfl rfl ?_
            refine SatL.pu (RunV.neq rfl rfl) rfl ?_
            refine SatL.pu (RunV.pick_f rfl rfl) rfl ?_
            refine SatL.pu (RunV.move rfl) rfl ?_
            refine SatL.guard rfl rfl rfl (fun h6 => ?_) (fun h6 => ?_)
            · (try simp only [cx, ne_eq] at h6)
              try (exfalso; (first | omega | exact h6 trivial | contradiction | (first | exact h6 rfl | cases h6 | (simp at h6; done))); done)
              all_goals
              refine SatL.pu (RunV.move rfl) rfl ?_
              refine SatL.pu (RunV.pick_f rfl rfl) rfl ?_
              refine SatL.pu (RunV.move rfl) rfl ?_
              refine SatL.guard rfl rfl rfl (fun h7 => ?_) (fun h7 => ?_)
              · (try simp only [cx, ne_eq] at h7)
                try (exfalso; (first | omega | exact h7 trivial | contradiction | (first | exact h7 rfl | cases h7 | (simp at h7; done))); done)
                all_goals
                refine SatL.pu (RunV.move rfl) rfl ?_
                refine SatL.guard_y rfl rfl ?_
                refine SatL.pu (RunV.neq rfl rfl) rfl ?_
                refine SatL.pu (RunV.pick_f rfl rfl) rfl ?_
                refine SatL.pu (RunV.move rfl) rfl ?_
                refine SatL.guard rfl rfl rfl (fun h8 => ?_) (fun h8 => ?_)
                · (try simp only [cx, ne_eq] at h8)
                  try (exfalso; (first | omega | exact h8 trivial | contradiction | (first | exact h8 rfl | cases h8 | (simp at h8; done))); done)
                  all_goals
                  refine SatL.pu (RunV.move rfl) rfl ?_
                  refine SatL.pu (RunV.pick_f rfl rfl) rfl ?_
                  refine SatL.pu (RunV.move rfl) rfl ?_
                  refine SatL.guard rfl rfl rfl (fun h9 => ?_) (fun h9 => ?_)
                  · (try simp only [cx, ne_eq] at h9)
                    try (exfalso; (first | omega | exact h9 trivial | contradiction | (first | exact h9 rfl | cases h9 | (simp at h9; done))); done)
                    all_goals
                    refine SatL.pu (RunV.move rfl) rfl ?_
                    refine SatL.guard_y rfl rfl ?_
                    refine SatL.pu (RunV.move rfl) rfl ?_
                    refine SatL.guard_y rfl rfl ?_
                    first | refine SatL.pu (RunV.indexR (by assumption) rfl rfl rfl (by omega) (by omega) rfl) rfl ?_ | refine SatL.pu (RunV.indexS rfl rfl rfl (by omega) (by omega) rfl) rfl ?_
                    refine SatL.guard_y rfl rfl ?_
                    refine SatL.pu (RunV.load1 hS rfl rfl (by repeat constructor) hz) rfl ?_
                    refine SatL.guard_y rfl rfl ?_
                    refine SatL.op rfl (OpW.enter rfl rfl rfl (rfl) (ids_no (hr hS (by repeat constructor))) ?_)
                    rintro r10 w10 ⟨rfl, h⟩
                    replace hS := St.callN hS h
                    refine SatL.guard_y rfl rfl ?_
                    first | refine SatL.pu (RunV.lenR (by assumption) rfl rfl) rfl ?_ | refine SatL.pu (RunV.lenS rfl rfl) rfl ?_
                    refine SatL.guard_y rfl rfl ?_
                    refine SatL.pu (RunV.neq rfl rfl) rfl ?_
                    refine SatL.pu (RunV.pick_f rfl rfl) rfl ?_
                    refine SatL.nil (SatE.thenC ?_)
                    refine SatC.weak (e' := [(0, _), (1, _), (4, _), (6, _), (7, _), (93, _)]) (by repeat constructor) ?_
                    refine SatC.cond rfl (fun h10 => ?_) (fun h10 => ?_)
                    · (try simp only [cx, ne_eq] at h10)
                      try (exfalso; (first | omega | exact h10 trivial | contradiction | (first | exact h10 rfl | cases h10 | (simp at h10; done))); done)
                      all_goals
                      refine SatC.seq ?_
                      refine SatC.region ?_
                      refine SatL.pu (RunV.assign rfl) rfl ?_
                      refine SatL.nil (SatE.thenC ?_)
                      refine SatC.ret (SatE.blk_ret (SatE.then_ret (SatE.then_ret (SatE.blk_ret (SatE.then_ret ?_)))))
                      refine SatE.ret1 rfl rfl ?_
                      exact ⟨rfl, hS.sel (by repeat constructor)⟩
                    · (try simp only [cx, ne_eq] at h10)
                      try (exfalso; (first | omega | exact h10 trivial | contradiction | (first | exact h10 rfl | cases h10 | (simp at h10; done))); done)
                      all_goals
                      refine SatC.skip (SatE.blk_normal (SatE.thenC ?_))
                      refine SatC.region ?_
                      refine SatL.pu (RunV.move rfl) rfl ?_
                      refine SatL.pu (RunV.add rfl rfl (by first | exact wrapI64 (by omega) | rfl)) rfl ?_
                      refine SatL.pu (RunV.assign rfl) rfl ?_
                      refine SatL.nil ?_
                      refine SatE.again (j + 1) ?_ (by first | omega | (dsimp only; omega)) (by repeat constructor)
                      exact ⟨by omega, hS.sel (by repeat constructor)⟩
                  · (try simp only [cx, ne_eq] at h9)
                    try (exfalso; (first | omega | exact h9 trivial | contradiction | (first | exact h9 rfl | cases h9 | (simp at h9; done))); done)
                    all_goals
                    refine SatL.guard_n rfl rfl rfl rfl ?_
                    refine SatL.guard_n rfl rfl rfl rfl ?_
                    refine SatL.guard_n rfl rfl rfl rfl ?_
                    refine SatL.guard_n rfl rfl rfl rfl ?_
                    refine SatL.guard_n rfl rfl rfl rfl ?_
                    refine SatL.guard_n rfl rfl rfl rfl ?_
                    refine SatL.pu (RunV.pick_t rfl rfl) rfl ?_
                    refine SatL.nil (SatE.thenC ?_)
                    refine SatC.weak (e' := [(0, _), (1, _), (4, _), (6, _), (7, _), (93, _)]) (by repeat constructor) ?_
                    refine SatC.cond_t rfl ?_
                    refine SatC.seq ?_
                    refine SatC.region ?_
                    refine SatL.pu (RunV.assign rfl) rfl ?_
                    refine SatL.nil (SatE.thenC ?_)
                    refine SatC.ret (SatE.blk_ret (SatE.then_ret (SatE.then_ret (SatE.blk_ret (SatE.then_ret ?_)))))
                    refine SatE.ret1 rfl rfl ?_
                    exact ⟨rfl, hS.sel (by repeat constructor)⟩
                · (try simp only [cx, ne_eq] at h8)
                  try (exfalso; (first | omega | exact h8 trivial | contradiction | (first | exact h8 rfl | cases h8 | (simp at h8; done))); done)
                  all_goals
                  refine SatL.pu (RunV.pick_t rfl rfl) rfl ?_
                  refine SatL.pu (RunV.move rfl) rfl ?_
                  refine SatL.guard_n rfl rfl rfl rfl ?_
                  refine SatL.guard_n rfl rfl rfl rfl ?_
                  refine SatL.guard_n rfl rfl rfl rfl ?_
                  refine SatL.guard_n rfl rfl rfl rfl ?_
                  refine SatL.guard_n rfl rfl rfl rfl ?_
                  refine SatL.guard_n rfl rfl rfl rfl ?_
                  refine SatL.guard_n rfl rfl rfl rfl ?_
                  refine SatL.pu (RunV.pick_t rfl rfl) rfl ?_
                  refine SatL.nil (SatE.thenC ?_)
                  refine SatC.weak (e' := [(0, _), (1, _), (4, _), (6, _), (7, _), (93, _)]) (by repeat constructor) ?_
                  refine SatC.cond_t rfl ?_
                  refine SatC.seq ?_
                  refine SatC.region ?_
                  refine SatL.pu (RunV.assign rfl) rfl ?_
                  refine SatL.nil (SatE.thenC ?_)
                  refine SatC.ret (SatE.blk_ret (SatE.then_ret (SatE.then_ret (SatE.blk_ret (SatE.then_ret ?_)))))
                  refine SatE.ret1 rfl rfl ?_
                  exact ⟨rfl, hS.sel (by repeat constructor)⟩
              · (try simp only [cx, ne_eq] at h7)
                try (exfalso; (first | omega | exact h7 trivial | contradiction | (first | exact h7 rfl | cases h7 | (simp at h7; done))); done)
                all_goals
                refine SatL.guard_n rfl rfl rfl rfl ?_
                refine SatL.pu (RunV.pick_t rfl rfl) rfl ?_
                refine SatL.pu (RunV.move rfl) rfl ?_
                refine SatL.guard_n rfl rfl rfl rfl ?_
                refine SatL.pu (RunV.pick_t rfl rfl) rfl ?_
                refine SatL.pu (RunV.move rfl) rfl ?_
                refine SatL.guard_n rfl rfl rfl rfl ?_
                refine SatL.guard_n rfl rfl rfl rfl ?_
                refine SatL.guard_n rfl rfl rfl rfl ?_
                refine SatL.guard_n rfl rfl rfl rfl ?_
                refine SatL.guard_n rfl rfl rfl rfl ?_
                refine SatL.guard_n rfl rfl rfl rfl ?_
                refine SatL.guard_n rfl rfl rfl rfl ?_
                refine SatL.pu (RunV.pick_t rfl rfl) rfl ?_
                refine SatL.nil (SatE.thenC ?_)
                refine SatC.weak (e' := [(0, _), (1, _), (4, _), (6, _), (7, _), (93, _)]) (by repeat constructor) ?_
                refine SatC.cond_t rfl ?_
                refine SatC.seq ?_
                refine SatC.region ?_
                refine SatL.pu (RunV.assign rfl) rfl ?_
                refine SatL.nil (SatE.thenC ?_)
                refine SatC.ret (SatE.blk_ret (SatE.then_ret (SatE.then_ret (SatE.blk_ret (SatE.then_ret ?_)))))
                refine SatE.ret1 rfl rfl ?_
                exact ⟨rfl, hS.sel (by repeat constructor)⟩
            · (try simp only [cx, ne_eq] at h6)
              try (exfalso; (first | omega | exact h6 trivial | contradiction | (first | exact h6 rfl | cases h6 | (simp at h6; done))); done)
              all_goals
              refine SatL.pu (RunV.pick_t rfl rfl) rfl ?_
              refine SatL.pu (RunV.move rfl) rfl ?_
              refine SatL.guard_n rfl rfl rfl rfl ?_
              refine SatL.guard_n rfl rfl rfl rfl ?_
              refine SatL.pu (RunV.pick_t rfl rfl) rfl ?_
              refine SatL.pu (RunV.move rfl) rfl ?_
              refine SatL.guard_n rfl rfl rfl rfl ?_
              refine SatL.pu (RunV.pick_t rfl rfl) rfl ?_
              refine SatL.pu (RunV.move rfl) rfl ?_
              refine SatL.guard_n rfl rfl rfl rfl ?_
              refine SatL.guard_n rfl rfl rfl rfl ?_
              refine SatL.guard_n rfl rfl rfl rfl ?_
              refine SatL.guard_n rfl rfl rfl rfl ?_
              refine SatL.guard_n rfl rfl rfl rfl ?_
              refine SatL.guard_n rfl rfl rfl rfl ?_
              refine SatL.guard_n rfl rfl rfl rfl ?_
              refine SatL.pu (RunV.pick_t rfl rfl) rfl ?_
              refine SatL.nil (SatE.thenC ?_)
              refine SatC.weak (e' := [(0, _), (1, _), (4, _), (6, _), (7, _), (93, _)]) (by repeat constructor) ?_
              refine SatC.cond_t rfl ?_
              refine SatC.seq ?_
              refine SatC.region ?_
              refine SatL.pu (RunV.assign rfl) rfl ?_
              refine SatL.nil (SatE.thenC ?_)
              refine SatC.ret (SatE.blk_ret (SatE.then_ret (SatE.then_ret (SatE.blk_ret (SatE.then_ret ?_)))))
              refine SatE.ret1 rfl rfl ?_
              exact ⟨rfl, hS.sel (by repeat constructor)⟩
          · (try simp only [cx, ne_eq] at h5)
            try (exfalso; (first | omega | exact h5 trivial | contradiction | (first | exact h5 rfl | cases h5 | (simp at h5; done))); done)
            all_goals
            refine SatL.guard_n rfl rfl rfl rfl ?_
            refine SatL.pu (RunV.pick_t rfl rfl) rfl ?_
            refine SatL.pu (RunV.move rfl) rfl ?_
            refine SatL.guard_n rfl rfl rfl rfl ?_
            refine SatL.pu (RunV.pick_t rfl rfl) rfl ?_
            refine SatL.pu (RunV.move rfl) rfl ?_
            refine SatL.guard_n rfl rfl rfl rfl ?_
            refine SatL.guard_n rfl rfl rfl rfl ?_
            refine SatL.pu (RunV.pick_t rfl rfl) rfl ?_
            refine SatL.pu (RunV.move rfl) rfl ?_
            refine SatL.guard_n rfl rfl rfl rfl ?_
            refine SatL.pu (RunV.pick_t rfl rfl) rfl ?_
            refine SatL.pu (RunV.move rfl) rfl ?_
            refine SatL.guard_n rfl rfl rfl rfl ?_
            refine SatL.guard_n rfl rfl rfl rfl ?_
            refine SatL.guard_n rfl rfl rfl rfl ?_
            refine SatL.guard_n rfl rfl rfl rfl ?_
            refine SatL.guard_n rfl rfl rfl rfl ?_
            refine SatL.guard_n rfl rfl rfl rfl ?_
            refine SatL.guard_n rfl rfl rfl rfl ?_
            refine SatL.pu (RunV.pick_t rfl rfl) rfl ?_
            refine SatL.nil (SatE.thenC ?_)
            refine SatC.weak (e' := [(0, _), (1, _), (4, _), (6, _), (7, _), (93, _)]) (by repeat constructor) ?_
            refine SatC.cond_t rfl ?_
            refine SatC.seq ?_
            refine SatC.region ?_
            refine SatL.pu (RunV.assign rfl) rfl ?_
            refine SatL.nil (SatE.thenC ?_)
            refine SatC.ret (SatE.blk_ret (SatE.then_ret (SatE.then_ret (SatE.blk_ret (SatE.then_ret ?_)))))
            refine SatE.ret1 rfl rfl ?_
            exact ⟨rfl, hS.sel (by repeat constructor)⟩
        · (try simp only [cx, ne_eq] at h4)
          try (exfalso; (first | omega | exact h4 trivial | contradiction | (first | exact h4 rfl | cases h4 | (simp at h4; done))); done)
          all_goals
          refine SatL.guard_n rfl rfl rfl rfl ?_
          refine SatL.guard_n rfl rfl rfl rfl ?_
          refine SatL.guard_n rfl rfl rfl rfl ?_
          refine SatL.guard_n rfl rfl rfl rfl ?_
          refine SatL.guard_n rfl rfl rfl rfl ?_
          refine SatL.pu (RunV.pick_t rfl rfl) rfl ?_
          refine SatL.pu (RunV.move rfl) rfl ?_
          refine SatL.guard_n rfl rfl rfl rfl ?_
          refine SatL.guard_n rfl rfl rfl rfl ?_
          refine SatL.pu (RunV.pick_t rfl rfl) rfl ?_
          refine SatL.pu (RunV.move rfl) rfl ?_
          refine SatL.guard_n rfl rfl rfl rfl ?_
          refine SatL.pu (RunV.pick_t rfl rfl) rfl ?_
          refine SatL.pu (RunV.move rfl) rfl ?_
          refine SatL.guard_n rfl rfl rfl rfl ?_
          refine SatL.guard_n rfl rfl rfl rfl ?_
          refine SatL.pu (RunV.pick_t rfl rfl) rfl ?_
          refine SatL.pu (RunV.move rfl) rfl ?_
          refine SatL.guard_n rfl rfl rfl rfl ?_
          refine SatL.pu (RunV.pick_t rfl rfl) rfl ?_
          refine SatL.pu (RunV.move rfl) rfl ?_
          refine SatL.guard_n rfl rfl rfl rfl ?_
          refine SatL.guard_n rfl rfl rfl rfl ?_
          refine SatL.guard_n rfl rfl rfl rfl ?_
          refine SatL.guard_n rfl rfl rfl rfl ?_
          refine SatL.guard_n rfl rfl rfl rfl ?_
          refine SatL.guard_n rfl rfl rfl rfl ?_
          refine SatL.guard_n rfl rfl rfl rfl ?_
          refine SatL.pu (RunV.pick_t rfl rfl) rfl ?_
          refine SatL.nil (SatE.thenC ?_)
          refine SatC.weak (e' := [(0, _), (1, _), (4, _), (6, _), (7, _), (93, _)]) (by repeat constructor) ?_
          refine SatC.cond_t rfl ?_
          refine SatC.seq ?_
          refine SatC.region ?_
          refine SatL.pu (RunV.assign rfl) rfl ?_
          refine SatL.nil (SatE.thenC ?_)
          refine SatC.ret (SatE.blk_ret (SatE.then_ret (SatE.then_ret (SatE.blk_ret (SatE.then_ret ?_)))))
          refine SatE.ret1 rfl rfl ?_
          exact ⟨rfl, hS.sel (by repeat constructor)⟩
      · (try simp only [cx, ne_eq] at h3)
        try (exfalso; (first | omega | exact h3 trivial | contradiction | (first | exact h3 rfl | cases h3 | (simp at h3; done))); done)
        all_goals
        refine SatL.guard_n rfl rfl rfl rfl ?_
        refine SatL.guard_n rfl rfl rfl rfl ?_
        refine SatL.guard_n rfl rfl rfl rfl ?_
        refine SatL.guard_n rfl rfl rfl rfl ?_
        refine SatL.guard_n rfl rfl rfl rfl ?_
        refine SatL.guard_n rfl rfl rfl rfl ?_
        refine SatL.pu (RunV.pick_t rfl rfl) rfl ?_
        refine SatL.pu (RunV.move rfl) rfl ?_
        refine SatL.guard_n rfl rfl rfl rfl ?_
        refine SatL.guard_n rfl rfl rfl rfl ?_
        refine SatL.guard_n rfl rfl rfl rfl ?_
        refine SatL.guard_n rfl rfl rfl rfl ?_
        refine SatL.guard_n rfl rfl rfl rfl ?_
        refine SatL.guard_n rfl rfl rfl rfl ?_
        refine SatL.pu (RunV.pick_t rfl rfl) rfl ?_
        refine SatL.pu (RunV.move rfl) rfl ?_
        refine SatL.guard_n rfl rfl rfl rfl ?_
        refine SatL.guard_n rfl rfl rfl rfl ?_
        refine SatL.pu (RunV.pick_t rfl rfl) rfl ?_
        refine SatL.pu (RunV.move rfl) rfl ?_
        refine SatL.guard_n rfl rfl rfl rfl ?_
        refine SatL.pu (RunV.pick_t rfl rfl) rfl ?_
        refine SatL.pu (RunV.move rfl) rfl ?_
        refine SatL.guard_n rfl rfl rfl rfl ?_
        refine SatL.guard_n rfl rfl rfl rfl ?_
        refine SatL.pu (RunV.pick_t rfl rfl) rfl ?_
        refine SatL.pu (RunV.move rfl) rfl ?_
        refine SatL.guard_n rfl rfl rfl rfl ?_
        refine SatL.pu (RunV.pick_t rfl rfl) rfl ?_
        refine SatL.pu (RunV.move rfl) rfl ?_
        refine SatL.guard_n rfl rfl rfl rfl ?_
        refine SatL.guard_n rfl rfl rfl rfl ?_
        refine SatL.guard_n rfl rfl rfl rfl ?_
        refine SatL.guard_n rfl rfl rfl rfl ?_
        refine SatL.guard_n rfl rfl rfl rfl ?_
        refine SatL.guard_n rfl rfl rfl rfl ?_
        refine SatL.guard_n rfl rfl rfl rfl ?_
        refine SatL.pu (RunV.pick_t rfl rfl) rfl ?_
        refine SatL.nil (SatE.thenC ?_)
        refine SatC.weak (e' := [(0, _), (1, _), (4, _), (6, _), (7, _), (93, _)]) (by repeat constructor) ?_
        refine SatC.cond_t rfl ?_
        refine SatC.seq ?_
        refine SatC.region ?_
        refine SatL.pu (RunV.assign rfl) rfl ?_
        refine SatL.nil (SatE.thenC ?_)
        refine SatC.ret (SatE.blk_ret (SatE.then_ret (SatE.then_ret (SatE.blk_ret (SatE.then_ret ?_)))))
        refine SatE.ret1 rfl rfl ?_
        exact ⟨rfl, hS.sel (by repeat constructor)⟩
    · (try simp only [cx, ne_eq] at h2)
      try (exfalso; (first | omega | exact h2 trivial | contradiction | (first | exact h2 rfl | cases h2 | (simp at h2; done))); done)
      all_goals
      refine SatL.guard_n rfl rfl rfl rfl ?_
      refine SatL.guard_n rfl rfl rfl rfl ?_
      refine SatL.guard_n rfl rfl rfl rfl ?_
      refine SatL.guard_n rfl rfl rfl rfl ?_
      refine SatL.guard_n rfl rfl rfl rfl ?_
      refine SatL.pu (RunV.pick_t rfl rfl) rfl ?_
      refine SatL.pu (RunV.move rfl) rfl ?_
      refine SatL.guard_n rfl rfl rfl rfl ?_
      refine SatL.guard_n rfl rfl rfl rfl ?_
      refine SatL.guard_n rfl rfl rfl rfl ?_
      refine SatL.guard_n rfl rfl rfl rfl ?_
      refine SatL.guard_n rfl rfl rfl rfl ?_
      refine SatL.guard_n rfl rfl rfl rfl ?_
      refine SatL.guard_n rfl rfl rfl rfl ?_
      refine SatL.pu (RunV.pick_t rfl rfl) rfl ?_
      refine SatL.pu (RunV.move rfl) rfl ?_
      refine SatL.guard_n rfl rfl rfl rfl ?_
      refine SatL.guard_n rfl rfl rfl rfl ?_
      refine SatL.guard_n rfl rfl rfl rfl ?_
      refine SatL.guard_n rfl rfl rfl rfl ?_
      refine SatL.guard_n rfl rfl rfl rfl ?_
      refine SatL.guard_n rfl rfl rfl rfl ?_
      refine SatL.pu (RunV.pick_t rfl rfl) rfl ?_
      refine SatL.pu (RunV.move rfl) rfl ?_
      refine SatL.guard_n rfl rfl rfl rfl ?_
      refine SatL.guard_n rfl rfl rfl rfl ?_
      refine SatL.pu (RunV.pick_t rfl rfl) rfl ?_
      refine SatL.pu (RunV.move rfl) rfl ?_
      refine SatL.guard_n rfl rfl rfl rfl ?_
      refine SatL.pu (RunV.pick_t rfl rfl) rfl ?_
      refine SatL.pu (RunV.move rfl) rfl ?_
      refine SatL.guard_n rfl rfl rfl rfl ?_
      refine SatL.guard_n rfl rfl rfl rfl ?_
      refine SatL.pu (RunV.pick_t rfl rfl) rfl ?_
      refine SatL.pu (RunV.move rfl) rfl ?_
      refine SatL.guard_n rfl rfl rfl rfl ?_
      refine SatL.pu (RunV.pick_t rfl rfl) rfl ?_
      refine SatL.pu (RunV.move rfl) rfl ?_
      refine SatL.guard_n rfl rfl rfl rfl ?_
      refine SatL.guard_n rfl rfl rfl rfl ?_
      refine SatL.guard_n rfl rfl rfl rfl ?_
      refine SatL.guard_n rfl rfl rfl rfl ?_
      refine SatL.guard_n rfl rfl rfl rfl ?_
      refine SatL.guard_n rfl rfl rfl rfl ?_
      refine SatL.guard_n rfl rfl rfl rfl ?_
      refine SatL.pu (RunV.pick_t rfl rfl) rfl ?_
      refine SatL.nil (SatE.thenC ?_)
      refine SatC.weak (e' := [(0, _), (1, _), (4, _), (6, _), (7, _), (93, _)]) (by repeat constructor) ?_
      refine SatC.cond_t rfl ?_
      refine SatC.seq ?_
      refine SatC.region ?_
      refine SatL.pu (RunV.assign rfl) rfl ?_
      refine SatL.nil (SatE.thenC ?_)
      refine SatC.ret (SatE.blk_ret (SatE.then_ret (SatE.then_ret (SatE.blk_ret (SatE.then_ret ?_)))))
      refine SatE.ret1 rfl rfl ?_
      exact ⟨rfl, hS.sel (by repeat constructor)⟩
  · (try simp only [cx, ne_eq] at h1)
    try (exfalso; (first | omega | exact h1 trivial | contradiction | (first | exact h1 rfl | cases h1 | (simp at h1; done))); done)
    all_goals
    refine SatC.exit (SatE.then_exit (SatE.then_exit (SatE.blk_exit (SatE.thenC ?_))))
    refine SatC.seq ?_
    refine SatC.region ?_
    refine SatL.op rfl (OpW.enter rfl rfl rfl (rfl) (works_any _) ?_)
    rintro r4 w4 ⟨rfl, h⟩
    replace hS := St.callN hS h
    refine SatL.pu (RunV.assign rfl) rfl ?_
    refine SatL.nil (SatE.thenC ?_)
    refine SatC.ret ?_
    refine SatE.ret1 rfl rfl ?_
    exact ⟨rfl, hS.sel (by repeat constructor)⟩
theorem wheelNone_lifted (os : Os) (started : os.Started) (H : Type) (enc : TypeId × Value → H) :
    ReturnsInHanded {} Try.checked os 6 .any (Rows.wheelNoneSpec.pre6 enc Try.prog Try.f6 Rows.wheelNoneRow.domain false) (Rows.wheelNoneSpec.post enc Try.prog Try.f6 false true false false) := by
  refine law_returns (C := Try.checked) (b := 4) (by kernel_rfl) started (by kernel_rfl) Try.func6
    (ChangeSpec.witness6 (enc := enc) (C := Try.checked) false ⟨#[], #[.int .i64 0, .int .i64 0], []⟩ 8 (by kernel_rfl) (by kernel_rfl) (by kernel_rfl) (by kernel_rfl))
    rfl rfl (by kernel_rfl) (by kernel_rfl) (by kernel_rfl) (fun ds h => ?_) ?_
  · rw [Try.params6] at h
    match ds, h with
    | [_, _], _ => rfl
  intro W base args ds ps hval hA hsz
  rw [Try.params6] at hA hval
  obtain ⟨v0, v1, d0, d1, q0, q1, hargs, rfl, rfl, h0, h1⟩ := trodAll_two hA
  subst hargs
  obtain ⟨a0, rfl, rfl, rfl, b0⟩ := open_int Try.underlying3 (hval 0 3 v0 rfl rfl) h0
  replace b0 := bnd_i64 b0
  obtain ⟨a1, rfl, rfl, rfl, b1⟩ := open_int Try.underlying3 (hval 1 3 v1 rfl rfl) h1
  replace b1 := bnd_i64 b1
  exact law_done (none_any a0 a1 W)
theorem wheelNone_holds : Rows.WheelNoneSaid :=
  OpenClaim.holds_of_wide 6 Try.f6 rfl rfl rfl rfl rfl rfl rfl ⟨rfl, rfl, rfl, rfl, rfl⟩ rfl rfl rfl rfl rfl (by kernel_rfl) Try.func6 (by kernel_rfl)
    (of_decide_eq_true (by kernel_rfl)) (by unfold Func.isWrapper; first | (rw [if_pos (by decide +kernel)]; kernel_rfl) | (rw [if_neg (by decide +kernel)]; exact ⟨rfl, rfl⟩))
    (fun os started H enc _ => wheelNone_lifted os started H enc)
end Go.Proofs.Ytabladeenemfoaa
