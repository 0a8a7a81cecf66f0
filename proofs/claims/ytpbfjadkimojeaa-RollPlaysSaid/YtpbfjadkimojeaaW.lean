/- The works of chapter 09's laws. -/
import Derived.Test.YtpbfjadkimojeaaRo
set_option linter.unusedSimpArgs false
set_option linter.unusedVariables false
set_option maxRecDepth 100000
set_option maxHeartbeats 1000000
namespace Go.Proofs.Ytpbfjadkimojeaa
open Go.RowKit
theorem new_ok (me i : Int) (w : World) (h : 0 ≤ me ∧ me < 8) : Ret Try.prog 8 #[.int .i64 me, .int .u32 i] w fun v w' => ∃ b mb o, v = .tuple #[.pointer (some ⟨b, 0, none⟩), .int .i64 0] ∧ IsMp eI o (mv [(me, ⟨me, i, 0⟩)]) ∧ St w [] [(b, C 63 (rc me mb)), (mb, o)] w' := by
  have := new_any me i w
  simpa only [if_pos h] using this
theorem wk : applyC 2 [(2, ⟨2, 5, 0⟩)] ⟨1, 3, 0⟩ = (⟨1, z3, ⟨1, 3, 0⟩⟩, [(2, ⟨2, 5, 0⟩), (1, ⟨1, 3, 0⟩)]) := by decide
theorem works_any (w : World) : Ret Try.prog 13 #[] w fun v w' => v = .bool true ∧ St w [] [] w' := by
  have hS := St.init0 w
  refine Ret.enter Try.func13 Try.ntmps13 rfl rfl ?_
  simp only [argEnv, Nat.reduceAdd]
  refine SatC.seq ?_
  refine SatC.region ?_
  refine SatL.pu (RunV.assign rfl) rfl ?_
  refine SatL.nil (SatE.thenC ?_)
  refine SatC.seq ?_
  refine SatC.region ?_
  refine SatL.op rfl (OpW.enter rfl rfl rfl (rfl) (new_ok _ _ _ (by omega)) ?_)
  rintro r1 w1 ⟨b, mb, o, rfl, ho, h⟩
  replace hS := hS.callT (A := []) (by repeat constructor) h
  refine SatL.pu (RunV.move rfl) rfl ?_
  refine SatL.pu (RunV.extract rfl rfl) rfl ?_
  refine SatL.pu (RunV.extract rfl rfl) rfl ?_
  refine SatL.pu (RunV.assign rfl) rfl ?_
  refine SatL.pu (RunV.assign rfl) rfl ?_
  refine SatL.nil (SatE.thenC ?_)
  refine SatC.seq ?_
  refine SatC.region ?_
  refine SatL.pu (RunV.move rfl) rfl ?_
  refine SatL.pu (RunV.build rfl (by simp [go_sem]; try rfl)) rfl ?_
  refine SatL.op rfl (OpW.enter rfl rfl rfl (rfl) (apply_any (u := ⟨1, 3, 0⟩) (me := 2) (hS.ownT (by repeat constructor)) (by assumption) (by intro p hp; simp at hp; subst hp; decide) (by decide)) ?_)
  rintro r2 w2 ⟨rfl, o1, ho1, h⟩
  replace hS := hS.callT (A := [(b, C 63 (rc 2 mb)), (mb, o)]) (by repeat constructor) h
  refine SatL.op rfl (OpW.alloc hS rfl rfl (by repeat constructor) ?_)
  clear hS
  intro b3 w3 _ hS
  refine SatL.op rfl (OpW.store hS rfl rfl (by repeat constructor) (by repeat constructor) (by repeat constructor) rfl rfl ?_)
  clear hS
  intro w4 hS
  refine SatL.nil (SatE.thenC ?_)
  refine SatC.seq ?_
  refine SatC.region ?_
  refine SatL.pu (RunV.move rfl) rfl ?_
  refine SatL.pu (RunV.eql rfl rfl) rfl ?_
  refine SatL.pu (RunV.move rfl) rfl ?_
  refine SatL.guard rfl rfl rfl (fun h1 => ?_) (fun h1 => ?_)
  · (try simp only [cx, ne_eq] at h1)
    try (exfalso; (first | omega | exact h1 trivial | contradiction | (simp only [wk] at h1; first | exact h1 rfl | exact h1 trivial | (simp at h1; done))); done)
    all_goals
    first | refine SatL.pu (RunV.fieldAddrL rfl rfl rfl) rfl ?_ | refine SatL.pu (RunV.fieldAddr rfl rfl rfl) rfl ?_
    refine SatL.guard_y rfl rfl ?_
    refine SatL.pu (RunV.load1 hS rfl rfl (by repeat constructor) rfl) rfl ?_
    refine SatL.guard_y rfl rfl ?_
    refine SatL.pu (RunV.eql rfl rfl) rfl ?_
    refine SatL.pu (RunV.pick_t rfl rfl) rfl ?_
    refine SatL.pu (RunV.move rfl) rfl ?_
    refine SatL.guard rfl rfl rfl (fun h2 => ?_) (fun h2 => ?_)
    · (try simp only [cx, ne_eq] at h2)
      try (exfalso; (first | omega | exact h2 trivial | contradiction | (simp only [wk] at h2; first | exact h2 rfl | exact h2 trivial | (simp at h2; done))); done)
      all_goals
      first | refine SatL.pu (RunV.fieldAddrL rfl rfl rfl) rfl ?_ | refine SatL.pu (RunV.fieldAddr rfl rfl rfl) rfl ?_
      refine SatL.guard_y rfl rfl ?_
      refine SatL.pu (RunV.loadN hS rfl rfl (by repeat constructor) (by repeat constructor)) rfl ?_
      refine SatL.guard_y rfl rfl ?_
      refine SatL.pu (RunV.build rfl (by simp [go_sem]; try rfl)) rfl ?_
      refine SatL.guard_y rfl rfl ?_
      refine SatL.pu (RunV.bin rfl rfl (guard24 _ _ _ _ _ _ _ _ _ _) (run_eql24 _ _ _ _ _ _ _)) rfl ?_
      refine SatL.pu (RunV.pick_t rfl rfl) rfl ?_
      refine SatL.pu (RunV.move rfl) rfl ?_
      refine SatL.guard rfl rfl rfl (fun h3 => ?_) (fun h3 => ?_)
      · (try simp only [cx, ne_eq] at h3)
        try (exfalso; (first | omega | exact h3 trivial | contradiction | (simp only [wk] at h3; first | exact h3 rfl | exact h3 trivial | (simp at h3; done))); done)
        all_goals
        refine SatL.pu (RunV.move rfl) rfl ?_
        refine SatL.guard_y rfl rfl ?_
        refine SatL.op rfl (OpW.enter rfl rfl rfl (rfl) (self_any (me := 2) (hS.ownOf (by repeat constructor)) (by assumption)) ?_)
        rintro r5 w5 ⟨rfl, h⟩
        replace hS := St.callN hS h
        refine SatL.guard_y rfl rfl ?_
        refine SatL.pu (RunV.build rfl (by simp [go_sem]; try rfl)) rfl ?_
        refine SatL.guard_y rfl rfl ?_
        refine SatL.pu (RunV.bin rfl rfl (guard24 _ _ _ _ _ _ _ _ _ _) (run_eql24 _ _ _ _ _ _ _)) rfl ?_
        refine SatL.pu (RunV.pick_t rfl rfl) rfl ?_
        refine SatL.pu (RunV.assign rfl) rfl ?_
        refine SatL.nil (SatE.thenC ?_)
        refine SatC.ret ?_
        refine SatE.ret1 rfl rfl ?_
        refine ⟨congrArg Value.bool ?_, hS.sb (by repeat constructor)⟩
        first | rfl | decide | (simp only [wk]; decide) | trace_state
      · (try simp only [cx, ne_eq] at h3)
        try (exfalso; (first | omega | exact h3 trivial | contradiction | (simp only [wk] at h3; first | exact h3 rfl | exact h3 trivial | (simp at h3; done))); done)
        all_goals
        refine SatL.guard_n rfl rfl rfl rfl ?_
        refine SatL.guard_n rfl rfl rfl rfl ?_
        refine SatL.guard_n rfl rfl rfl rfl ?_
        refine SatL.pu (RunV.pick_f rfl rfl) rfl ?_
        refine SatL.pu (RunV.assign rfl) rfl ?_
        refine SatL.nil (SatE.thenC ?_)
        refine SatC.ret ?_
        refine SatE.ret1 rfl rfl ?_
        refine ⟨congrArg Value.bool ?_, hS.sb (by repeat constructor)⟩
        first | rfl | decide | (simp only [wk]; decide) | trace_state
    · (try simp only [cx, ne_eq] at h2)
      try (exfalso; (first | omega | exact h2 trivial | contradiction | (simp only [wk] at h2; first | exact h2 rfl | exact h2 trivial | (simp at h2; done))); done)
      all_goals
      refine SatL.guard_n rfl rfl rfl rfl ?_
      refine SatL.guard_n rfl rfl rfl rfl ?_
      refine SatL.guard_n rfl rfl rfl rfl ?_
      refine SatL.pu (RunV.pick_f rfl rfl) rfl ?_
      refine SatL.pu (RunV.move rfl) rfl ?_
      refine SatL.guard_n rfl rfl rfl rfl ?_
      refine SatL.guard_n rfl rfl rfl rfl ?_
      refine SatL.guard_n rfl rfl rfl rfl ?_
      refine SatL.guard_n rfl rfl rfl rfl ?_
      refine SatL.pu (RunV.pick_f rfl rfl) rfl ?_
      refine SatL.pu (RunV.assign rfl) rfl ?_
      refine SatL.nil (SatE.thenC ?_)
      refine SatC.ret ?_
      refine SatE.ret1 rfl rfl ?_
      refine ⟨congrArg Value.bool ?_, hS.sb (by repeat constructor)⟩
      first | rfl | decide | (simp only [wk]; decide) | trace_state
  · (try simp only [cx, ne_eq] at h1)
    try (exfalso; (first | omega | exact h1 trivial | contradiction | (simp only [wk] at h1; first | exact h1 rfl | exact h1 trivial | (simp at h1; done))); done)
    all_goals
    refine SatL.guard_n rfl rfl rfl rfl ?_
    refine SatL.guard_n rfl rfl rfl rfl ?_
    refine SatL.pu (RunV.pick_f rfl rfl) rfl ?_
    refine SatL.pu (RunV.move rfl) rfl ?_
    refine SatL.guard_n rfl rfl rfl rfl ?_
    refine SatL.guard_n rfl rfl rfl rfl ?_
    refine SatL.guard_n rfl rfl rfl rfl ?_
    refine SatL.guard_n rfl rfl rfl rfl ?_
    refine SatL.pu (RunV.pick_f rfl rfl) rfl ?_
    refine SatL.pu (RunV.move rfl) rfl ?_
    refine SatL.guard_n rfl rfl rfl rfl ?_
    refine SatL.guard_n rfl rfl rfl rfl ?_
    refine SatL.guard_n rfl rfl rfl rfl ?_
    refine SatL.guard_n rfl rfl rfl rfl ?_
    refine SatL.pu (RunV.pick_f rfl rfl) rfl ?_
    refine SatL.pu (RunV.assign rfl) rfl ?_
    refine SatL.nil (SatE.thenC ?_)
    refine SatC.ret ?_
    refine SatE.ret1 rfl rfl ?_
    refine ⟨congrArg Value.bool ?_, hS.sb (by repeat constructor)⟩
    first | rfl | decide | (simp only [wk]; decide) | trace_state
end Go.Proofs.Ytpbfjadkimojeaa
