/- What every statement of this chapter asks last: an exact one is chosen. -/
import Derived.Test.YtogohendjjgbiaaIl
set_option linter.unusedSimpArgs false
set_option linter.unusedVariables false
set_option maxRecDepth 100000
set_option maxHeartbeats 4000000
namespace Go.Proofs.Ytogohendjjgbiaa
open Go.RowKit
def wr1 : Tr := ⟨[100, 98, 32, 42], ⟨[42], [100, 98], false, 0, 0⟩, 1, 1⟩
def wr2 : Tr := ⟨[100, 98, 32, 119, 101, 98], ⟨[119, 101, 98], [100, 98], true, 0, 0⟩, 2, 2⟩
theorem wk1 : addI (min (max 9 1) 64) 0 [] [42] [100, 98] false 1 = (0, [wr1], 1) := by decide +kernel
theorem wk2 : addI (min (max 9 1) 64) 1 [wr1] [119, 101, 98] [100, 98] true 2 = (0, [wr1, wr2], 2) := by decide +kernel
theorem wk3 {ds : List Itn} {at_ : Int} (h : Listed [wr1, wr2] ds) (hb : Best ds [119, 101, 98] [100, 98] at_) : alwI ds false at_ = true ∧ 0 ≤ at_ := by
  have hm : mI (toldI wr2) [119, 101, 98] [100, 98] = true := by decide +kernel
  have hin : toldI wr2 ∈ ds := h.1.mem_iff.2 (by simp)
  rcases hb with ⟨rfl, hb⟩ | ⟨k, x, rfl, hk, hx, hb⟩
  · rw [hb _ hin] at hm; cases hm
  · obtain ⟨j, hj⟩ := List.getElem?_of_mem hin
    have h1 := (hb j _ hj hm).1
    have h2 : x ∈ [toldI wr1, toldI wr2] := h.1.mem_iff.1 (List.mem_of_getElem? hk)
    refine ⟨?_, by omega⟩
    rw [alw_get hk]
    simp only [List.mem_cons, List.not_mem_nil, or_false] at h2
    rcases h2 with rfl | rfl
    · exact absurd h1 (by decide +kernel)
    · rfl
theorem asc1 : Asc [wr1] := List.pairwise_singleton _ _
theorem asc2 : Asc [wr1, wr2] := by
  refine List.pairwise_cons.2 ⟨fun r hr => ?_, List.pairwise_singleton _ _⟩
  rw [List.mem_singleton] at hr
  subst hr
  decide +kernel
theorem works_any (w : World) : Ret Try.prog 14 #[] w fun v w' => v = .bool true ∧ St w [] [] w' := by
  have hS := St.init0 w
  refine Ret.enter (args := []) Try.func14 Try.ntmps14 rfl rfl ?_
  simp only [argEnv, Nat.reduceAdd]
  refine SatC.seq ?_
  refine SatC.region ?_
  refine SatL.pu (RunV.assign rfl) rfl ?_
  refine SatL.nil (SatE.thenC ?_)
  refine SatC.seq ?_
  refine SatC.region ?_
  refine SatL.op rfl (OpW.enter rfl rfl rfl (rfl) (inew_any 9 _) ?_)
  rintro r1 w1 ⟨b0, b, rfl, h⟩
  replace hS := hS.callT (A := []) (by repeat constructor) h
  refine SatL.pu (RunV.assign rfl) rfl ?_
  refine SatL.nil (SatE.thenC ?_)
  refine SatC.seq ?_
  refine SatC.region ?_
  refine SatL.pu (RunV.move rfl) rfl ?_
  refine SatL.op rfl (OpW.enter rfl rfl rfl (rfl) (iadd_any [42] [100, 98] false 1 List.Pairwise.nil (by decide) (rows := []) .nil (by simp) (hS.ownT (A := IO b0 b (min (max 9 1) 64) 0 (.slice none 0 0) []) (by repeat constructor))) ?_)
  rintro r2 w2 ⟨rfl, v1, B1, hsl1, h⟩
  replace hS := hS.callT (A := IO b0 b (min (max 9 1) 64) 0 (.slice none 0 0) []) (by repeat constructor) h
  rw [wk1] at hsl1 hS ⊢
  refine SatL.pu (RunV.assign rfl) rfl ?_
  refine SatL.nil (SatE.thenC ?_)
  refine SatC.seq ?_
  refine SatC.region ?_
  refine SatL.pu (RunV.move rfl) rfl ?_
  refine SatL.op rfl (OpW.enter rfl rfl rfl (rfl) (iadd_any [119, 101, 98] [100, 98] true 2 asc1 (by decide) hsl1 (by simp) (hS.ownT (A := IO b0 b (min (max 9 1) 64) 1 v1 B1) (by repeat constructor))) ?_)
  rintro r3 w3 ⟨rfl, v2, B2, hsl2, h⟩
  replace hS := hS.callT (A := IO b0 b (min (max 9 1) 64) 1 v1 B1) (by repeat constructor) h
  rw [wk2] at hsl2 hS ⊢
  refine SatL.pu (RunV.assign rfl) rfl ?_
  refine SatL.nil (SatE.thenC ?_)
  refine SatC.seq ?_
  refine SatC.region ?_
  refine SatL.pu (RunV.move rfl) rfl ?_
  refine SatL.op rfl (OpW.enter rfl rfl rfl (rfl) (idecide_any [119, 101, 98] [100, 98] false (by decide) hsl2 (by simp) (hS.ownT (A := IO b0 b (min (max 9 1) 64) 2 v2 B2) (by repeat constructor))) ?_)
  rintro r4 w4 ⟨ds, at_, hli, hb, rfl, h⟩
  replace hS := hS.callN h
  obtain ⟨hw1, hw2⟩ := wk3 hli hb
  rw [hw1, decide_eq_true hw2]
  refine SatL.pu (RunV.move rfl) rfl ?_
  refine SatL.pu (RunV.extract rfl rfl) rfl ?_
  refine SatL.pu (RunV.extract rfl rfl) rfl ?_
  refine SatL.pu (RunV.assign rfl) rfl ?_
  refine SatL.pu (RunV.assign rfl) rfl ?_
  refine SatL.nil (SatE.thenC ?_)
  refine SatC.seq ?_
  refine SatC.region ?_
  refine SatL.pu (RunV.move rfl) rfl ?_
  refine SatL.pu (RunV.eql rfl rfl) rfl ?_
  refine SatL.pu (RunV.move rfl) rfl ?_
  refine SatL.guard rfl rfl rfl (fun h1 => ?_) (fun h1 => ?_)
  · (try simp only [cx, ne_eq] at h1)
    try (exfalso; (first | omega | exact h1 trivial | contradiction | (first | omega | (simp at h1; done))); done)
    all_goals
    refine SatL.pu (RunV.move rfl) rfl ?_
    refine SatL.guard_y rfl rfl ?_
    refine SatL.pu (RunV.eql rfl rfl) rfl ?_
    refine SatL.pu (RunV.pick_t rfl rfl) rfl ?_
    refine SatL.pu (RunV.move rfl) rfl ?_
    refine SatL.guard rfl rfl rfl (fun h2 => ?_) (fun h2 => ?_)
    · (try simp only [cx, ne_eq] at h2)
      try (exfalso; (first | omega | exact h2 trivial | contradiction | (first | omega | (simp at h2; done))); done)
      all_goals
      refine SatL.pu (RunV.move rfl) rfl ?_
      refine SatL.pu (RunV.pick_t rfl rfl) rfl ?_
      refine SatL.pu (RunV.move rfl) rfl ?_
      refine SatL.guard rfl rfl rfl (fun h3 => ?_) (fun h3 => ?_)
      · (try simp only [cx, ne_eq] at h3)
        try (exfalso; (first | omega | exact h3 trivial | contradiction | (first | omega | (simp at h3; done))); done)
        all_goals
        refine SatL.pu (RunV.move rfl) rfl ?_
        refine SatL.pu (RunV.pick_t rfl rfl) rfl ?_
        refine SatL.pu (RunV.assign rfl) rfl ?_
        refine SatL.nil (SatE.thenC ?_)
        refine SatC.ret ?_
        refine SatE.ret1 rfl rfl ?_
        exact ⟨rfl, hS.sel (R := []) (by repeat constructor)⟩
      · (try simp only [cx, ne_eq] at h3)
        try (exfalso; (first | omega | exact h3 trivial | contradiction | (first | omega | (simp at h3; done))); done)
        all_goals
        refine SatL.pu (RunV.pick_f rfl rfl) rfl ?_
        refine SatL.pu (RunV.assign rfl) rfl ?_
        refine SatL.nil (SatE.thenC ?_)
        refine SatC.ret ?_
        refine SatE.ret1 rfl rfl ?_
        exact ⟨rfl, hS.sel (R := []) (by repeat constructor)⟩
    · (try simp only [cx, ne_eq] at h2)
      try (exfalso; (first | omega | exact h2 trivial | contradiction | (first | omega | (simp at h2; done))); done)
      all_goals
      refine SatL.pu (RunV.pick_f rfl rfl) rfl ?_
      refine SatL.pu (RunV.move rfl) rfl ?_
      refine SatL.guard_n rfl rfl rfl rfl ?_
      refine SatL.pu (RunV.pick_f rfl rfl) rfl ?_
      refine SatL.pu (RunV.assign rfl) rfl ?_
      refine SatL.nil (SatE.thenC ?_)
      refine SatC.ret ?_
      refine SatE.ret1 rfl rfl ?_
      exact ⟨rfl, hS.sel (R := []) (by repeat constructor)⟩
  · (try simp only [cx, ne_eq] at h1)
    try (exfalso; (first | omega | exact h1 trivial | contradiction | (first | omega | (simp at h1; done))); done)
    all_goals
    refine SatL.guard_n rfl rfl rfl rfl ?_
    refine SatL.pu (RunV.pick_f rfl rfl) rfl ?_
    refine SatL.pu (RunV.move rfl) rfl ?_
    refine SatL.guard_n rfl rfl rfl rfl ?_
    refine SatL.pu (RunV.pick_f rfl rfl) rfl ?_
    refine SatL.pu (RunV.move rfl) rfl ?_
    refine SatL.guard_n rfl rfl rfl rfl ?_
    refine SatL.pu (RunV.pick_f rfl rfl) rfl ?_
    refine SatL.pu (RunV.assign rfl) rfl ?_
    refine SatL.nil (SatE.thenC ?_)
    refine SatC.ret ?_
    refine SatE.ret1 rfl rfl ?_
    exact ⟨rfl, hS.sel (R := []) (by repeat constructor)⟩
end Go.Proofs.Ytogohendjjgbiaa
