/- Same texts, same services, same checks. The plain law: an agent in the map's order, and the document's in the order of names. The plain law: each call keeps agents alike. The plain law: a tick keeps agents alike. Do: one step of both. Do: one step of both, walked. Same: an agent's services and checks against the document's. The plain law of LocalWhole and of LocalAlias. A step of the law, as an argument has it; what the laws keep. The law's steps out of an argument. -/
import Derived.Test.YtbnkcagcfbpiiaaMe
import Derived.Test.YtbnkcagcfbpiiaaK35
import Derived.Test.YtbnkcagcfbpiiaaK16
import Derived.Test.YtbnkcagcfbpiiaaK15
import Derived.Test.YtbnkcagcfbpiiaaK25
set_option linter.unusedSimpArgs false
set_option linter.unusedVariables false
set_option maxRecDepth 100000
set_option maxHeartbeats 8000000
namespace Go.Proofs.Ytbnkcagcfbpiiaa
open Go Go.Proofs Go.RowKit
theorem ext_two {α : Type} {l1 l2 : List α} (hl : l1.length = l2.length) (h : ∀ (j : Nat) (y z : α), l1[j]? = some y → l2[j]? = some z → y = z) : l1 = l2 := by
  refine List.ext_getElem? fun j => ?_
  cases h1 : l1[j]? with
  | none => rw [List.getElem?_eq_none_iff] at h1; exact (List.getElem?_eq_none (by omega)).symm
  | some y =>
    have hj := (List.getElem?_eq_some_iff.1 h1).1
    cases h2 : l2[j]? with
    | none => rw [List.getElem?_eq_none_iff] at h2; omega
    | some z => rw [h j y z h1 h2]
theorem same_ref (v1 v2 : Value) (l1 l2 : List (List UInt8)) (w : World) (h1r : RdRow w v1 1 (l1.map rs)) (h2r : RdRow w v2 1 (l2.map rs)) : Ret Try.prog 43 #[v1, v2] w fun u w' => u = .bool (decide (l1 = l2)) ∧ St w [] [] w' := by
  have hS := St.init0 w
  obtain ⟨b1, o1, c1, hv1, hm1, hc1, _⟩ := h1r.open
  obtain ⟨b2, o2, c2, hv2, hm2, hc2, _⟩ := h2r.open
  rw [List.length_map] at hv1 hv2 hm1 hm2
  refine Ret.enter Try.func43 Try.ntmps43 rfl rfl ?_
  simp only [argEnv, Nat.reduceAdd]
  refine SatC.seq ?_
  refine SatC.region ?_
  refine SatL.pu (RunV.assign rfl) rfl ?_
  refine SatL.nil (SatE.thenC ?_)
  refine SatC.seq ?_
  refine SatC.seq ?_
  refine SatC.region ?_
  refine SatL.pu (RunV.move rfl) rfl ?_
  refine SatL.pu (RunV.lenR hv1 rfl rfl) rfl ?_
  refine SatL.pu (RunV.move rfl) rfl ?_
  refine SatL.pu (RunV.lenR hv2 rfl rfl) rfl ?_
  refine SatL.pu (RunV.neq rfl rfl) rfl ?_
  refine SatL.nil (SatE.thenC ?_)
  refine SatC.cond rfl (fun h1 => ?_) (fun h1 => ?_)
  · (try simp only [cx, ne_eq] at h1)
    try (exfalso; (first | omega | exact h1 trivial | contradiction | (first | omega | (simp at h1; done))); done)
    all_goals
    refine SatC.seq ?_
    refine SatC.region ?_
    refine SatL.pu (RunV.assign rfl) rfl ?_
    refine SatL.nil (SatE.thenC ?_)
    refine SatC.ret (SatE.then_ret ?_)
    refine SatE.ret1 rfl rfl ?_
    refine ⟨congrArg Value.bool ?_, hS⟩
    exact (decide_eq_false (fun e => by have := congrArg List.length e; omega)).symm
  · (try simp only [cx, ne_eq] at h1)
    try (exfalso; (first | omega | exact h1 trivial | contradiction | (first | omega | (simp at h1; done))); done)
    all_goals
    refine SatC.skip (SatE.thenC ?_)
    refine SatC.seq ?_
    refine SatC.seq ?_
    refine SatC.region ?_
    refine SatL.pu (RunV.assign rfl) rfl ?_
    refine SatL.nil (SatE.thenC ?_)
    refine SatC.block ?_
    refine SatC.loopK (G := Nat) (V := fun i => [(5, .int .i64 (i : Int))]) (Cn := [(0, _), (1, _), (4, _)]) (I := fun i w' => i ≤ l1.length ∧ l1.length = l2.length ∧ (∀ j y z, j < i → l1[j]? = some y → l2[j]? = some z → y = z) ∧ St w [] [] w') (μ := fun i => l1.length - i) 0 ?_ (by repeat constructor) ?_
    · exact ⟨Nat.zero_le _, by omega, fun j y z h => by omega, hS⟩
    clear hS
    rintro i w1 ⟨hi, hll, he, hS⟩
    refine SatC.weak (e' := [(0, _), (1, _), (4, _), (5, _)]) (by repeat constructor) ?_
    refine SatC.seq ?_
    refine SatC.seq ?_
    refine SatC.region ?_
    refine SatL.pu (RunV.move rfl) rfl ?_
    refine SatL.pu (RunV.move rfl) rfl ?_
    refine SatL.pu (RunV.lenR hv1 rfl rfl) rfl ?_
    refine SatL.pu (RunV.lss rfl rfl) rfl ?_
    refine SatL.nil (SatE.thenC ?_)
    refine SatC.cond rfl (fun h2 => ?_) (fun h2 => ?_)
    · (try simp only [cx, ne_eq] at h2)
      try (exfalso; (first | omega | exact h2 trivial | contradiction | (first | omega | (simp at h2; done))); done)
      all_goals
      refine SatC.skip (SatE.thenC ?_)
      refine SatC.seq ?_
      refine SatC.block ?_
      refine SatC.seq ?_
      obtain ⟨y, hy⟩ : ∃ y, l1[i]? = some y := ⟨_, List.getElem?_eq_getElem (by omega)⟩
      obtain ⟨z, hz⟩ : ∃ y, l2[i]? = some y := ⟨_, List.getElem?_eq_getElem (by omega)⟩
      refine SatC.drawnT 9 hS (hS) (by kernel_rfl) ?_
      clear hS
      intro w2 hh hS hD
      refine SatD.tk 0 rfl hD (fun _ hw => RunV.move rfl) ?_
      refine SatD.tk 1 rfl hD (fun _ hw => RunV.move rfl) ?_
      refine SatD.tk 2 rfl hD (fun _ hw => RunV.indexR hv1 rfl rfl rfl (by omega) (by omega) rfl) ?_
      refine SatD.tk 3 rfl hD (fun _ hw => RunV.loadR1g i 0 (hc1.st hw List.not_mem_nil) rfl rfl (by omega) (map_get hy) rfl) ?_
      refine SatD.tk 4 rfl hD (fun _ hw => RunV.move rfl) ?_
      refine SatD.tk 5 rfl hD (fun _ hw => RunV.move rfl) ?_
      refine SatD.tk 6 rfl hD (fun _ hw => RunV.indexR hv2 rfl rfl rfl (by omega) (by omega) rfl) ?_
      refine SatD.tk 7 rfl hD (fun _ hw => RunV.loadR1g i 0 (hc2.st hw List.not_mem_nil) rfl rfl (by omega) (map_get hz) rfl) ?_
      refine SatD.tk 8 rfl hD (fun _ hw => RunV.sneq rfl rfl) ?_
      refine SatD.done 0 (by kernel_rfl) (SatE.thenC ?_)
      clear hD
      refine SatC.weak (e' := [(0, _), (1, _), (4, _), (5, _), (25, _)]) (by repeat constructor) ?_
      refine SatC.cond rfl (fun h3 => ?_) (fun h3 => ?_)
      · (try simp only [cx, ne_eq] at h3)
        try (exfalso; (first | omega | exact h3 trivial | contradiction | (first | omega | (simp at h3; done))); done)
        all_goals
        refine SatC.seq ?_
        refine SatC.region ?_
        refine SatL.pu (RunV.assign rfl) rfl ?_
        refine SatL.nil (SatE.thenC ?_)
        refine SatC.ret (SatE.blk_ret (SatE.then_ret (SatE.then_ret (SatE.blk_ret (SatE.then_ret ?_)))))
        refine SatE.ret1 rfl rfl ?_
        refine ⟨congrArg Value.bool ?_, hS⟩
        refine (decide_eq_false (fun e => ?_)).symm
        subst e
        rw [hy] at hz
        obtain rfl := Option.some.inj hz
        contradiction
      · (try simp only [cx, ne_eq] at h3)
        try (exfalso; (first | omega | exact h3 trivial | contradiction | (first | omega | (simp at h3; done))); done)
        all_goals
        refine SatC.skip (SatE.blk_normal (SatE.thenC ?_))
        refine SatC.region ?_
        refine SatL.pu (RunV.move rfl) rfl ?_
        refine SatL.pu (RunV.add rfl rfl (by first | exact wrapI64 (by omega) | rfl)) rfl ?_
        refine SatL.pu (RunV.assign rfl) rfl ?_
        refine SatL.nil ?_
        refine SatE.again (i + 1) ?_ (by first | omega | (dsimp only; omega)) (by repeat constructor)
        refine ⟨by omega, hll, fun j y' z' hj hy' hz' => ?_, hS⟩
        rcases Nat.lt_or_ge j i with h' | h'
        · exact he j y' z' h' hy' hz'
        · obtain rfl : j = i := by omega
          rw [hy] at hy'
          rw [hz] at hz'
          obtain rfl := Option.some.inj hy'
          obtain rfl := Option.some.inj hz'
          assumption
    · (try simp only [cx, ne_eq] at h2)
      try (exfalso; (first | omega | exact h2 trivial | contradiction | (first | omega | (simp at h2; done))); done)
      all_goals
      refine SatC.exit (SatE.then_exit (SatE.then_exit (SatE.blk_exit (SatE.thenC ?_))))
      refine SatC.seq ?_
      refine SatC.region ?_
      refine SatL.pu (RunV.assign rfl) rfl ?_
      refine SatL.nil (SatE.thenC ?_)
      refine SatC.ret ?_
      refine SatE.ret1 rfl rfl ?_
      refine ⟨congrArg Value.bool ?_, hS⟩
      exact (decide_eq_true (ext_two hll fun j y z h h' => he j y z (by have := (List.getElem?_eq_some_iff.1 h).1; omega) h h')).symm
/-- A row of seven plain cells (a check as it is told). -/
structure Cs where
  id : List UInt8
  svc : List UInt8
  note : List UInt8
  stat : Int
@[reducible] def csc (n : Int) (c : Cs) : List Value := [.int .i64 n, str c.id, str c.svc, str c.note, .int .i64 c.stat, .int .u64 0, .int .u64 0]
theorem samec_ref (n : Int) (v1 v2 : Value) (l : List Cs) (w : World) (h1r : RdRow w v1 7 (l.map (csc n))) (h2r : RdRow w v2 7 (l.map (csc n))) : Ret Try.prog 55 #[v1, v2] w fun u w' => u = .bool true ∧ St w [] [] w' := by
  have hS := St.init0 w
  obtain ⟨b1, o1, c1, hv1, hm1, hc1, _⟩ := h1r.open
  obtain ⟨b2, o2, c2, hv2, hm2, hc2, _⟩ := h2r.open
  rw [List.length_map] at hv1 hv2 hm1 hm2
  refine Ret.enter Try.func55 Try.ntmps55 rfl rfl ?_
  simp only [argEnv, Nat.reduceAdd]
  refine SatC.seq ?_
  refine SatC.region ?_
  refine SatL.pu (RunV.assign rfl) rfl ?_
  refine SatL.nil (SatE.thenC ?_)
  refine SatC.seq ?_
  refine SatC.seq ?_
  refine SatC.region ?_
  refine SatL.pu (RunV.move rfl) rfl ?_
  refine SatL.pu (RunV.lenR hv1 rfl rfl) rfl ?_
  refine SatL.pu (RunV.move rfl) rfl ?_
  refine SatL.pu (RunV.lenR hv2 rfl rfl) rfl ?_
  refine SatL.pu (RunV.neq rfl rfl) rfl ?_
  refine SatL.nil (SatE.thenC ?_)
  refine SatC.cond rfl (fun h1 => ?_) (fun h1 => ?_)
  · (try simp only [cx, ne_eq] at h1)
    try (exfalso; (first | omega | exact h1 trivial | contradiction | (first | omega | (simp at h1; done))); done)
    all_goals
    refine SatC.seq ?_
    refine SatC.region ?_
    refine SatL.pu (RunV.assign rfl) rfl ?_
    refine SatL.nil (SatE.thenC ?_)
    refine SatC.ret (SatE.then_ret ?_)
    refine SatE.ret1 rfl rfl ?_
    exact ⟨rfl, hS⟩
  · (try simp only [cx, ne_eq] at h1)
    try (exfalso; (first | omega | exact h1 trivial | contradiction | (first | omega | (simp at h1; done))); done)
    all_goals
    refine SatC.skip (SatE.thenC ?_)
    refine SatC.seq ?_
    refine SatC.seq ?_
    refine SatC.region ?_
    refine SatL.pu (RunV.assign rfl) rfl ?_
    refine SatL.nil (SatE.thenC ?_)
    refine SatC.block ?_
    refine SatC.loopK (G := Nat) (V := fun i => [(5, .int .i64 (i : Int))]) (Cn := [(0, _), (1, _), (4, _)]) (I := fun i w' => i ≤ l.length ∧ St w [] [] w') (μ := fun i => l.length - i) 0 ?_ (by repeat constructor) ?_
    · exact ⟨Nat.zero_le _, hS⟩
    clear hS
    rintro i w1 ⟨hi, hS⟩
    refine SatC.weak (e' := [(0, _), (1, _), (4, _), (5, _)]) (by repeat constructor) ?_
    refine SatC.seq ?_
    refine SatC.seq ?_
    refine SatC.region ?_
    refine SatL.pu (RunV.move rfl) rfl ?_
    refine SatL.pu (RunV.move rfl) rfl ?_
    refine SatL.pu (RunV.lenR hv1 rfl rfl) rfl ?_
    refine SatL.pu (RunV.lss rfl rfl) rfl ?_
    refine SatL.nil (SatE.thenC ?_)
    refine SatC.cond rfl (fun h2 => ?_) (fun h2 => ?_)
    · (try simp only [cx, ne_eq] at h2)
      try (exfalso; (first | omega | exact h2 trivial | contradiction | (first | omega | (simp at h2; done))); done)
      all_goals
      refine SatC.skip (SatE.thenC ?_)
      refine SatC.seq ?_
      refine SatC.block ?_
      refine SatC.seq ?_
      obtain ⟨y, hy⟩ : ∃ y, l[i]? = some y := ⟨_, List.getElem?_eq_getElem (by omega)⟩
      refine SatC.drawnT 9 hS (hS) (by kernel_rfl) ?_
      clear hS
      intro w2 hh hS hD
      refine SatD.tk 0 rfl hD (fun _ hw => RunV.move rfl) ?_
      refine SatD.tk 1 rfl hD (fun _ hw => RunV.move rfl) ?_
      refine SatD.tk 2 rfl hD (fun _ hw => RunV.indexR hv1 rfl rfl rfl (by omega) (by omega) rfl) ?_
      refine SatD.tk 3 rfl hD (fun _ hw => RunV.loadSeg i 0 (hc1.st hw List.not_mem_nil) rfl rfl (by omega) (map_get hy) (by repeat constructor)) ?_
      refine SatD.tk 4 rfl hD (fun _ hw => RunV.move rfl) ?_
      refine SatD.tk 5 rfl hD (fun _ hw => RunV.move rfl) ?_
      refine SatD.tk 6 rfl hD (fun _ hw => RunV.indexR hv2 rfl rfl rfl (by omega) (by omega) rfl) ?_
      refine SatD.tk 7 rfl hD (fun _ hw => RunV.loadSeg i 0 (hc2.st hw List.not_mem_nil) rfl rfl (by omega) (map_get hy) (by repeat constructor)) ?_
      refine SatD.tk 8 rfl hD (fun _ hw => RunV.bin rfl rfl (by simp [eqGuard, go_sem]) (by simp [go_sem]; try rfl)) ?_
      refine SatD.done 0 (by kernel_rfl) (SatE.thenC ?_)
      clear hD
      refine SatC.weak (e' := [(0, _), (1, _), (4, _), (5, _), (25, _)]) (by repeat constructor) ?_
      refine SatC.cond rfl (fun h3 => ?_) (fun h3 => ?_)
      · (try simp only [cx, ne_eq] at h3)
        try (exfalso; (first | omega | exact h3 trivial | contradiction | (first | omega | (simp at h3; done))); done)
        all_goals
        refine SatC.seq ?_
        refine SatC.region ?_
        refine SatL.pu (RunV.assign rfl) rfl ?_
        refine SatL.nil (SatE.thenC ?_)
        refine SatC.ret (SatE.blk_ret (SatE.then_ret (SatE.then_ret (SatE.blk_ret (SatE.then_ret ?_)))))
        refine SatE.ret1 rfl rfl ?_
        exact ⟨rfl, hS⟩
      · (try simp only [cx, ne_eq] at h3)
        try (exfalso; (first | omega | exact h3 trivial | contradiction | (first | omega | (simp at h3; done))); done)
        all_goals
        refine SatC.skip (SatE.blk_normal (SatE.thenC ?_))
        refine SatC.region ?_
        refine SatL.pu (RunV.move rfl) rfl ?_
        refine SatL.pu (RunV.add rfl rfl (by first | exact wrapI64 (by omega) | rfl)) rfl ?_
        refine SatL.pu (RunV.assign rfl) rfl ?_
        refine SatL.nil ?_
        refine SatE.again (i + 1) ?_ (by first | omega | (dsimp only; omega)) (by repeat constructor)
        exact ⟨by omega, hS⟩
    · (try simp only [cx, ne_eq] at h2)
      try (exfalso; (first | omega | exact h2 trivial | contradiction | (first | omega | (simp at h2; done))); done)
      all_goals
      refine SatC.exit (SatE.then_exit (SatE.then_exit (SatE.blk_exit (SatE.thenC ?_))))
      refine SatC.seq ?_
      refine SatC.region ?_
      refine SatL.pu (RunV.assign rfl) rfl ?_
      refine SatL.nil (SatE.thenC ?_)
      refine SatC.ret ?_
      refine SatE.ret1 rfl rfl ?_
      exact ⟨rfl, hS⟩
theorem sames_ref (n : Int) (v1 v2 : Value) (R : List Sv) (Q : List Ds) (w : World) (hrq : R.map sdat = Q.map fun s => (⟨s.id, s.name, s.tags, s.port⟩ : Sd)) (h1r : RdRow w v1 7 (R.map (svc n))) (h2r : RdRow w v2 7 (Q.map (dsc n))) (ht1 : ∀ s ∈ R, RdRow w s.tv 1 (s.tags.map rs)) (ht2 : ∀ s ∈ Q, RdRow w s.tv 1 (s.tags.map rs)) (ho1 : ∀ s ∈ R, s.tv.oneCell' = true) (ho2 : ∀ s ∈ Q, s.tv.oneCell' = true) : Ret Try.prog 54 #[v1, v2] w fun u w' => u = .bool true ∧ St w [] [] w' := by
  have hS := St.init0 w
  obtain ⟨b1, o1, c1, hv1, hm1, hc1, _⟩ := h1r.open
  obtain ⟨b2, o2, c2, hv2, hm2, hc2, _⟩ := h2r.open
  rw [List.length_map] at hv1 hv2 hm1 hm2
  have hll : R.length = Q.length := by have := congrArg List.length hrq; simpa using this
  refine Ret.enter Try.func54 Try.ntmps54 rfl rfl ?_
  simp only [argEnv, Nat.reduceAdd]
  refine SatC.seq ?_
  refine SatC.region ?_
  refine SatL.pu (RunV.assign rfl) rfl ?_
  refine SatL.nil (SatE.thenC ?_)
  refine SatC.seq ?_
  refine SatC.seq ?_
  refine SatC.region ?_
  refine SatL.pu (RunV.move rfl) rfl ?_
  refine SatL.pu (RunV.lenR hv1 rfl rfl) rfl ?_
  refine SatL.pu (RunV.move rfl) rfl ?_
  refine SatL.pu (RunV.lenR hv2 rfl rfl) rfl ?_
  refine SatL.pu (RunV.neq rfl rfl) rfl ?_
  refine SatL.nil (SatE.thenC ?_)
  refine SatC.cond rfl (fun h1 => ?_) (fun h1 => ?_)
  · (try simp only [cx, ne_eq] at h1)
    try (exfalso; (first | omega | exact h1 trivial | contradiction | (first | omega | (simp [e1, e2, e4] at h1; done) | (simp at h1; done))); done)
    all_goals
    refine SatC.seq ?_
    refine SatC.region ?_
    refine SatL.pu (RunV.assign rfl) rfl ?_
    refine SatL.nil (SatE.thenC ?_)
    refine SatC.ret (SatE.then_ret ?_)
    refine SatE.ret1 rfl rfl ?_
    exact ⟨rfl, hS⟩
  · (try simp only [cx, ne_eq] at h1)
    try (exfalso; (first | omega | exact h1 trivial | contradiction | (first | omega | (simp [e1, e2, e4] at h1; done) | (simp at h1; done))); done)
    all_goals
    refine SatC.skip (SatE.thenC ?_)
    refine SatC.seq ?_
    refine SatC.seq ?_
    refine SatC.region ?_
    refine SatL.pu (RunV.assign rfl) rfl ?_
    refine SatL.nil (SatE.thenC ?_)
    refine SatC.block ?_
    refine SatC.loopK (G := Nat) (V := fun i => [(5, .int .i64 (i : Int))]) (Cn := [(0, _), (1, _), (4, _)]) (I := fun i w' => i ≤ R.length ∧ St w [] [] w') (μ := fun i => R.length - i) 0 ?_ (by repeat constructor) ?_
    · exact ⟨Nat.zero_le _, hS⟩
    clear hS
    rintro i w1 ⟨hi, hS⟩
    refine SatC.weak (e' := [(0, _), (1, _), (4, _), (5, _)]) (by repeat constructor) ?_
    refine SatC.seq ?_
    refine SatC.seq ?_
    refine SatC.region ?_
    refine SatL.pu (RunV.move rfl) rfl ?_
    refine SatL.pu (RunV.move rfl) rfl ?_
    refine SatL.pu (RunV.lenR hv1 rfl rfl) rfl ?_
    refine SatL.pu (RunV.lss rfl rfl) rfl ?_
    refine SatL.nil (SatE.thenC ?_)
    refine SatC.cond rfl (fun h2 => ?_) (fun h2 => ?_)
    · (try simp only [cx, ne_eq] at h2)
      try (exfalso; (first | omega | exact h2 trivial | contradiction | (first | omega | (simp [e1, e2, e4] at h2; done) | (simp at h2; done))); done)
      all_goals
      refine SatC.skip (SatE.thenC ?_)
      refine SatC.seq ?_
      refine SatC.block ?_
      refine SatC.seq ?_
      obtain ⟨y, hy⟩ : ∃ y, R[i]? = some y := ⟨_, List.getElem?_eq_getElem (by omega)⟩
      obtain ⟨z, hz⟩ : ∃ y, Q[i]? = some y := ⟨_, List.getElem?_eq_getElem (by omega)⟩
      have hyz : sdat y = (⟨z.id, z.name, z.tags, z.port⟩ : Sd) := by
        have := congrArg (fun l => l[i]?) hrq
        simpa [hy, hz] using this
      unfold sdat at hyz
      simp only [Sd.mk.injEq] at hyz
      obtain ⟨e1, e2, e3, e4⟩ := hyz
      have hyt := ht1 y (List.mem_of_getElem? hy)
      have hzt := ht2 z (List.mem_of_getElem? hz)
      have hyo := ho1 y (List.mem_of_getElem? hy)
      have hzo := ho2 z (List.mem_of_getElem? hz)
      rw [e3] at hyt
      refine SatC.drawnT 11 hS (hS) (by kernel_rfl) ?_
      clear hS
      intro w2 hh hS hD
      refine SatD.tk 0 rfl hD (fun _ hw => RunV.move rfl) ?_
      refine SatD.tk 1 rfl hD (fun _ hw => RunV.move rfl) ?_
      refine SatD.tk 2 rfl hD (fun _ hw => RunV.indexR hv1 rfl rfl rfl (by omega) (by omega) rfl) ?_
      refine SatD.tk 3 rfl hD (fun _ hw => RunV.loadSeg i 0 (hc1.st hw List.not_mem_nil) rfl rfl (by omega) (map_get hy) (by repeat constructor)) ?_
      refine SatD.tk 4 rfl hD (fun _ hw => RunV.move rfl) ?_
      refine SatD.tk 5 rfl hD (fun _ hw => RunV.move rfl) ?_
      refine SatD.tk 6 rfl hD (fun _ hw => RunV.indexR hv2 rfl rfl rfl (by omega) (by omega) rfl) ?_
      refine SatD.tk 7 rfl hD (fun _ hw => RunV.loadSeg i 0 (hc2.st hw List.not_mem_nil) rfl rfl (by omega) (map_get hz) (by repeat constructor)) ?_
      apply SatD.join2
      · intro hK
        refine SatD.effs [8, 9] (by kernel_rfl) ⟨⟨_, rfl, rfl, OpW.alloc hS rfl rfl (by repeat constructor) ?_⟩, ⟨_, rfl, rfl, OpW.alloc hS rfl rfl (by repeat constructor) ?_⟩, trivial⟩
        · skip
          intro b6 w3 _ hS
          refine keepS (hS.sel (by repeat constructor)) (fun hD => ?_)
          refine SatD.ef 9 rfl (OpW.alloc hS rfl rfl (by repeat constructor) ?_)
          intro b7 w4 _ hS
          refine keepS (hS.sel (by repeat constructor)) (fun hD => ?_)
          refine SatD.ef 10 rfl (OpW.store hS rfl rfl (by repeat constructor) (by repeat constructor) (by repeat constructor) rfl (svc_one (n := n) hyo) ?_)
          intro w5 hS
          refine keepS (hS.sel (by repeat constructor)) (fun hD => ?_)
          refine SatD.effF (by kernel_rfl) rfl rfl (OpW.store hS rfl rfl (by repeat constructor) (by repeat constructor) (by repeat constructor) rfl (dsc_one (n := n) hzo) ?_)
          intro w6 hS
          refine SatD.done 0 (by kernel_rfl) ?_
          refine SatE.weak (e' := [(0, _), (1, _), (4, _), (5, _), (6, _), (7, _)]) (by repeat constructor) ?_
          exact hK b7 b6 w6 hS
        · skip
          intro b7 w3 _ hS
          refine keepS (hS.sel (by repeat constructor)) (fun hD => ?_)
          refine SatD.ef 8 rfl (OpW.alloc hS rfl rfl (by repeat constructor) ?_)
          intro b6 w4 _ hS
          refine keepS (hS.sel (by repeat constructor)) (fun hD => ?_)
          refine SatD.ef 10 rfl (OpW.store hS rfl rfl (by repeat constructor) (by repeat constructor) (by repeat constructor) rfl (svc_one (n := n) hyo) ?_)
          intro w5 hS
          refine keepS (hS.sel (by repeat constructor)) (fun hD => ?_)
          refine SatD.effF (by kernel_rfl) rfl rfl (OpW.store hS rfl rfl (by repeat constructor) (by repeat constructor) (by repeat constructor) rfl (dsc_one (n := n) hzo) ?_)
          intro w6 hS
          refine SatD.done 0 (by kernel_rfl) ?_
          replace hS := hS.pick 0 rfl rfl
          replace hS := hS.pick 1 rfl rfl
          refine SatE.weak (e' := [(0, _), (1, _), (4, _), (5, _), (6, _), (7, _)]) (by repeat constructor) ?_
          exact hK b7 b6 w6 hS
      intro b7 b6 w53 hS
      refine SatE.thenC ?_
      refine SatC.seq ?_
      refine SatC.region ?_
      first | refine SatL.pu (RunV.fieldAddrL rfl rfl rfl) rfl ?_ | refine SatL.pu (RunV.fieldAddr rfl rfl rfl) rfl ?_
      refine SatL.pu (RunV.load1 hS rfl rfl (by repeat constructor) rfl) rfl ?_
      first | refine SatL.pu (RunV.fieldAddrL rfl rfl rfl) rfl ?_ | refine SatL.pu (RunV.fieldAddr rfl rfl rfl) rfl ?_
      refine SatL.pu (RunV.load1 hS rfl rfl (by repeat constructor) rfl) rfl ?_
      refine SatL.pu (RunV.neq rfl rfl) rfl ?_
      refine SatL.pu (RunV.move rfl) rfl ?_
      refine SatL.guard rfl rfl rfl (fun h3 => ?_) (fun h3 => ?_)
      · (try simp only [cx, ne_eq] at h3)
        try (exfalso; (first | omega | exact h3 trivial | contradiction | (first | omega | (simp [e1, e2, e4] at h3; done) | (simp at h3; done))); done)
        all_goals
        first | refine SatL.pu (RunV.fieldAddrL rfl rfl rfl) rfl ?_ | refine SatL.pu (RunV.fieldAddr rfl rfl rfl) rfl ?_
        refine SatL.guard_y rfl rfl ?_
        refine SatL.pu (RunV.load1 hS rfl rfl (by repeat constructor) rfl) rfl ?_
        refine SatL.guard_y rfl rfl ?_
        first | refine SatL.pu (RunV.fieldAddrL rfl rfl rfl) rfl ?_ | refine SatL.pu (RunV.fieldAddr rfl rfl rfl) rfl ?_
        refine SatL.guard_y rfl rfl ?_
        refine SatL.pu (RunV.load1 hS rfl rfl (by repeat constructor) rfl) rfl ?_
        refine SatL.guard_y rfl rfl ?_
        refine SatL.pu (RunV.sneq rfl rfl) rfl ?_
        refine SatL.pu (RunV.pick_f rfl rfl) rfl ?_
        refine SatL.pu (RunV.move rfl) rfl ?_
        refine SatL.guard rfl rfl rfl (fun h4 => ?_) (fun h4 => ?_)
        · (try simp only [cx, ne_eq] at h4)
          try (exfalso; (first | omega | exact h4 trivial | contradiction | (first | omega | (simp [e1, e2, e4] at h4; done) | (simp at h4; done))); done)
          all_goals
          first | refine SatL.pu (RunV.fieldAddrL rfl rfl rfl) rfl ?_ | refine SatL.pu (RunV.fieldAddr rfl rfl rfl) rfl ?_
          refine SatL.guard_y rfl rfl ?_
          refine SatL.pu (RunV.load1 hS rfl rfl (by repeat constructor) rfl) rfl ?_
          refine SatL.guard_y rfl rfl ?_
          first | refine SatL.pu (RunV.fieldAddrL rfl rfl rfl) rfl ?_ | refine SatL.pu (RunV.fieldAddr rfl rfl rfl) rfl ?_
          refine SatL.guard_y rfl rfl ?_
          refine SatL.pu (RunV.load1 hS rfl rfl (by repeat constructor) rfl) rfl ?_
          refine SatL.guard_y rfl rfl ?_
          refine SatL.pu (RunV.sneq rfl rfl) rfl ?_
          refine SatL.pu (RunV.pick_f rfl rfl) rfl ?_
          refine SatL.pu (RunV.move rfl) rfl ?_
          refine SatL.guard rfl rfl rfl (fun h5 => ?_) (fun h5 => ?_)
          · (try simp only [cx, ne_eq] at h5)
            try (exfalso; (first | omega | exact h5 trivial | contradiction | (first | omega | (simp [e1, e2, e4] at h5; done) | (simp at h5; done))); done)
            all_goals
            first | refine SatL.pu (RunV.fieldAddrL rfl rfl rfl) rfl ?_ | refine SatL.pu (RunV.fieldAddr rfl rfl rfl) rfl ?_
            refine SatL.guard_y rfl rfl ?_
            refine SatL.pu (RunV.load1 hS rfl rfl (by repeat constructor) rfl) rfl ?_
            refine SatL.guard_y rfl rfl ?_
            first | refine SatL.pu (RunV.fieldAddrL rfl rfl rfl) rfl ?_ | refine SatL.pu (RunV.fieldAddr rfl rfl rfl) rfl ?_
            refine SatL.guard_y rfl rfl ?_
            refine SatL.pu (RunV.load1 hS rfl rfl (by repeat constructor) rfl) rfl ?_
            refine SatL.guard_y rfl rfl ?_
            refine SatL.op rfl (OpW.enter rfl rfl rfl (rfl) (same_ref _ _ z.tags z.tags _ (hyt.st hS) (hzt.st hS)) ?_)
            rintro r54 w54 ⟨rfl, h⟩
            replace hS := St.callN hS h
            refine SatL.guard_y rfl rfl ?_
            refine SatL.pu (RunV.not rfl) rfl ?_
            refine SatL.pu (RunV.pick_f rfl rfl) rfl ?_
            refine SatL.pu (RunV.move rfl) rfl ?_
            refine SatL.guard rfl rfl rfl (fun h6 => ?_) (fun h6 => ?_)
            · (try simp only [cx, ne_eq] at h6)
              try (exfalso; (first | omega | exact h6 trivial | contradiction | (first | omega | (simp [e1, e2, e4] at h6; done) | (simp at h6; done))); done)
              all_goals
              first | refine SatL.pu (RunV.fieldAddrL rfl rfl rfl) rfl ?_ | refine SatL.pu (RunV.fieldAddr rfl rfl rfl) rfl ?_
              refine SatL.guard_y rfl rfl ?_
              refine SatL.pu (RunV.load1 hS rfl rfl (by repeat constructor) rfl) rfl ?_
              refine SatL.guard_y rfl rfl ?_
              first | refine SatL.pu (RunV.fieldAddrL rfl rfl rfl) rfl ?_ | refine SatL.pu (RunV.fieldAddr rfl rfl rfl) rfl ?_
              refine SatL.guard_y rfl rfl ?_
              refine SatL.pu (RunV.load1 hS rfl rfl (by repeat constructor) rfl) rfl ?_
              refine SatL.guard_y rfl rfl ?_
              refine SatL.pu (RunV.neq rfl rfl) rfl ?_
              refine SatL.pu (RunV.pick_f rfl rfl) rfl ?_
              refine SatL.pu (RunV.move rfl) rfl ?_
              refine SatL.guard rfl rfl rfl (fun h7 => ?_) (fun h7 => ?_)
              · (try simp only [cx, ne_eq] at h7)
                try (exfalso; (first | omega | exact h7 trivial | contradiction | (first | omega | (simp [e1, e2, e4] at h7; done) | (simp at h7; done))); done)
                all_goals
                first | refine SatL.pu (RunV.fieldAddrL rfl rfl rfl) rfl ?_ | refine SatL.pu (RunV.fieldAddr rfl rfl rfl) rfl ?_
                refine SatL.guard_y rfl rfl ?_
                refine SatL.pu (RunV.load1 hS rfl rfl (by repeat constructor) rfl) rfl ?_
                refine SatL.guard_y rfl rfl ?_
                first | refine SatL.pu (RunV.fieldAddrL rfl rfl rfl) rfl ?_ | refine SatL.pu (RunV.fieldAddr rfl rfl rfl) rfl ?_
                refine SatL.guard_y rfl rfl ?_
                refine SatL.pu (RunV.load1 hS rfl rfl (by repeat constructor) rfl) rfl ?_
                refine SatL.guard_y rfl rfl ?_
                refine SatL.pu (RunV.neq rfl rfl) rfl ?_
                refine SatL.pu (RunV.pick_f rfl rfl) rfl ?_
                refine SatL.pu (RunV.move rfl) rfl ?_
                refine SatL.guard rfl rfl rfl (fun h8 => ?_) (fun h8 => ?_)
                · (try simp only [cx, ne_eq] at h8)
                  try (exfalso; (first | omega | exact h8 trivial | contradiction | (first | omega | (simp [e1, e2, e4] at h8; done) | (simp at h8; done))); done)
                  all_goals
                  first | refine SatL.pu (RunV.fieldAddrL rfl rfl rfl) rfl ?_ | refine SatL.pu (RunV.fieldAddr rfl rfl rfl) rfl ?_
                  refine SatL.guard_y rfl rfl ?_
                  refine SatL.pu (RunV.load1 hS rfl rfl (by repeat constructor) rfl) rfl ?_
                  refine SatL.guard_y rfl rfl ?_
                  first | refine SatL.pu (RunV.fieldAddrL rfl rfl rfl) rfl ?_ | refine SatL.pu (RunV.fieldAddr rfl rfl rfl) rfl ?_
                  refine SatL.guard_y rfl rfl ?_
                  refine SatL.pu (RunV.load1 hS rfl rfl (by repeat constructor) rfl) rfl ?_
                  refine SatL.guard_y rfl rfl ?_
                  refine SatL.pu (RunV.neq rfl rfl) rfl ?_
                  refine SatL.pu (RunV.pick_f rfl rfl) rfl ?_
                  refine SatL.nil (SatE.thenC ?_)
                  refine SatC.weak (e' := [(0, _), (1, _), (4, _), (5, _), (74, _)]) (by repeat constructor) ?_
                  refine SatC.cond rfl (fun h9 => ?_) (fun h9 => ?_)
                  · (try simp only [cx, ne_eq] at h9)
                    try (exfalso; (first | omega | exact h9 trivial | contradiction | (first | omega | (simp [e1, e2, e4] at h9; done) | (simp at h9; done))); done)
                    all_goals
                    refine SatC.seq ?_
                    refine SatC.region ?_
                    refine SatL.pu (RunV.assign rfl) rfl ?_
                    refine SatL.nil (SatE.thenC ?_)
                    refine SatC.ret (SatE.blk_ret (SatE.then_ret (SatE.then_ret (SatE.blk_ret (SatE.then_ret ?_)))))
                    refine SatE.ret1 rfl rfl ?_
                    exact ⟨rfl, hS⟩
                  · (try simp only [cx, ne_eq] at h9)
                    try (exfalso; (first | omega | exact h9 trivial | contradiction | (first | omega | (simp [e1, e2, e4] at h9; done) | (simp at h9; done))); done)
                    all_goals
                    refine SatC.skip (SatE.blk_normal (SatE.thenC ?_))
                    refine SatC.region ?_
                    refine SatL.pu (RunV.move rfl) rfl ?_
                    refine SatL.pu (RunV.add rfl rfl (by first | exact wrapI64 (by omega) | rfl)) rfl ?_
                    refine SatL.pu (RunV.assign rfl) rfl ?_
                    refine SatL.nil ?_
                    refine SatE.again (i + 1) ?_ (by first | omega | (dsimp only; omega)) (by repeat constructor)
                    exact ⟨by omega, hS.sel (by repeat constructor)⟩
                · (try simp only [cx, ne_eq] at h8)
                  try (exfalso; (first | omega | exact h8 trivial | contradiction | (first | omega | (simp [e1, e2, e4] at h8; done) | (simp at h8; done))); done)
                  all_goals
                  refine SatL.guard_n rfl rfl rfl rfl ?_
                  refine SatL.guard_n rfl rfl rfl rfl ?_
                  refine SatL.guard_n rfl rfl rfl rfl ?_
                  refine SatL.guard_n rfl rfl rfl rfl ?_
                  refine SatL.pu (RunV.pick_t rfl rfl) rfl ?_
                  refine SatL.nil (SatE.thenC ?_)
                  refine SatC.weak (e' := [(0, _), (1, _), (4, _), (5, _), (74, _)]) (by repeat constructor) ?_
                  refine SatC.cond_t rfl ?_
                  refine SatC.seq ?_
                  refine SatC.region ?_
                  refine SatL.pu (RunV.assign rfl) rfl ?_
                  refine SatL.nil (SatE.thenC ?_)
                  refine SatC.ret (SatE.blk_ret (SatE.then_ret (SatE.then_ret (SatE.blk_ret (SatE.then_ret ?_)))))
                  refine SatE.ret1 rfl rfl ?_
                  exact ⟨rfl, hS⟩
              · (try simp only [cx, ne_eq] at h7)
                try (exfalso; (first | omega | exact h7 trivial | contradiction | (first | omega | (simp [e1, e2, e4] at h7; done) | (simp at h7; done))); done)
                all_goals
                refine SatL.guard_n rfl rfl rfl rfl ?_
                refine SatL.guard_n rfl rfl rfl rfl ?_
                refine SatL.guard_n rfl rfl rfl rfl ?_
                refine SatL.guard_n rfl rfl rfl rfl ?_
                refine SatL.pu (RunV.pick_t rfl rfl) rfl ?_
                refine SatL.pu (RunV.move rfl) rfl ?_
                refine SatL.guard_n rfl rfl rfl rfl ?_
                refine SatL.guard_n rfl rfl rfl rfl ?_
                refine SatL.guard_n rfl rfl rfl rfl ?_
                refine SatL.guard_n rfl rfl rfl rfl ?_
                refine SatL.guard_n rfl rfl rfl rfl ?_
                refine SatL.pu (RunV.pick_t rfl rfl) rfl ?_
                refine SatL.nil (SatE.thenC ?_)
                refine SatC.weak (e' := [(0, _), (1, _), (4, _), (5, _), (74, _)]) (by repeat constructor) ?_
                refine SatC.cond_t rfl ?_
                refine SatC.seq ?_
                refine SatC.region ?_
                refine SatL.pu (RunV.assign rfl) rfl ?_
                refine SatL.nil (SatE.thenC ?_)
                refine SatC.ret (SatE.blk_ret (SatE.then_ret (SatE.then_ret (SatE.blk_ret (SatE.then_ret ?_)))))
                refine SatE.ret1 rfl rfl ?_
                exact ⟨rfl, hS⟩
            · (try simp only [cx, ne_eq] at h6)
              try (exfalso; (first | omega | exact h6 trivial | contradiction | (first | omega | (simp [e1, e2, e4] at h6; done) | (simp at h6; done))); done)
              all_goals
              refine SatL.guard_n rfl rfl rfl rfl ?_
              refine SatL.guard_n rfl rfl rfl rfl ?_
              refine SatL.guard_n rfl rfl rfl rfl ?_
              refine SatL.guard_n rfl rfl rfl rfl ?_
              refine SatL.pu (RunV.pick_t rfl rfl) rfl ?_
              refine SatL.pu (RunV.move rfl) rfl ?_
              refine SatL.guard_n rfl rfl rfl rfl ?_
              refine SatL.guard_n rfl rfl rfl rfl ?_
              refine SatL.guard_n rfl rfl rfl rfl ?_
              refine SatL.guard_n rfl rfl rfl rfl ?_
              refine SatL.guard_n rfl rfl rfl rfl ?_
              refine SatL.pu (RunV.pick_t rfl rfl) rfl ?_
              refine SatL.pu (RunV.move rfl) rfl ?_
              refine SatL.guard_n rfl rfl rfl rfl ?_
              refine SatL.guard_n rfl rfl rfl rfl ?_
              refine SatL.guard_n rfl rfl rfl rfl ?_
              refine SatL.guard_n rfl rfl rfl rfl ?_
              refine SatL.guard_n rfl rfl rfl rfl ?_
              refine SatL.pu (RunV.pick_t rfl rfl) rfl ?_
              refine SatL.nil (SatE.thenC ?_)
              refine SatC.weak (e' := [(0, _), (1, _), (4, _), (5, _), (74, _)]) (by repeat constructor) ?_
              refine SatC.cond_t rfl ?_
              refine SatC.seq ?_
              refine SatC.region ?_
              refine SatL.pu (RunV.assign rfl) rfl ?_
              refine SatL.nil (SatE.thenC ?_)
              refine SatC.ret (SatE.blk_ret (SatE.then_ret (SatE.then_ret (SatE.blk_ret (SatE.then_ret ?_)))))
              refine SatE.ret1 rfl rfl ?_
              exact ⟨rfl, hS⟩
          · (try simp only [cx, ne_eq] at h5)
            try (exfalso; (first | omega | exact h5 trivial | contradiction | (first | omega | (simp [e1, e2, e4] at h5; done) | (simp at h5; done))); done)
            all_goals
            refine SatL.guard_n rfl rfl rfl rfl ?_
            refine SatL.guard_n rfl rfl rfl rfl ?_
            refine SatL.guard_n rfl rfl rfl rfl ?_
            refine SatL.guard_n rfl rfl rfl rfl ?_
            refine SatL.guard_n rfl rfl rfl rfl ?_
            refine SatL.pu (RunV.pick_t rfl rfl) rfl ?_
            refine SatL.pu (RunV.move rfl) rfl ?_
            refine SatL.guard_n rfl rfl rfl rfl ?_
            refine SatL.guard_n rfl rfl rfl rfl ?_
            refine SatL.guard_n rfl rfl rfl rfl ?_
            refine SatL.guard_n rfl rfl rfl rfl ?_
            refine SatL.guard_n rfl rfl rfl rfl ?_
            refine SatL.pu (RunV.pick_t rfl rfl) rfl ?_
            refine SatL.pu (RunV.move rfl) rfl ?_
            refine SatL.guard_n rfl rfl rfl rfl ?_
            refine SatL.guard_n rfl rfl rfl rfl ?_
            refine SatL.guard_n rfl rfl rfl rfl ?_
            refine SatL.guard_n rfl rfl rfl rfl ?_
            refine SatL.guard_n rfl rfl rfl rfl ?_
            refine SatL.pu (RunV.pick_t rfl rfl) rfl ?_
            refine SatL.pu (RunV.move rfl) rfl ?_
            refine SatL.guard_n rfl rfl rfl rfl ?_
            refine SatL.guard_n rfl rfl rfl rfl ?_
            refine SatL.guard_n rfl rfl rfl rfl ?_
            refine SatL.guard_n rfl rfl rfl rfl ?_
            refine SatL.guard_n rfl rfl rfl rfl ?_
            refine SatL.pu (RunV.pick_t rfl rfl) rfl ?_
            refine SatL.nil (SatE.thenC ?_)
            refine SatC.weak (e' := [(0, _), (1, _), (4, _), (5, _), (74, _)]) (by repeat constructor) ?_
            refine SatC.cond_t rfl ?_
            refine SatC.seq ?_
            refine SatC.region ?_
            refine SatL.pu (RunV.assign rfl) rfl ?_
            refine SatL.nil (SatE.thenC ?_)
            refine SatC.ret (SatE.blk_ret (SatE.then_ret (SatE.then_ret (SatE.blk_ret (SatE.then_ret ?_)))))
            refine SatE.ret1 rfl rfl ?_
            exact ⟨rfl, hS⟩
        · (try simp only [cx, ne_eq] at h4)
          try (exfalso; (first | omega | exact h4 trivial | contradiction | (first | omega | (simp [e1, e2, e4] at h4; done) | (simp at h4; done))); done)
          all_goals
          refine SatL.guard_n rfl rfl rfl rfl ?_
          refine SatL.guard_n rfl rfl rfl rfl ?_
          refine SatL.guard_n rfl rfl rfl rfl ?_
          refine SatL.guard_n rfl rfl rfl rfl ?_
          refine SatL.pu (RunV.pick_t rfl rfl) rfl ?_
          refine SatL.pu (RunV.move rfl) rfl ?_
          refine SatL.guard_n rfl rfl rfl rfl ?_
          refine SatL.guard_n rfl rfl rfl rfl ?_
          refine SatL.guard_n rfl rfl rfl rfl ?_
          refine SatL.guard_n rfl rfl rfl rfl ?_
          refine SatL.guard_n rfl rfl rfl rfl ?_
          refine SatL.guard_n rfl rfl rfl rfl ?_
          refine SatL.pu (RunV.pick_t rfl rfl) rfl ?_
          refine SatL.pu (RunV.move rfl) rfl ?_
          refine SatL.guard_n rfl rfl rfl rfl ?_
          refine SatL.guard_n rfl rfl rfl rfl ?_
          refine SatL.guard_n rfl rfl rfl rfl ?_
          refine SatL.guard_n rfl rfl rfl rfl ?_
          refine SatL.guard_n rfl rfl rfl rfl ?_
          refine SatL.pu (RunV.pick_t rfl rfl) rfl ?_
          refine SatL.pu (RunV.move rfl) rfl ?_
          refine SatL.guard_n rfl rfl rfl rfl ?_
          refine SatL.guard_n rfl rfl rfl rfl ?_
          refine SatL.guard_n rfl rfl rfl rfl ?_
          refine SatL.guard_n rfl rfl rfl rfl ?_
          refine SatL.guard_n rfl rfl rfl rfl ?_
          refine SatL.pu (RunV.pick_t rfl rfl) rfl ?_
          refine SatL.pu (RunV.move rfl) rfl ?_
          refine SatL.guard_n rfl rfl rfl rfl ?_
          refine SatL.guard_n rfl rfl rfl rfl ?_
          refine SatL.guard_n rfl rfl rfl rfl ?_
          refine SatL.guard_n rfl rfl rfl rfl ?_
          refine SatL.guard_n rfl rfl rfl rfl ?_
          refine SatL.pu (RunV.pick_t rfl rfl) rfl ?_
          refine SatL.nil (SatE.thenC ?_)
          refine SatC.weak (e' := [(0, _), (1, _), (4, _), (5, _), (74, _)]) (by repeat constructor) ?_
          refine SatC.cond_t rfl ?_
          refine SatC.seq ?_
          refine SatC.region ?_
          refine SatL.pu (RunV.assign rfl) rfl ?_
          refine SatL.nil (SatE.thenC ?_)
          refine SatC.ret (SatE.blk_ret (SatE.then_ret (SatE.then_ret (SatE.blk_ret (SatE.then_ret ?_)))))
          refine SatE.ret1 rfl rfl ?_
          exact ⟨rfl, hS⟩
      · (try simp only [cx, ne_eq] at h3)
        try (exfalso; (first | omega | exact h3 trivial | contradiction | (first | omega | (simp [e1, e2, e4] at h3; done) | (simp at h3; done))); done)
        all_goals
        refine SatL.guard_n rfl rfl rfl rfl ?_
        refine SatL.guard_n rfl rfl rfl rfl ?_
        refine SatL.guard_n rfl rfl rfl rfl ?_
        refine SatL.guard_n rfl rfl rfl rfl ?_
        refine SatL.pu (RunV.pick_t rfl rfl) rfl ?_
        refine SatL.pu (RunV.move rfl) rfl ?_
        refine SatL.guard_n rfl rfl rfl rfl ?_
        refine SatL.guard_n rfl rfl rfl rfl ?_
        refine SatL.guard_n rfl rfl rfl rfl ?_
        refine SatL.guard_n rfl rfl rfl rfl ?_
        refine SatL.guard_n rfl rfl rfl rfl ?_
        refine SatL.pu (RunV.pick_t rfl rfl) rfl ?_
        refine SatL.pu (RunV.move rfl) rfl ?_
        refine SatL.guard_n rfl rfl rfl rfl ?_
        refine SatL.guard_n rfl rfl rfl rfl ?_
        refine SatL.guard_n rfl rfl rfl rfl ?_
        refine SatL.guard_n rfl rfl rfl rfl ?_
        refine SatL.guard_n rfl rfl rfl rfl ?_
        refine SatL.guard_n rfl rfl rfl rfl ?_
        refine SatL.pu (RunV.pick_t rfl rfl) rfl ?_
        refine SatL.pu (RunV.move rfl) rfl ?_
        refine SatL.guard_n rfl rfl rfl rfl ?_
        refine SatL.guard_n rfl rfl rfl rfl ?_
        refine SatL.guard_n rfl rfl rfl rfl ?_
        refine SatL.guard_n rfl rfl rfl rfl ?_
        refine SatL.guard_n rfl rfl rfl rfl ?_
        refine SatL.pu (RunV.pick_t rfl rfl) rfl ?_
        refine SatL.pu (RunV.move rfl) rfl ?_
        refine SatL.guard_n rfl rfl rfl rfl ?_
        refine SatL.guard_n rfl rfl rfl rfl ?_
        refine SatL.guard_n rfl rfl rfl rfl ?_
        refine SatL.guard_n rfl rfl rfl rfl ?_
        refine SatL.guard_n rfl rfl rfl rfl ?_
        refine SatL.pu (RunV.pick_t rfl rfl) rfl ?_
        refine SatL.pu (RunV.move rfl) rfl ?_
        refine SatL.guard_n rfl rfl rfl rfl ?_
        refine SatL.guard_n rfl rfl rfl rfl ?_
        refine SatL.guard_n rfl rfl rfl rfl ?_
        refine SatL.guard_n rfl rfl rfl rfl ?_
        refine SatL.guard_n rfl rfl rfl rfl ?_
        refine SatL.pu (RunV.pick_t rfl rfl) rfl ?_
        refine SatL.nil (SatE.thenC ?_)
        refine SatC.weak (e' := [(0, _), (1, _), (4, _), (5, _), (74, _)]) (by repeat constructor) ?_
        refine SatC.cond_t rfl ?_
        refine SatC.seq ?_
        refine SatC.region ?_
        refine SatL.pu (RunV.assign rfl) rfl ?_
        refine SatL.nil (SatE.thenC ?_)
        refine SatC.ret (SatE.blk_ret (SatE.then_ret (SatE.then_ret (SatE.blk_ret (SatE.then_ret ?_)))))
        refine SatE.ret1 rfl rfl ?_
        exact ⟨rfl, hS⟩
    · (try simp only [cx, ne_eq] at h2)
      try (exfalso; (first | omega | exact h2 trivial | contradiction | (first | omega | (simp [e1, e2, e4] at h2; done) | (simp at h2; done))); done)
      all_goals
      refine SatC.exit (SatE.then_exit (SatE.then_exit (SatE.blk_exit (SatE.thenC ?_))))
      refine SatC.seq ?_
      refine SatC.region ?_
      refine SatL.pu (RunV.assign rfl) rfl ?_
      refine SatL.nil (SatE.thenC ?_)
      refine SatC.ret ?_
      refine SatE.ret1 rfl rfl ?_
      exact ⟨rfl, hS⟩
end Go.Proofs.Ytbnkcagcfbpiiaa
set_option linter.unusedSimpArgs false
set_option linter.unusedVariables false
set_option maxRecDepth 100000
set_option maxHeartbeats 4000000
namespace Go.Proofs.Ytbnkcagcfbpiiaa
open Go Go.Proofs Go.RowKit
section
variable {α β : Type} {key : α → List UInt8}
theorem gt_iff {l : List α} {k : List UInt8} {x : α} (h : (l.map key).Nodup) : gt key l k = some x ↔ x ∈ l ∧ key x = k :=
  ⟨gt_mem, fun ⟨h1, h2⟩ => by rw [← h2]; exact gt_of_mem h h1⟩
theorem gt_perm {l l' : List α} {k : List UInt8} (hp : l.Perm l') (h : (l.map key).Nodup) : gt key l k = gt key l' k := by
  have h' : (l'.map key).Nodup := (hp.map key).nodup_iff.1 h
  refine Option.ext fun x => ?_
  rw [gt_iff h, gt_iff h', hp.mem_iff]
theorem gt_map {key' : β → List UInt8} {f : α → β} (hf : ∀ x, key' (f x) = key x) (l : List α) (k : List UInt8) : gt key' (l.map f) k = (gt key l k).map f := by
  induction l with
  | nil => rfl
  | cons x l ih =>
    rw [List.map_cons]
    unfold gt
    rw [hf, ih]
    split <;> rfl
theorem pt_perm {l : List α} {t : α} (h : (l.map key).Nodup) : (pt key l t).Perm (t :: l.filter fun x => decide (¬ key x = key t)) := by
  induction l with
  | nil => simp [pt]
  | cons y l ih =>
    rw [List.map_cons, List.nodup_cons] at h
    unfold pt
    split
    · rename_i e
      rw [List.filter_cons_of_neg (by simp [e]), List.filter_eq_self.2]
      intro x hx
      simp only [decide_eq_true_eq]
      intro e2
      exact h.1 (by rw [← e, ← e2]; exact List.mem_map_of_mem hx)
    · rename_i e
      rw [List.filter_cons_of_pos (by simp only [decide_eq_true_eq]; exact fun h => e h.symm)]
      exact ((ih h.2).cons y).trans (.swap ..)
end
theorem l_irr (a : List UInt8) : ¬ a < a := List.lt_irrefl a
theorem lt_tr {a b c : List UInt8} (h : a < b) (h' : b < c) : a < c := List.lt_trans h h'
theorem lt_or {a b : List UInt8} (h : ¬ a = b) (h2 : ¬ a < b) : b < a :=
  Decidable.byContradiction fun hn => h (List.le_antisymm (List.not_lt.1 hn) (List.not_lt.1 h2))
section
variable {α : Type} {key : α → List UInt8} {x : α}
def Srtd (key : α → List UInt8) (l : List α) : Prop := l.Pairwise fun a b => key a < key b
theorem Srtd.nodup {l : List α} (h : Srtd key l) : (l.map key).Nodup := by
  rw [List.Nodup, List.pairwise_map]
  refine h.imp ?_
  intro a b hab e
  exact l_irr (key b) (by rw [e] at hab; exact hab)
theorem ins_true {l : List α} (h : ∀ y ∈ l, ¬ key y = key x) : ins key x true l = l := by
  induction l with
  | nil => rfl
  | cons y l ih =>
    rw [ins_go (h y List.mem_cons_self) (by simp), ih fun z hz => h z (List.mem_cons_of_mem _ hz)]
theorem ins_sorted {l : List α} (h : Srtd key l) : Srtd key (ins key x false l) := by
  induction l with
  | nil => exact List.pairwise_singleton _ _
  | cons y l ih =>
    have h' := List.pairwise_cons.1 h
    by_cases e : key y = key x
    · rw [ins_eq e]
      exact ih h'.2
    · by_cases hlt : key x < key y
      · rw [ins_lt e ⟨rfl, hlt⟩, ins_true fun z hz e2 => l_irr (key x) (lt_tr hlt (by rw [← e2]; exact h'.1 z hz))]
        refine List.pairwise_cons.2 ⟨fun z hz => ?_, h⟩
        rcases List.mem_cons.1 hz with rfl | hz
        · exact hlt
        · exact lt_tr hlt (h'.1 z hz)
      · rw [ins_go e (fun h => hlt h.2)]
        refine List.pairwise_cons.2 ⟨fun z hz => ?_, ih h'.2⟩
        have := (ins_perm (key := key) (x := x) false l).mem_iff.1 hz
        simp only [Bool.false_eq_true, if_false, List.cons_append, List.nil_append, List.mem_cons] at this
        rcases this with rfl | hm
        · exact lt_or (fun e2 => e e2.symm) hlt
        · exact h'.1 z (List.mem_filter.1 hm).1
theorem srt_sorted {l : List (List UInt8)} (h : l.Pairwise (· < ·)) : srt l = l := by
  unfold srt
  refine List.mergeSort_of_pairwise (h.imp fun hab => ?_)
  simp only [decide_eq_true_eq]
  exact List.le_of_lt hab
theorem srt_ids {β : Type} {kb : β → List UInt8} {l : List β} {d : List α} (hp : (l.map kb).Perm (d.map key)) (hs : Srtd key d) : srt (l.map kb) = d.map key := by
  rw [srt_perm hp]
  exact srt_sorted (by rw [List.pairwise_map]; exact hs)
end
def cdat (c : Ch) : Dc := ⟨c.id, c.svc, c.note, c.h⟩
def ddat (s : Ds) : Sd := ⟨s.id, s.name, s.tags, s.port⟩
/-- The agents are alike. -/
structure Rel (S : Lc) (D : Dl) : Prop where
  nd : S.node = D.node
  ssv : Srtd Ds.id D.sv
  sch : Srtd Dc.id D.ch
  psv : (S.sv.map sdat).Perm (D.sv.map ddat)
  pch : (S.ch.map cdat).Perm D.ch
theorem Rel.svids {S : Lc} {D : Dl} (h : Rel S D) : (S.sv.map Sv.id).Perm (D.sv.map Ds.id) := by
  have := h.psv.map Sd.id
  rwa [List.map_map, List.map_map] at this
theorem Rel.chids {S : Lc} {D : Dl} (h : Rel S D) : (S.ch.map Ch.id).Perm (D.ch.map Dc.id) := by
  have := h.pch.map Dc.id
  rwa [List.map_map] at this
theorem Rel.gsv {S : Lc} {D : Dl} (h : Rel S D) (k : List UInt8) : (gt Sv.id S.sv k).map sdat = (gt Ds.id D.sv k).map ddat := by
  rw [← gt_map (key := Sv.id) (key' := Sd.id) (f := sdat) (fun _ => rfl), ← gt_map (key := Ds.id) (key' := Sd.id) (f := ddat) (fun _ => rfl)]
  refine gt_perm h.psv ?_
  rw [List.map_map]
  exact (h.svids.nodup_iff).2 h.ssv.nodup
theorem Rel.gch {S : Lc} {D : Dl} (h : Rel S D) (k : List UInt8) : (gt Ch.id S.ch k).map cdat = gt Dc.id D.ch k := by
  rw [← gt_map (key := Ch.id) (key' := Dc.id) (f := cdat) (fun _ => rfl)]
  refine gt_perm h.pch ?_
  rw [List.map_map]
  exact (h.chids.nodup_iff).2 h.sch.nodup
end Go.Proofs.Ytbnkcagcfbpiiaa
set_option linter.unusedSimpArgs false
set_option linter.unusedVariables false
set_option maxRecDepth 100000
set_option maxHeartbeats 4000000
namespace Go.Proofs.Ytbnkcagcfbpiiaa
open Go Go.Proofs Go.RowKit
section
variable {S : Lc} {D : Dl}
theorem Rel.svnd (h : Rel S D) : (S.sv.map Sv.id).Nodup := (h.svids.nodup_iff).2 h.ssv.nodup
theorem Rel.chnd (h : Rel S D) : (S.ch.map Ch.id).Nodup := (h.chids.nodup_iff).2 h.sch.nodup
theorem Rel.svlen (h : Rel S D) : S.sv.length = D.sv.length := by have := h.svids.length_eq; simpa using this
theorem Rel.chlen (h : Rel S D) : S.ch.length = D.ch.length := by have := h.chids.length_eq; simpa using this
theorem Rel.svno (h : Rel S D) (k : List UInt8) : gt Sv.id S.sv k = none ↔ gt Ds.id D.sv k = none := by
  have := h.gsv k
  cases e1 : gt Sv.id S.sv k <;> cases e2 : gt Ds.id D.sv k <;> rw [e1, e2] at this <;> simp_all
theorem Rel.svis (h : Rel S D) (k : List UInt8) : (gt Sv.id S.sv k).isSome = (gt Ds.id D.sv k).isSome := by
  have := h.gsv k
  cases e1 : gt Sv.id S.sv k <;> cases e2 : gt Ds.id D.sv k <;> rw [e1, e2] at this <;> simp_all
theorem Rel.chno (h : Rel S D) (k : List UInt8) : gt Ch.id S.ch k = none ↔ gt Dc.id D.ch k = none := by
  rw [← h.gch k]; simp
theorem Rel.chis (h : Rel S D) (k : List UInt8) : (gt Ch.id S.ch k).isSome = (gt Dc.id D.ch k).isSome := by
  rw [← h.gch k]; simp
theorem Rel.addE_eq (h : Rel S D) (id name : List UInt8) (tags : List (List UInt8)) (port : Int) : addE S id name tags port = daddE D id name tags port := by
  unfold addE daddE
  simp only [h.svno, h.svlen]
theorem Rel.addCE_eq (h : Rel S D) (id sv note : List UInt8) (p : Pl) : addCE S id sv note p = daddCE D id sv note p := by
  unfold addCE daddCE
  simp only [h.svno, h.chno, h.chlen]
theorem Rel.add (h : Rel S D) (id name : List UInt8) (tags : List (List UInt8)) (port : Int) (tv v : Value) (B : List (Nat × Obj)) : Rel (aAdd S ⟨id, name, tags, port, tv, B⟩) { D with sv := ins Ds.id ⟨id, name, tags, port, v⟩ false D.sv } := by
  refine ⟨h.nd, ins_sorted h.ssv, h.sch, ?_, h.pch⟩
  show ((pt Sv.id S.sv ⟨id, name, tags, port, tv, B⟩).map sdat).Perm _
  refine ((pt_perm h.svnd).map sdat).trans ?_
  refine List.Perm.trans ?_ ((ins_perm (key := Ds.id) (x := ⟨id, name, tags, port, v⟩) false D.sv).map ddat).symm
  simp only [Bool.false_eq_true, if_false, List.cons_append, List.nil_append, List.map_cons]
  refine List.Perm.cons _ ?_
  have := h.psv.filter fun s => decide (¬ s.id = id)
  rw [List.filter_map, List.filter_map] at this
  exact this
theorem Rel.addc (h : Rel S D) (id sv note : List UInt8) (hb : Nat) (c : Ck) : Rel (aAddC S ⟨id, sv, note, hb, c⟩) { D with ch := ins Dc.id ⟨id, sv, note, c⟩ false D.ch } := by
  refine ⟨h.nd, h.ssv, ins_sorted h.sch, h.psv, ?_⟩
  show ((pt Ch.id S.ch ⟨id, sv, note, hb, c⟩).map cdat).Perm _
  refine ((pt_perm h.chnd).map cdat).trans ?_
  refine List.Perm.trans ?_ (ins_perm (key := Dc.id) (x := ⟨id, sv, note, c⟩) false D.ch).symm
  simp only [Bool.false_eq_true, if_false, List.cons_append, List.nil_append, List.map_cons]
  refine List.Perm.cons _ ?_
  have := h.pch.filter fun s => decide (¬ s.id = id)
  rw [List.filter_map] at this
  exact this
theorem Rel.delc (h : Rel S D) (k : List UInt8) : Rel (aDelC S k) { D with ch := wid k D.ch } := by
  refine ⟨h.nd, h.ssv, List.Pairwise.filter _ h.sch, h.psv, ?_⟩
  show ((dl Ch.id S.ch k).map cdat).Perm _
  rw [dl_filter h.chnd]
  have := h.pch.filter fun s => decide (¬ s.id = k)
  rw [List.filter_map] at this
  exact this
theorem Rel.rem (h : Rel S D) (k : List UInt8) : Rel (aRem S k) (drem1 D k) := by
  unfold aRem drem1
  rw [h.svis k]
  split
  · refine ⟨h.nd, List.Pairwise.filter _ h.ssv, List.Pairwise.filter _ h.sch, ?_, ?_⟩
    · show ((dl Sv.id S.sv k).map sdat).Perm ((wis k D.sv).map ddat)
      rw [dl_filter h.svnd]
      have := h.psv.filter fun s => decide (¬ s.id = k)
      rw [List.filter_map, List.filter_map] at this
      exact this
    · show ((S.ch.filter fun c => decide (¬ c.svc = k)).map cdat).Perm (wsv k D.ch)
      have := h.pch.filter fun s => decide (¬ s.svc = k)
      rw [List.filter_map] at this
      exact this
  · exact h
theorem map_sorted {f : Dc → Dc} (hf : ∀ c, (f c).id = c.id) {l : List Dc} (h : Srtd Dc.id l) : Srtd Dc.id (l.map f) := by
  unfold Srtd
  rw [List.pairwise_map]
  refine h.imp ?_
  intro a b hab
  rw [hf, hf]
  exact hab
theorem Rel.hup (h : Rel S D) (k : List UInt8) (g : Ck → Ck) : Rel (aHup S k g) { D with ch := dHup k g D.ch } := by
  refine ⟨h.nd, h.ssv, map_sorted (fun c => by split <;> rfl) h.sch, h.psv, ?_⟩
  show ((S.ch.map fun c => if c.id = k then { c with h := g c.h } else c).map cdat).Perm _
  have := h.pch.map fun c => if c.id = k then { c with h := g c.h } else c
  rw [List.map_map] at this ⊢
  refine List.Perm.trans (List.Perm.of_eq (List.map_congr_left fun c _ => ?_)) this
  simp only [Function.comp, cdat]
  by_cases hc : c.id = k <;> simp [hc]
/-- The greatest status is the same. -/
theorem wrst_dw (bare : Bool) (sv : List UInt8) (l : List Ch) : wrst (fun c => !(bare && isAl c)) sv l = dw bare sv (l.map cdat) := by
  induction l with
  | nil => rfl
  | cons c l ih =>
    rw [List.map_cons]
    simp only [wrst, dw, ih, cdat]
    have e : (!(bare && isAl c)) = true ↔ ¬ (bare = true ∧ c.h.p.kind = 3) := by
      unfold isAl
      cases bare <;> simp
    simp only [e]
    split
    · rename_i h1; exact (if_pos h1).symm
    · rename_i h1; exact (if_neg h1).symm
theorem dw_perm {bare : Bool} {sv : List UInt8} {l l' : List Dc} (h : l.Perm l') : dw bare sv l = dw bare sv l' := by
  induction h with
  | nil => rfl
  | cons x _ ih => unfold dw; rw [ih]
  | swap x y l => simp only [dw]; split <;> split <;> omega
  | trans _ _ h1 h2 => exact h1.trans h2
theorem Rel.health (h : Rel S D) (k : List UInt8) : wrst (fun _ => true) k S.ch = dw false k D.ch := by
  rw [← dw_perm h.pch, ← wrst_dw]
  rfl
theorem Rel.bare (h : Rel S D) (k : List UInt8) : wrst (fun c => !isAl c) k S.ch = dw true k D.ch := by
  rw [← dw_perm h.pch, ← wrst_dw]
  rfl
end
end Go.Proofs.Ytbnkcagcfbpiiaa
set_option linter.unusedSimpArgs false
set_option linter.unusedVariables false
set_option maxRecDepth 100000
set_option maxHeartbeats 4000000
namespace Go.Proofs.Ytbnkcagcfbpiiaa
open Go Go.Proofs Go.RowKit
theorem tk_map (l : List Ch) : (updA tk1 l).map cdat = (l.map cdat).map dtk := by
  unfold updA
  rw [List.map_map, List.map_map]
  rfl
theorem fol_map (l0 l : List Ch) : (updA (fol1 l0) l).map cdat = (l.map cdat).map (dfl (l0.map cdat)) := by
  unfold updA
  rw [List.map_map, List.map_map]
  refine List.map_congr_left fun c _ => ?_
  simp only [Function.comp, fol1, dfl, cdat, isAl, decide_eq_true_eq]
  have e : wrst (fun c => !isAl c) c.h.p.of l0 = dw true c.h.p.of (l0.map cdat) := wrst_dw true c.h.p.of l0
  simp only [isAl] at e
  rw [e]
  by_cases hk : c.h.p.kind = 3 <;> simp [hk]
theorem ch2_map (l : List Ch) : (ch2 l).map cdat = dch2 (l.map cdat) := by
  unfold ch2 dch2
  rw [fol_map, tk_map]
theorem dfl_perm {l l' : List Dc} (h : l.Perm l') : dfl l = dfl l' := by
  funext c
  unfold dfl
  rw [dw_perm h]
theorem dch2_perm {l l' : List Dc} (h : l.Perm l') : (dch2 l).Perm (dch2 l') := by
  unfold dch2
  rw [dfl_perm (h.map dtk)]
  exact (h.map dtk).map _
theorem dch2_sorted {l : List Dc} (h : Srtd Dc.id l) : Srtd Dc.id (dch2 l) := map_sorted (dfl_id _) (map_sorted (f := dtk) (fun _ => rfl) h)
theorem Rel.tick0 {S : Lc} {D : Dl} (h : Rel S D) : Rel { S with ch := ch2 S.ch } { D with ch := dch2 D.ch } := by
  refine ⟨h.nd, h.ssv, dch2_sorted h.sch, h.psv, ?_⟩
  show ((ch2 S.ch).map cdat).Perm (dch2 D.ch)
  rw [ch2_map]
  exact dch2_perm h.pch
def isGone (l : List Ch) (id : List UInt8) : Bool := l.any fun c => decide (c.svc = id) && over c.h
theorem gone_rem (S : Lc) {id k : List UInt8} (h : ¬ id = k) : isGone (aRem S k).ch id = isGone S.ch id := by
  unfold aRem
  split
  · unfold isGone
    show ((S.ch.filter fun c => decide (¬ c.svc = k)).any _) = _
    rw [List.any_filter]
    congr 1
    funext c
    by_cases e : c.svc = id
    · simp [e, h]
    · simp [e]
  · rfl
theorem gone_fold (p : List UInt8 → Bool) : ∀ (zs : List (List UInt8)) (S : Lc) (g : List (List UInt8)), zs.Nodup → (∀ id ∈ zs, isGone S.ch id = p id) → zs.foldl gone1 (S, g) = ((zs.filter p).foldl aRem S, g ++ zs.filter p)
  | [], S, g, _, _ => by simp
  | z :: zs, S, g, hn, hp => by
    rw [List.nodup_cons] at hn
    have hz := hp z List.mem_cons_self
    rw [List.foldl_cons]
    cases e : p z with
    | true =>
      have : gone1 (S, g) z = (aRem S z, g ++ [z]) := if_pos (hz.trans e)
      rw [this, gone_fold p zs (aRem S z) (g ++ [z]) hn.2 (fun id hid => by
        rw [gone_rem S (fun e2 => hn.1 (by rw [← e2]; exact hid))]
        exact hp id (List.mem_cons_of_mem _ hid)), List.filter_cons_of_pos e, List.foldl_cons, List.append_assoc]
      rfl
    | false =>
      have : gone1 (S, g) z = (S, g) := if_neg (fun h => by have h2 : isGone S.ch z = true := h; rw [hz, e] at h2; cases h2)
      rw [this, gone_fold p zs S g hn.2 (fun id hid => hp id (List.mem_cons_of_mem _ hid)), List.filter_cons_of_neg (by simp [e])]
theorem Rel.rems {S : Lc} {D : Dl} (h : Rel S D) (l : List (List UInt8)) : Rel (l.foldl aRem S) (l.foldl drem1 D) := by
  induction l generalizing S D with
  | nil => exact h
  | cons k l ih => exact ih (h.rem k)
theorem any_perm {α : Type} {f : α → Bool} {l l' : List α} (h : l.Perm l') : l.any f = l'.any f := by
  rw [Bool.eq_iff_iff, List.any_eq_true, List.any_eq_true]
  exact ⟨fun ⟨x, hx, e⟩ => ⟨x, h.mem_iff.1 hx, e⟩, fun ⟨x, hx, e⟩ => ⟨x, h.mem_iff.2 hx, e⟩⟩
theorem Rel.tick {S : Lc} {D : Dl} (h : Rel S D) : (aTick S).2 = dgone D ∧ Rel (aTick S).1 (dTick D) := by
  have hz : srt (S.sv.map Sv.id) = D.sv.map Ds.id := srt_ids h.svids h.ssv
  have h0 := h.tick0
  have hp : ∀ id, isGone (ch2 S.ch) id = (dch2 D.ch).any (fun c => decide (c.svc = id) && over c.h) := fun id => by
    rw [← any_perm h0.pch]
    unfold isGone
    show _ = ((ch2 S.ch).map cdat).any _
    rw [List.any_map]
    rfl
  have e := gone_fold (isGone (ch2 S.ch)) (D.sv.map Ds.id) { S with ch := ch2 S.ch } [] h.ssv.nodup (fun id _ => rfl)
  have hg : (D.sv.map Ds.id).filter (isGone (ch2 S.ch)) = dgone D := by
    unfold dgone
    rw [List.filter_map]
    congr 2
    funext s
    exact hp s.id
  unfold aTick dTick
  rw [hz, e, hg]
  exact ⟨rfl, h0.rems _⟩
end Go.Proofs.Ytbnkcagcfbpiiaa
set_option linter.unusedSimpArgs false
set_option linter.unusedVariables false
set_option maxRecDepth 100000
set_option maxHeartbeats 8000000
namespace Go.Proofs.Ytbnkcagcfbpiiaa
open Go Go.Proofs Go.RowKit
theorem RdA.to {w w' : World} {L : List (Nat × Obj)} {v : Value} {k : Nat} {xs : List (List Value)} {X Y : List Nat} (h : RdA w v k xs X) (hS : St w X L w') (hsub : ∀ a ∈ Y, a ∈ X) : RdA w' v k xs Y := by
  obtain ⟨b, o, c, hv, hc, hm, hb⟩ := h
  exact ⟨b, o, c, hv, hc.st hS hb, hm, fun hy => hb (hsub b hy)⟩
/-- A status is one. -/
def R3 (c : Ck) : Prop := 0 ≤ c.bare ∧ c.bare ≤ 3
theorem toldC_r3 (c : Ck) (n : Int) (h : R3 c) : R3 (toldC c n) := by
  unfold R3 at *
  unfold toldC
  split
  · exact h
  · rename_i hb
    unfold bad at hb
    split
    · exact ⟨by show 0 ≤ n; omega, by show n ≤ 3; omega⟩
    · unfold cntC
      split
      · dsimp only
        split <;> omega
      · dsimp only
        split <;> omega
/-- What all steps keep. -/
structure Clo (P : Lc → Prop) : Prop where
  add : ∀ S s, P S → P (aAdd S s)
  rem : ∀ S k, P S → P (aRem S k)
  addc : ∀ S c p, addCE S c.id c.svc c.note p = 0 → c.h = ck0 p → P S → P (aAddC S c)
  delc : ∀ S k, P S → P (aDelC S k)
  hup : ∀ S k g, (∀ c, R3 c → R3 (g c)) → P S → P (aHup S k g)
  tick : ∀ S, P S → P (aTick S).1
/-- What a step brings. -/
structure DoR (b r : Nat) (S : Lc) (D : Dl) (m : Int) (v : Value) (tags : List (List UInt8)) (F : Dl) (bb : Bool) (S' : Lc) (D' : Dl) (L' R' : List (Nat × Obj)) : Prop where
  ag : Agt b S' L'
  dk : Dok r D' R'
  bs : ∀ c ∈ S'.ch, Bd (m + 4) c.h
  bd : ∀ c ∈ D'.ch, Bd (m + 4) c.h
  rel : Rel S D → bb = true ∧ Rel S' D'
  clo : ∀ P, Clo P → P S → P S'
  tg : ∀ s ∈ D'.sv, s ∈ D.sv ∨ (s.tv = v ∧ s.tags = tags)
  fn : Rel S D → D' = F
theorem aRem_ch (S : Lc) (k : List UInt8) : ∀ c ∈ (aRem S k).ch, c ∈ S.ch := fun c hc => by
  unfold aRem at hc
  split at hc
  · exact (List.mem_filter.1 hc).1
  · exact hc
theorem gone_ch (zs : List (List UInt8)) (q : Lc × List (List UInt8)) : ∀ c ∈ (zs.foldl gone1 q).1.ch, c ∈ q.1.ch := by
  induction zs generalizing q with
  | nil => exact fun c hc => hc
  | cons z zs ih =>
    intro c hc
    have := ih _ c hc
    unfold gone1 at this
    split at this
    · exact aRem_ch _ _ c this
    · exact this
theorem tick_bd {S : Lc} {m : Int} (h : ∀ c ∈ S.ch, Bd m c.h) : ∀ c ∈ (aTick S).1.ch, Bd (m + 1) c.h := fun c hc => by
  have h2 : c ∈ ch2 S.ch := gone_ch _ _ c hc
  obtain ⟨d, hd, rfl⟩ := List.mem_map.1 h2
  obtain ⟨e, he, rfl⟩ := List.mem_map.1 hd
  have ht : Bd (m + 1) (tk1 e) := tickC_bd (h e he)
  show Bd (m + 1) (fol1 (updA tk1 S.ch) { e with h := tk1 e })
  unfold fol1
  split
  · exact folC_bd ht
  · exact ht
theorem drem_ch (D : Dl) (k : List UInt8) : ∀ c ∈ (drem1 D k).ch, c ∈ D.ch := fun c hc => by
  unfold drem1 at hc
  split at hc
  · exact (List.mem_filter.1 hc).1
  · exact hc
theorem drem_sv (D : Dl) (k : List UInt8) : ∀ c ∈ (drem1 D k).sv, c ∈ D.sv := fun c hc => by
  unfold drem1 at hc
  split at hc
  · exact (List.mem_filter.1 hc).1
  · exact hc
theorem drems_ch (l : List (List UInt8)) (D : Dl) : ∀ c ∈ (l.foldl drem1 D).ch, c ∈ D.ch := by
  induction l generalizing D with
  | nil => exact fun c hc => hc
  | cons k l ih => exact fun c hc => drem_ch _ _ c (ih _ c hc)
theorem drems_sv (l : List (List UInt8)) (D : Dl) : ∀ c ∈ (l.foldl drem1 D).sv, c ∈ D.sv := by
  induction l generalizing D with
  | nil => exact fun c hc => hc
  | cons k l ih => exact fun c hc => drem_sv _ _ c (ih _ c hc)
theorem dtick_sv (D : Dl) : ∀ s ∈ (dTick D).sv, s ∈ D.sv := fun s hs => drems_sv (dgone D) { D with ch := dch2 D.ch } s hs
theorem dtick_bd {D : Dl} {m : Int} (h : ∀ c ∈ D.ch, Bd m c.h) : ∀ c ∈ (dTick D).ch, Bd (m + 1) c.h := fun c hc => by
  have h2 : c ∈ dch2 D.ch := drems_ch _ _ c hc
  obtain ⟨d, hd, rfl⟩ := List.mem_map.1 h2
  obtain ⟨e, he, rfl⟩ := List.mem_map.1 hd
  have ht : Bd (m + 1) (dtk e).h := tickC_bd (h e he)
  unfold dfl
  split
  · exact folC_bd ht
  · exact ht
theorem hup_bd {l : List Ch} {m : Int} {k : List UInt8} {g : Ck → Ck} (h : ∀ c ∈ l, Bd m c.h) (hg : ∀ c, Bd m c → Bd (m + 1) (g c)) : ∀ c ∈ hup k g l, Bd (m + 1) c.h := fun c hc => by
  obtain ⟨d, hd, rfl⟩ := hup_mem hc
  split
  · exact hg _ (h d hd)
  · exact (h d hd).le (by omega)
theorem dhup_bd {l : List Dc} {m : Int} {k : List UInt8} {g : Ck → Ck} (h : ∀ c ∈ l, Bd m c.h) (hg : ∀ c, Bd m c → Bd (m + 1) (g c)) : ∀ c ∈ dHup k g l, Bd (m + 1) c.h := fun c hc => by
  obtain ⟨d, hd, rfl⟩ := List.mem_map.1 hc
  split
  · exact hg _ (h d hd)
  · exact (h d hd).le (by omega)
theorem ck0_bd {m : Int} (p : Pl) (h : 0 ≤ m) : Bd m (ck0 p) := by
  unfold Bd
  exact ⟨⟨Int.le_refl _, h⟩, ⟨Int.le_refl _, h⟩, ⟨Int.le_refl _, h⟩, ⟨Int.le_refl _, h⟩⟩
section
variable {b r : Nat} {S : Lc} {D : Dl} {m : Int} {v : Value} {tags : List (List UInt8)} {L' R' : List (Nat × Obj)}
theorem DoR.r0 {S' : Lc} {D' : Dl} {id name : List UInt8} {port : Int} (hbS : ∀ c ∈ S.ch, Bd m c.h) (hbD : ∀ c ∈ D.ch, Bd m c.h)
    (h1 : addE S id name tags port = 0 → ∃ tv B, S' = aAdd S ⟨id, name, tags, port, tv, B⟩) (h2 : ¬ addE S id name tags port = 0 → S' = S) (h3 : daddE D id name tags port = 0 → D' = { D with sv := ins Ds.id ⟨id, name, tags, port, v⟩ false D.sv }) (h4 : ¬ daddE D id name tags port = 0 → D' = D)
    (hA : Agt b S' L') (hD : Dok r D' R') : DoR b r S D m v tags (if daddE D id name tags port = 0 then { D with sv := ins Ds.id ⟨id, name, tags, port, v⟩ false D.sv } else D) (decide (addE S id name tags port = daddE D id name tags port)) S' D' L' R' := by
  have hcS : S'.ch = S.ch := by
    by_cases e : addE S id name tags port = 0
    · obtain ⟨tv, B, rfl⟩ := h1 e; rfl
    · rw [h2 e]
  have hcD : D'.ch = D.ch := by
    by_cases e : daddE D id name tags port = 0
    · rw [h3 e]
    · rw [h4 e]
  refine ⟨hA, hD, fun c hc => (hbS c (hcS ▸ hc)).le (by omega), fun c hc => (hbD c (hcD ▸ hc)).le (by omega), fun hr => ?_, fun P hP hS => ?_, fun s hs => ?_, fun _ => by split <;> first | exact h3 (by assumption) | exact h4 (by assumption)⟩
  · have he := hr.addE_eq id name tags port
    refine ⟨decide_eq_true he, ?_⟩
    by_cases e : addE S id name tags port = 0
    · obtain ⟨tv, B, rfl⟩ := h1 e
      rw [h3 (he ▸ e)]
      exact hr.add id name tags port tv v B
    · rw [h2 e, h4 (he ▸ e)]
      exact hr
  · by_cases e : addE S id name tags port = 0
    · obtain ⟨tv, B, rfl⟩ := h1 e
      exact hP.add _ _ hS
    · rw [h2 e]; exact hS
  · by_cases e : daddE D id name tags port = 0
    · rw [h3 e] at hs
      have := (ins_perm (key := Ds.id) (x := ⟨id, name, tags, port, v⟩) false D.sv).mem_iff.1 hs
      simp only [Bool.false_eq_true, if_false, List.cons_append, List.nil_append, List.mem_cons] at this
      rcases this with rfl | hm
      · exact .inr ⟨rfl, rfl⟩
      · exact .inl (List.mem_filter.1 hm).1
    · rw [h4 e] at hs
      exact .inl hs
theorem DoR.r1 (k : List UInt8) (hbS : ∀ c ∈ S.ch, Bd m c.h) (hbD : ∀ c ∈ D.ch, Bd m c.h) (hA : Agt b (aRem S k) L') (hD : Dok r (drem1 D k) R') : DoR b r S D m v tags (drem1 D k) (decide ((if (gt Sv.id S.sv k).isSome = true then (0 : Int) else 4) = if (gt Ds.id D.sv k).isSome = true then 0 else 4)) (aRem S k) (drem1 D k) L' R' :=
  ⟨hA, hD, fun c hc => (hbS c (aRem_ch _ _ c hc)).le (by omega), fun c hc => (hbD c (drem_ch _ _ c hc)).le (by omega), fun hr => ⟨by rw [hr.svis k]; simp, hr.rem k⟩, fun P hP hS => hP.rem _ _ hS, fun s hs => .inl (drem_sv _ _ s hs), fun _ => rfl⟩
theorem DoR.r3 (k : List UInt8) (hbS : ∀ c ∈ S.ch, Bd m c.h) (hbD : ∀ c ∈ D.ch, Bd m c.h) (hA : Agt b (aDelC S k) L') (hD : Dok r { D with ch := wid k D.ch } R') : DoR b r S D m v tags { D with ch := wid k D.ch } (decide ((if (gt Ch.id S.ch k).isSome = true then (0 : Int) else 4) = if (gt Dc.id D.ch k).isSome = true then 0 else 4)) (aDelC S k) { D with ch := wid k D.ch } L' R' :=
  ⟨hA, hD, fun c hc => (hbS c ((dl_sub _ _).subset hc)).le (by omega), fun c hc => (hbD c (List.mem_filter.1 hc).1).le (by omega), fun hr => ⟨by rw [hr.chis k]; simp, hr.delc k⟩, fun P hP hS => hP.delc _ _ hS, fun s hs => .inl hs, fun _ => rfl⟩
theorem DoR.r2 {S' : Lc} {D' : Dl} {id sv note : List UInt8} {p : Pl} (hm : 0 ≤ m) (hbS : ∀ c ∈ S.ch, Bd m c.h) (hbD : ∀ c ∈ D.ch, Bd m c.h)
    (h1 : addCE S id sv note p = 0 → ∃ hb, S' = aAddC S ⟨id, sv, note, hb, ck0 p⟩) (h2 : ¬ addCE S id sv note p = 0 → S' = S) (h3 : daddCE D id sv note p = 0 → D' = { D with ch := ins Dc.id ⟨id, sv, note, ck0 p⟩ false D.ch }) (h4 : ¬ daddCE D id sv note p = 0 → D' = D)
    (hA : Agt b S' L') (hD : Dok r D' R') : DoR b r S D m v tags (if daddCE D id sv note p = 0 then { D with ch := ins Dc.id ⟨id, sv, note, ck0 p⟩ false D.ch } else D) (decide (addCE S id sv note p = daddCE D id sv note p)) S' D' L' R' := by
  refine ⟨hA, hD, fun c hc => ?_, fun c hc => ?_, fun hr => ?_, fun P hP hS => ?_, fun s hs => ?_, fun _ => by split <;> first | exact h3 (by assumption) | exact h4 (by assumption)⟩
  · by_cases e : addCE S id sv note p = 0
    · obtain ⟨hb, rfl⟩ := h1 e
      rcases pt_mem hc with rfl | hc
      · exact ck0_bd p (by omega)
      · exact (hbS c hc).le (by omega)
    · rw [h2 e] at hc
      exact (hbS c hc).le (by omega)
  · by_cases e : daddCE D id sv note p = 0
    · rw [h3 e] at hc
      have := (ins_perm (key := Dc.id) (x := ⟨id, sv, note, ck0 p⟩) false D.ch).mem_iff.1 hc
      simp only [Bool.false_eq_true, if_false, List.cons_append, List.nil_append, List.mem_cons] at this
      rcases this with rfl | hm'
      · exact ck0_bd p (by omega)
      · exact (hbD c (List.mem_filter.1 hm').1).le (by omega)
    · rw [h4 e] at hc
      exact (hbD c hc).le (by omega)
  · have he := hr.addCE_eq id sv note p
    refine ⟨decide_eq_true he, ?_⟩
    by_cases e : addCE S id sv note p = 0
    · obtain ⟨hb, rfl⟩ := h1 e
      rw [h3 (he ▸ e)]
      exact hr.addc id sv note hb (ck0 p)
    · rw [h2 e, h4 (he ▸ e)]
      exact hr
  · by_cases e : addCE S id sv note p = 0
    · obtain ⟨hb, rfl⟩ := h1 e
      exact hP.addc S ⟨id, sv, note, hb, ck0 p⟩ p e rfl hS
    · rw [h2 e]; exact hS
  · by_cases e : daddCE D id sv note p = 0
    · rw [h3 e] at hs; exact .inl hs
    · rw [h4 e] at hs; exact .inl hs
theorem DoR.r45 (k : List UInt8) (g : Ck → Ck) (q : Option Ck → Int) (hg : ∀ c n, Bd n c → Bd (n + 1) (g c)) (hg3 : ∀ c, R3 c → R3 (g c)) (hbS : ∀ c ∈ S.ch, Bd m c.h) (hbD : ∀ c ∈ D.ch, Bd m c.h) (hA : Agt b (aHup S k g) L') (hD : Dok r { D with ch := dHup k g D.ch } R') :
    DoR b r S D m v tags { D with ch := dHup k g D.ch } (decide (q ((gt Ch.id S.ch k).map (·.h)) = q ((gt Dc.id D.ch k).map (·.h)))) (aHup S k g) { D with ch := dHup k g D.ch } L' R' :=
  ⟨hA, hD, fun c hc => (hup_bd hbS (fun c h => hg c m h) c hc).le (by omega), fun c hc => (dhup_bd hbD (fun c h => hg c m h) c hc).le (by omega), fun hr => ⟨by rw [← hr.gch k]; cases gt Ch.id S.ch k <;> simp [cdat], hr.hup k g⟩, fun P hP hS => hP.hup _ _ _ hg3 hS, fun s hs => .inl hs, fun _ => rfl⟩
theorem DoR.no (hbS : ∀ c ∈ S.ch, Bd m c.h) (hbD : ∀ c ∈ D.ch, Bd m c.h) (hA : Agt b S L') (hD : Dok r D R') : DoR b r S D m v tags D true S D L' R' :=
  ⟨hA, hD, fun c hc => (hbS c hc).le (by omega), fun c hc => (hbD c hc).le (by omega), fun hr => ⟨rfl, hr⟩, fun P hP hS => hS, fun s hs => .inl hs, fun _ => rfl⟩
theorem DoR.cast {F F' : Dl} {bb : Bool} {S' : Lc} {D' : Dl} (h : DoR b r S D m v tags F bb S' D' L' R') (e : F' = F) : DoR b r S D m v tags F' bb S' D' L' R' := e ▸ h
end
end Go.Proofs.Ytbnkcagcfbpiiaa
set_option linter.unusedSimpArgs false
set_option linter.unusedVariables false
set_option maxRecDepth 100000
set_option maxHeartbeats 8000000
namespace Go.Proofs.Ytbnkcagcfbpiiaa
open Go Go.Proofs Go.RowKit
@[reducible] def stpc (k n sn port smk six cn cst cmk cix : Int) (id sid sname cid csv cnote : List UInt8) (v : Value) (p : Pl) : List Value := [.int .i64 k, .int .i64 n, str id, .int .i64 sn, str sid, str sname, v, .int .i64 port, .int .u64 smk, .int .u64 six, .int .i64 cn, str cid, str csv, str cnote, .int .i64 cst, .int .u64 cmk, .int .u64 cix, .int .i64 p.kind, .int .i64 p.lasts, .int .i64 p.up, .int .i64 p.down, str p.of, .int .i64 p.after]
section
variable {b r : Nat} {S : Lc} {D : Dl} {L R : List (Nat × Obj)} {m : Int} {w : World}
theorem wrap_u64q (n : Int) : ∃ q, IntKind.u64.wrap n = q ∧ 0 ≤ q ∧ q ≤ 18446744073709551615 := by
  refine ⟨_, rfl, ?_⟩
  simp [IntKind.wrap, IntKind.bits, IntKind.signed]
  omega
def ticks : Nat → Dl → Dl
  | 0, D => D
  | i + 1, D => dTick (ticks i D)
/-- What a step makes of the document's agent. -/
def stepD (k n port : Int) (id sid sname cid csv cnote : List UInt8) (v : Value) (tags : List (List UInt8)) (p : Pl) (D : Dl) : Dl :=
  if k = 0 then (if daddE D sid sname tags port = 0 then { D with sv := ins Ds.id ⟨sid, sname, tags, port, v⟩ false D.sv } else D)
  else if k = 1 then drem1 D id
  else if k = 2 then (if daddCE D cid csv cnote p = 0 then { D with ch := ins Dc.id ⟨cid, csv, cnote, ck0 p⟩ false D.ch } else D)
  else if k = 3 then { D with ch := wid id D.ch }
  else if k = 4 then { D with ch := dHup id (fun c => toldC c n) D.ch }
  else if k = 5 then { D with ch := dHup id (fun c => { c with maint := decide (¬ n.tmod 2 = 0) }) D.ch }
  else if k = 6 then ticks (1 + IntKind.u64.wrap n % 4).toNat D
  else D
/-- Some ticks of both. -/
structure TT (b r : Nat) (S : Lc) (D : Dl) (m : Int) (i : Nat) (S' : Lc) (D' : Dl) (L' R' : List (Nat × Obj)) : Prop where
  ag : Agt b S' L'
  dk : Dok r D' R'
  bs : ∀ c ∈ S'.ch, Bd (m + i) c.h
  bd : ∀ c ∈ D'.ch, Bd (m + i) c.h
  rel : Rel S D → Rel S' D'
  clo : ∀ P, Clo P → P S → P S'
  tg : ∀ s ∈ D'.sv, s ∈ D.sv
  fn : D' = ticks i D
theorem DoR.r4 {v : Value} {tags : List (List UInt8)} {L' R' : List (Nat × Obj)} (k : List UInt8) (n : Int) (hbS : ∀ c ∈ S.ch, Bd m c.h) (hbD : ∀ c ∈ D.ch, Bd m c.h) (hA : Agt b (aHup S k (fun c => toldC c n)) L') (hD : Dok r { D with ch := dHup k (fun c => toldC c n) D.ch } R') :
    DoR b r S D m v tags { D with ch := dHup k (fun c => toldC c n) D.ch } (decide ((match gt Ch.id S.ch k with | none => (4 : Int) | some x => toldA x.h n) = match gt Dc.id D.ch k with | none => 4 | some c => toldA c.h n)) (aHup S k (fun c => toldC c n)) { D with ch := dHup k (fun c => toldC c n) D.ch } L' R' := by
  have := DoR.r45 (v := v) (tags := tags) k (fun c => toldC c n) (fun o => match o with | none => 4 | some c => toldA c n) (fun c n h => toldC_bd h) (fun c h => toldC_r3 c n h) hbS hbD hA hD
  revert this
  cases gt Ch.id S.ch k <;> cases gt Dc.id D.ch k <;> exact fun h => h
theorem DoR.r5 {v : Value} {tags : List (List UInt8)} {L' R' : List (Nat × Obj)} (k : List UInt8) (on : Bool) (hbS : ∀ c ∈ S.ch, Bd m c.h) (hbD : ∀ c ∈ D.ch, Bd m c.h) (hA : Agt b (aHup S k (fun c => { c with maint := on })) L') (hD : Dok r { D with ch := dHup k (fun c => { c with maint := on }) D.ch } R') :
    DoR b r S D m v tags { D with ch := dHup k (fun c => { c with maint := on }) D.ch } (decide ((match gt Ch.id S.ch k with | none => (4 : Int) | some _ => 0) = match gt Dc.id D.ch k with | none => 4 | some _ => 0)) (aHup S k (fun c => { c with maint := on })) { D with ch := dHup k (fun c => { c with maint := on }) D.ch } L' R' := by
  have := DoR.r45 (v := v) (tags := tags) k (fun c => { c with maint := on }) (fun o => match o with | none => 4 | some _ => 0) (fun c n h => Bd.le (c := c) (n := n) h (by omega)) (fun c h => h) hbS hbD hA hD
  revert this
  cases gt Ch.id S.ch k <;> cases gt Dc.id D.ch k <;> exact fun h => h
theorem gone_len (zs : List (List UInt8)) (q : Lc × List (List UInt8)) : (zs.foldl gone1 q).2.length ≤ q.2.length + zs.length := by
  induction zs generalizing q with
  | nil => exact Nat.le_refl _
  | cons z zs ih =>
    refine Nat.le_trans (ih _) ?_
    have : (gone1 q z).2.length ≤ q.2.length + 1 := by
      unfold gone1
      split
      · simp
      · omega
    rw [List.length_cons]
    omega
theorem tick_len {S : Lc} (h : S.sv.length ≤ 16) : ((aTick S).2.map rs).length ≤ 9223372036854775807 := by
  have : (aTick S).2.length ≤ ([] : List (List UInt8)).length + (srt (S.sv.map Sv.id)).length := gone_len _ _
  rw [srt_len, List.length_map] at this
  rw [List.length_map]
  simp only [List.length_nil] at this
  omega
theorem dgone_len {D : Dl} (h : D.sv.length ≤ 16) : ((dgone D).map rs).length ≤ 9223372036854775807 := by
  have : (D.sv.filter (dgo (dch2 D.ch))).length ≤ D.sv.length := List.length_filter_le _ _
  unfold dgone
  rw [List.length_map, List.length_map]
  omega
theorem TT.next {i : Nat} {S1 : Lc} {D1 : Dl} {L1 R1 L2 R2 : List (Nat × Obj)} (h : TT b r S D m i S1 D1 L1 R1) (hA : Agt b (aTick S1).1 L2) (hD : Dok r (dTick D1) R2) : TT b r S D m (i + 1) (aTick S1).1 (dTick D1) L2 R2 :=
  ⟨hA, hD, fun c hc => (tick_bd h.bs c hc).le (by omega), fun c hc => (dtick_bd h.bd c hc).le (by omega), fun hr => (h.rel hr).tick.2, fun P hP hS => hP.tick _ (h.clo P hP hS), fun s hs => h.tg s (dtick_sv _ s hs), by rw [h.fn]; rfl⟩
theorem DoR.r6 {v : Value} {tags : List (List UInt8)} {i : Nat} {S1 : Lc} {D1 : Dl} {L1 R1 : List (Nat × Obj)} (hi : i ≤ 4) (h : TT b r S D m i S1 D1 L1 R1) : DoR b r S D m v tags (ticks i D) true S1 D1 L1 R1 :=
  ⟨h.ag, h.dk, fun c hc => (h.bs c hc).le (by omega), fun c hc => (h.bd c hc).le (by omega), fun hr => ⟨rfl, h.rel hr⟩, h.clo, fun s hs => .inl (h.tg s hs), fun _ => h.fn⟩
theorem DoR.r6n {v : Value} {tags : List (List UInt8)} {i : Nat} {S1 : Lc} {D1 : Dl} {L1 R1 L2 R2 : List (Nat × Obj)} {F : Dl} (hi : i < 4) (h : TT b r S D m i S1 D1 L1 R1) (hA : Agt b (aTick S1).1 L2) (hD : Dok r (dTick D1) R2) (hne : ¬ (aTick S1).2 = dgone D1) : DoR b r S D m v tags F false (aTick S1).1 (dTick D1) L2 R2 :=
  have h2 := h.next hA hD
  ⟨hA, hD, fun c hc => (h2.bs c hc).le (by omega), fun c hc => (h2.bd c hc).le (by omega), fun hr => absurd (h.rel hr).tick.1 hne, h2.clo, fun s hs => .inl (h2.tg s hs), fun hr => absurd (h.rel hr).tick.1 hne⟩
theorem addc_any (cn st mk ix : Int) (id sv note : List UInt8) (p : Pl) (hnl : note.length ≤ 9223372036854775807) (h : Agt b S L) (hown : Own w L) :
    Ret Try.prog 16 #[.pointer (some ⟨b, 0, none⟩), .agg #[.int .i64 cn, str id, str sv, str note, .int .i64 st, .int .u64 mk, .int .u64 ix], .agg (plc p).toArray] w fun u w' => u = .int .i64 (addCE S id sv note p) ∧ ∃ S' L', (addCE S id sv note p = 0 → ∃ hb, S' = aAddC S ⟨id, sv, note, hb, ck0 p⟩) ∧ (¬ addCE S id sv note p = 0 → S' = S) ∧ Agt b S' L' ∧ St w (L.map Prod.fst) L' w' := by
  by_cases hp : Pok p
  · exact addc_yes cn st mk ix id sv note p hp hnl h hown
  · exact addc_no cn st mk ix id sv note p hp hnl h hown
theorem do_d (k n sn port smk six cn cst cmk cix : Int) (id sid sname cid csv cnote : List UInt8) (A0 : Option Addr) (n0 c0 : Nat) (tags : List (List UInt8)) (p : Pl) (hm : 0 ≤ m ∧ m ≤ 900000) (hnl : cnote.length ≤ 9223372036854775807)
    (hra : RdA w (.slice A0 n0 c0) 1 (tags.map rs) ((L ++ R).map Prod.fst)) (hbS : ∀ c ∈ S.ch, Bd m c.h) (hbD : ∀ c ∈ D.ch, Bd m c.h) (hA : Agt b S L) (hDk : Dok r D R) (hown : Own w (L ++ R)) :
    Ret Try.prog 10 #[.pointer (some ⟨b, 0, none⟩), .pointer (some ⟨r, 0, none⟩), .agg (stpc k n sn port smk six cn cst cmk cix id sid sname cid csv cnote (.slice A0 n0 c0) p).toArray] w fun u w' => ∃ bb S' D' L' R', u = .bool bb ∧ DoR b r S D m (.slice A0 n0 c0) tags (stepD k n port id sid sname cid csv cnote (.slice A0 n0 c0) tags p D) bb S' D' L' R' ∧ St w ((L ++ R).map Prod.fst) (L' ++ R') w' := by
  have hS := St.init hown
  have hXL : ∀ a ∈ L.map Prod.fst, a ∈ (L ++ R).map Prod.fst := fun a ha => by rw [List.map_append]; exact List.mem_append_left _ ha
  have hXR : ∀ a ∈ R.map Prod.fst, a ∈ (L ++ R).map Prod.fst := fun a ha => by rw [List.map_append]; exact List.mem_append_right _ ha
  generalize hX : (L ++ R).map Prod.fst = X at hS hra hXL hXR ⊢
  have hbS' : ∀ c ∈ S.ch, Bd 1000000 c.h := fun c hc => (hbS c hc).le (by omega)
  have hbD' : ∀ c ∈ D.ch, Bd 1000000 c.h := fun c hc => (hbD c hc).le (by omega)
  refine Ret.enter Try.func10 Try.ntmps10 rfl rfl ?_
  simp only [argEnv, Nat.reduceAdd]
  refine SatC.seq ?_
  refine SatC.region ?_
  refine SatL.op rfl (OpW.box hS rfl rfl (by repeat constructor) ?_)
  clear hS
  intro b5 w1 _ hS
  refine SatL.pu (RunV.assign rfl) rfl ?_
  refine SatL.nil (SatE.thenC ?_)
  refine SatC.seq ?_
  refine SatC.seq ?_
  refine SatC.region ?_
  first | refine SatL.pu (RunV.fieldAddrL rfl rfl rfl) rfl ?_ | refine SatL.pu (RunV.fieldAddr rfl rfl rfl) rfl ?_
  refine SatL.pu (RunV.load1 hS rfl rfl (by repeat constructor) rfl) rfl ?_
  refine SatL.nil (SatE.thenC ?_)
  refine SatC.block ?_
  refine SatC.seq ?_
  refine SatC.region ?_
  refine SatL.pu (RunV.eql rfl rfl) rfl ?_
  refine SatL.pu (RunV.assign rfl) rfl ?_
  refine SatL.nil (SatE.thenC ?_)
  refine SatC.cond rfl (fun h1 => ?_) (fun h1 => ?_)
  · (try simp only [cx, ne_eq] at h1)
    try (exfalso; (first | omega | exact h1 trivial | contradiction | (first | omega | (simp at h1; done))); done)
    all_goals
    refine SatC.seq ?_
    refine SatC.drawnT 10 hS (hS.sel (R := [(b5, C 36 (stpc k n sn port smk six cn cst cmk cix id sid sname cid csv cnote (.slice A0 n0 c0) p))]) (by repeat constructor)) (by kernel_rfl) ?_
    clear hS
    intro w2 hh hS hD
    refine SatD.tk 0 rfl hD (fun _ hw => RunV.move rfl) ?_
    first | refine SatD.tk 1 rfl hD (fun _ hw => RunV.fieldAddrL rfl rfl rfl) ?_ | refine SatD.tk 1 rfl hD (fun _ hw => RunV.fieldAddr rfl rfl rfl) ?_
    refine SatD.tk 2 rfl hD (fun _ hw => RunV.loadN hw rfl rfl (by repeat constructor) (by repeat constructor)) ?_
    refine SatD.tk 4 rfl hD (fun _ hw => RunV.move rfl) ?_
    first | refine SatD.tk 5 rfl hD (fun _ hw => RunV.fieldAddrL rfl rfl rfl) ?_ | refine SatD.tk 5 rfl hD (fun _ hw => RunV.fieldAddr rfl rfl rfl) ?_
    refine SatD.tk 6 rfl hD (fun _ hw => RunV.loadN hw rfl rfl (by repeat constructor) (by repeat constructor)) ?_
    refine SatD.ef 3 rfl (OpW.enter rfl rfl rfl (rfl) (add_d sn port smk six sid sname tags (.slice A0 n0 c0) (hra.to hS hXL) rfl hA (hS.ownT (A := L) (by repeat constructor))) ?_)
    rintro r3 w3 ⟨rfl, S1, L1, h1a, h1b, hA1, h⟩
    replace hS := hS.callT (A := L) (by repeat constructor) h
    refine keepS (hS.sel (by repeat constructor)) (fun hD => ?_)
    refine SatD.ef 7 rfl (OpW.enter rfl rfl rfl (rfl) (dadd_ref sn port smk six sid sname tags A0 n0 c0 (hra.to hS hXR) hDk (hS.ownT (A := R) (by repeat constructor))) ?_)
    rintro r4 w4 ⟨rfl, D1, R1, h3a, h3b, hD1, h⟩
    replace hS := hS.callT (A := R) (by repeat constructor) h
    refine keepS (hS.sel (by repeat constructor)) (fun hD => ?_)
    refine SatD.tk 8 rfl hD (fun _ hw => RunV.eql rfl rfl) ?_
    refine SatD.tk 9 rfl hD (fun _ hw => RunV.assign rfl) ?_
    refine SatD.done 0 (by kernel_rfl) (SatE.thenC ?_)
    clear hD
    refine SatC.ret (SatE.blk_ret (SatE.then_ret ?_))
    refine SatE.ret1 rfl rfl ?_
    exact ⟨_, S1, D1, L1, R1, rfl, (DoR.r0 hbS hbD h1a h1b h3a h3b hA1 hD1).cast (by unfold stepD; simp only [h1, if_true]), hS.sel (by repeat constructor)⟩
  · (try simp only [cx, ne_eq] at h1)
    try (exfalso; (first | omega | exact h1 trivial | contradiction | (first | omega | (simp at h1; done))); done)
    all_goals
    refine SatC.seq ?_
    refine SatC.region ?_
    refine SatL.pu (RunV.eql rfl rfl) rfl ?_
    refine SatL.pu (RunV.assign rfl) rfl ?_
    refine SatL.nil (SatE.thenC ?_)
    refine SatC.cond rfl (fun h2 => ?_) (fun h2 => ?_)
    · (try simp only [cx, ne_eq] at h2)
      try (exfalso; (first | omega | exact h2 trivial | contradiction | (first | omega | (simp at h2; done))); done)
      all_goals
      refine SatC.seq ?_
      refine SatC.drawnT 10 hS (hS.sel (R := [(b5, C 36 (stpc k n sn port smk six cn cst cmk cix id sid sname cid csv cnote (.slice A0 n0 c0) p))]) (by repeat constructor)) (by kernel_rfl) ?_
      clear hS
      intro w2 hh hS hD
      refine SatD.tk 0 rfl hD (fun _ hw => RunV.move rfl) ?_
      first | refine SatD.tk 1 rfl hD (fun _ hw => RunV.fieldAddrL rfl rfl rfl) ?_ | refine SatD.tk 1 rfl hD (fun _ hw => RunV.fieldAddr rfl rfl rfl) ?_
      refine SatD.tk 2 rfl hD (fun _ hw => RunV.load1 hw rfl rfl (by repeat constructor) rfl) ?_
      refine SatD.tk 4 rfl hD (fun _ hw => RunV.move rfl) ?_
      first | refine SatD.tk 5 rfl hD (fun _ hw => RunV.fieldAddrL rfl rfl rfl) ?_ | refine SatD.tk 5 rfl hD (fun _ hw => RunV.fieldAddr rfl rfl rfl) ?_
      refine SatD.tk 6 rfl hD (fun _ hw => RunV.load1 hw rfl rfl (by repeat constructor) rfl) ?_
      refine SatD.ef 3 rfl (OpW.enter rfl rfl rfl (rfl) (rem_d id hA (hS.ownT (A := L) (by repeat constructor))) ?_)
      rintro r3 w3 ⟨rfl, L1, hA1, h⟩
      replace hS := hS.callT (A := L) (by repeat constructor) h
      refine keepS (hS.sel (by repeat constructor)) (fun hD => ?_)
      refine SatD.ef 7 rfl (OpW.enter rfl rfl rfl (rfl) (drem_ref id hDk (hS.ownT (A := R) (by repeat constructor))) ?_)
      rintro r4 w4 ⟨rfl, R1, hD1, h⟩
      replace hS := hS.callT (A := R) (by repeat constructor) h
      refine keepS (hS.sel (by repeat constructor)) (fun hD => ?_)
      refine SatD.tk 8 rfl hD (fun _ hw => RunV.eql rfl rfl) ?_
      refine SatD.tk 9 rfl hD (fun _ hw => RunV.assign rfl) ?_
      refine SatD.done 0 (by kernel_rfl) (SatE.thenC ?_)
      clear hD
      refine SatC.ret (SatE.blk_ret (SatE.then_ret ?_))
      refine SatE.ret1 rfl rfl ?_
      exact ⟨_, _, _, L1, R1, rfl, (DoR.r1 id hbS hbD hA1 hD1).cast (by unfold stepD; rw [if_neg (by omega), if_pos (by omega)]), hS.sel (by repeat constructor)⟩
    · (try simp only [cx, ne_eq] at h2)
      try (exfalso; (first | omega | exact h2 trivial | contradiction | (first | omega | (simp at h2; done))); done)
      all_goals
      refine SatC.seq ?_
      refine SatC.region ?_
      refine SatL.pu (RunV.eql rfl rfl) rfl ?_
      refine SatL.pu (RunV.assign rfl) rfl ?_
      refine SatL.nil (SatE.thenC ?_)
      refine SatC.cond rfl (fun h3 => ?_) (fun h3 => ?_)
      · (try simp only [cx, ne_eq] at h3)
        try (exfalso; (first | omega | exact h3 trivial | contradiction | (first | omega | (simp at h3; done))); done)
        all_goals
        refine SatC.seq ?_
        refine SatC.drawnT 14 hS (hS.sel (R := [(b5, C 36 (stpc k n sn port smk six cn cst cmk cix id sid sname cid csv cnote (.slice A0 n0 c0) p))]) (by repeat constructor)) (by kernel_rfl) ?_
        clear hS
        intro w2 hh hS hD
        refine SatD.tk 0 rfl hD (fun _ hw => RunV.move rfl) ?_
        first | refine SatD.tk 1 rfl hD (fun _ hw => RunV.fieldAddrL rfl rfl rfl) ?_ | refine SatD.tk 1 rfl hD (fun _ hw => RunV.fieldAddr rfl rfl rfl) ?_
        refine SatD.tk 2 rfl hD (fun _ hw => RunV.loadN hw rfl rfl (by repeat constructor) (by repeat constructor)) ?_
        first | refine SatD.tk 3 rfl hD (fun _ hw => RunV.fieldAddrL rfl rfl rfl) ?_ | refine SatD.tk 3 rfl hD (fun _ hw => RunV.fieldAddr rfl rfl rfl) ?_
        refine SatD.tk 4 rfl hD (fun _ hw => RunV.loadN hw rfl rfl (by repeat constructor) (by repeat constructor)) ?_
        refine SatD.tk 6 rfl hD (fun _ hw => RunV.move rfl) ?_
        first | refine SatD.tk 7 rfl hD (fun _ hw => RunV.fieldAddrL rfl rfl rfl) ?_ | refine SatD.tk 7 rfl hD (fun _ hw => RunV.fieldAddr rfl rfl rfl) ?_
        refine SatD.tk 8 rfl hD (fun _ hw => RunV.loadN hw rfl rfl (by repeat constructor) (by repeat constructor)) ?_
        first | refine SatD.tk 9 rfl hD (fun _ hw => RunV.fieldAddrL rfl rfl rfl) ?_ | refine SatD.tk 9 rfl hD (fun _ hw => RunV.fieldAddr rfl rfl rfl) ?_
        refine SatD.tk 10 rfl hD (fun _ hw => RunV.loadN hw rfl rfl (by repeat constructor) (by repeat constructor)) ?_
        refine SatD.ef 5 rfl (OpW.enter rfl rfl rfl (rfl) (addc_any cn cst cmk cix cid csv cnote p hnl hA (hS.ownT (A := L) (by repeat constructor))) ?_)
        rintro r3 w3 ⟨rfl, S1, L1, h1a, h1b, hA1, h⟩
        replace hS := hS.callT (A := L) (by repeat constructor) h
        refine keepS (hS.sel (by repeat constructor)) (fun hD => ?_)
        refine SatD.ef 11 rfl (OpW.enter rfl rfl rfl (rfl) (daddc_ref cn cst cmk cix cid csv cnote p hnl hDk (hS.ownT (A := R) (by repeat constructor))) ?_)
        rintro r4 w4 ⟨rfl, D1, R1, h3a, h3b, hD1, h⟩
        replace hS := hS.callT (A := R) (by repeat constructor) h
        refine keepS (hS.sel (by repeat constructor)) (fun hD => ?_)
        refine SatD.tk 12 rfl hD (fun _ hw => RunV.eql rfl rfl) ?_
        refine SatD.tk 13 rfl hD (fun _ hw => RunV.assign rfl) ?_
        refine SatD.done 0 (by kernel_rfl) (SatE.thenC ?_)
        clear hD
        refine SatC.ret (SatE.blk_ret (SatE.then_ret ?_))
        refine SatE.ret1 rfl rfl ?_
        exact ⟨_, S1, D1, L1, R1, rfl, (DoR.r2 hm.1 hbS hbD h1a h1b h3a h3b hA1 hD1).cast (by unfold stepD; rw [if_neg (by omega), if_neg (by omega), if_pos (by omega)]), hS.sel (by repeat constructor)⟩
      · (try simp only [cx, ne_eq] at h3)
        try (exfalso; (first | omega | exact h3 trivial | contradiction | (first | omega | (simp at h3; done))); done)
        all_goals
        refine SatC.seq ?_
        refine SatC.region ?_
        refine SatL.pu (RunV.eql rfl rfl) rfl ?_
        refine SatL.pu (RunV.assign rfl) rfl ?_
        refine SatL.nil (SatE.thenC ?_)
        refine SatC.cond rfl (fun h4 => ?_) (fun h4 => ?_)
        · (try simp only [cx, ne_eq] at h4)
          try (exfalso; (first | omega | exact h4 trivial | contradiction | (first | omega | (simp at h4; done))); done)
          all_goals
          refine SatC.seq ?_
          refine SatC.drawnT 10 hS (hS.sel (R := [(b5, C 36 (stpc k n sn port smk six cn cst cmk cix id sid sname cid csv cnote (.slice A0 n0 c0) p))]) (by repeat constructor)) (by kernel_rfl) ?_
          clear hS
          intro w2 hh hS hD
          refine SatD.tk 0 rfl hD (fun _ hw => RunV.move rfl) ?_
          first | refine SatD.tk 1 rfl hD (fun _ hw => RunV.fieldAddrL rfl rfl rfl) ?_ | refine SatD.tk 1 rfl hD (fun _ hw => RunV.fieldAddr rfl rfl rfl) ?_
          refine SatD.tk 2 rfl hD (fun _ hw => RunV.load1 hw rfl rfl (by repeat constructor) rfl) ?_
          refine SatD.tk 4 rfl hD (fun _ hw => RunV.move rfl) ?_
          first | refine SatD.tk 5 rfl hD (fun _ hw => RunV.fieldAddrL rfl rfl rfl) ?_ | refine SatD.tk 5 rfl hD (fun _ hw => RunV.fieldAddr rfl rfl rfl) ?_
          refine SatD.tk 6 rfl hD (fun _ hw => RunV.load1 hw rfl rfl (by repeat constructor) rfl) ?_
          refine SatD.ef 3 rfl (OpW.enter rfl rfl rfl (rfl) (delc_d id hA (hS.ownT (A := L) (by repeat constructor))) ?_)
          rintro r3 w3 ⟨rfl, L1, hA1, h⟩
          replace hS := hS.callT (A := L) (by repeat constructor) h
          refine keepS (hS.sel (by repeat constructor)) (fun hD => ?_)
          refine SatD.ef 7 rfl (OpW.enter rfl rfl rfl (rfl) (ddelc_ref id hDk (hS.ownT (A := R) (by repeat constructor))) ?_)
          rintro r4 w4 ⟨rfl, R1, hD1, h⟩
          replace hS := hS.callT (A := R) (by repeat constructor) h
          refine keepS (hS.sel (by repeat constructor)) (fun hD => ?_)
          refine SatD.tk 8 rfl hD (fun _ hw => RunV.eql rfl rfl) ?_
          refine SatD.tk 9 rfl hD (fun _ hw => RunV.assign rfl) ?_
          refine SatD.done 0 (by kernel_rfl) (SatE.thenC ?_)
          clear hD
          refine SatC.ret (SatE.blk_ret (SatE.then_ret ?_))
          refine SatE.ret1 rfl rfl ?_
          exact ⟨_, _, _, L1, R1, rfl, (DoR.r3 id hbS hbD hA1 hD1).cast (by unfold stepD; rw [if_neg (by omega), if_neg (by omega), if_neg (by omega), if_pos (by omega)]), hS.sel (by repeat constructor)⟩
        · (try simp only [cx, ne_eq] at h4)
          try (exfalso; (first | omega | exact h4 trivial | contradiction | (first | omega | (simp at h4; done))); done)
          all_goals
          refine SatC.seq ?_
          refine SatC.region ?_
          refine SatL.pu (RunV.eql rfl rfl) rfl ?_
          refine SatL.pu (RunV.assign rfl) rfl ?_
          refine SatL.nil (SatE.thenC ?_)
          refine SatC.cond rfl (fun h5 => ?_) (fun h5 => ?_)
          · (try simp only [cx, ne_eq] at h5)
            try (exfalso; (first | omega | exact h5 trivial | contradiction | (first | omega | (simp at h5; done))); done)
            all_goals
            refine SatC.seq ?_
            refine SatC.weak (e' := [(0, _), (1, _), (5, _), (6, _)]) (by repeat constructor) ?_
            refine SatC.drawnT 14 hS (hS.sel (R := [(b5, C 36 (stpc k n sn port smk six cn cst cmk cix id sid sname cid csv cnote (.slice A0 n0 c0) p))]) (by repeat constructor)) (by kernel_rfl) ?_
            clear hS
            intro w2 hh hS hD
            refine SatD.tk 0 rfl hD (fun _ hw => RunV.move rfl) ?_
            first | refine SatD.tk 1 rfl hD (fun _ hw => RunV.fieldAddrL rfl rfl rfl) ?_ | refine SatD.tk 1 rfl hD (fun _ hw => RunV.fieldAddr rfl rfl rfl) ?_
            refine SatD.tk 2 rfl hD (fun _ hw => RunV.load1 hw rfl rfl (by repeat constructor) rfl) ?_
            first | refine SatD.tk 3 rfl hD (fun _ hw => RunV.fieldAddrL rfl rfl rfl) ?_ | refine SatD.tk 3 rfl hD (fun _ hw => RunV.fieldAddr rfl rfl rfl) ?_
            refine SatD.tk 4 rfl hD (fun _ hw => RunV.load1 hw rfl rfl (by repeat constructor) rfl) ?_
            refine SatD.tk 6 rfl hD (fun _ hw => RunV.move rfl) ?_
            first | refine SatD.tk 7 rfl hD (fun _ hw => RunV.fieldAddrL rfl rfl rfl) ?_ | refine SatD.tk 7 rfl hD (fun _ hw => RunV.fieldAddr rfl rfl rfl) ?_
            refine SatD.tk 8 rfl hD (fun _ hw => RunV.load1 hw rfl rfl (by repeat constructor) rfl) ?_
            first | refine SatD.tk 9 rfl hD (fun _ hw => RunV.fieldAddrL rfl rfl rfl) ?_ | refine SatD.tk 9 rfl hD (fun _ hw => RunV.fieldAddr rfl rfl rfl) ?_
            refine SatD.tk 10 rfl hD (fun _ hw => RunV.load1 hw rfl rfl (by repeat constructor) rfl) ?_
            refine SatD.ef 5 rfl (OpW.enter rfl rfl rfl (rfl) (told_d id n hbS' hA (hS.ownT (A := L) (by repeat constructor))) ?_)
            rintro r3 w3 ⟨rfl, L1, hA1, h⟩
            replace hS := hS.callT (A := L) (by repeat constructor) h
            refine keepS (hS.sel (by repeat constructor)) (fun hD => ?_)
            refine SatD.ef 11 rfl (OpW.enter rfl rfl rfl (rfl) (dtold_ref id n hbD' hDk (hS.ownT (A := R) (by repeat constructor))) ?_)
            rintro r4 w4 ⟨rfl, R1, hD1, h⟩
            replace hS := hS.callT (A := R) (by repeat constructor) h
            refine keepS (hS.sel (by repeat constructor)) (fun hD => ?_)
            refine SatD.tk 12 rfl hD (fun _ hw => RunV.eql rfl rfl) ?_
            refine SatD.tk 13 rfl hD (fun _ hw => RunV.assign rfl) ?_
            refine SatD.done 0 (by kernel_rfl) (SatE.thenC ?_)
            clear hD
            refine SatC.ret (SatE.blk_ret (SatE.then_ret ?_))
            refine SatE.ret1 rfl rfl ?_
            exact ⟨_, _, _, L1, R1, rfl, (DoR.r4 id n hbS hbD hA1 hD1).cast (by unfold stepD; rw [if_neg (by omega), if_neg (by omega), if_neg (by omega), if_neg (by omega), if_pos (by omega)]), hS.sel (by repeat constructor)⟩
          · (try simp only [cx, ne_eq] at h5)
            try (exfalso; (first | omega | exact h5 trivial | contradiction | (first | omega | (simp at h5; done))); done)
            all_goals
            refine SatC.seq ?_
            refine SatC.weak (e' := [(0, _), (1, _), (5, _), (6, _), (9, _)]) (by repeat constructor) ?_
            refine SatC.region ?_
            refine SatL.pu (RunV.eql rfl rfl) rfl ?_
            refine SatL.pu (RunV.assign rfl) rfl ?_
            refine SatL.nil (SatE.thenC ?_)
            refine SatC.cond rfl (fun h6 => ?_) (fun h6 => ?_)
            · (try simp only [cx, ne_eq] at h6)
              try (exfalso; (first | omega | exact h6 trivial | contradiction | (first | omega | (simp at h6; done))); done)
              all_goals
              refine SatC.seq ?_
              refine SatC.drawnT 18 hS (hS.sel (R := [(b5, C 36 (stpc k n sn port smk six cn cst cmk cix id sid sname cid csv cnote (.slice A0 n0 c0) p))]) (by repeat constructor)) (by kernel_rfl) ?_
              clear hS
              intro w2 hh hS hD
              refine SatD.tk 0 rfl hD (fun _ hw => RunV.move rfl) ?_
              first | refine SatD.tk 1 rfl hD (fun _ hw => RunV.fieldAddrL rfl rfl rfl) ?_ | refine SatD.tk 1 rfl hD (fun _ hw => RunV.fieldAddr rfl rfl rfl) ?_
              refine SatD.tk 2 rfl hD (fun _ hw => RunV.load1 hw rfl rfl (by repeat constructor) rfl) ?_
              first | refine SatD.tk 3 rfl hD (fun _ hw => RunV.fieldAddrL rfl rfl rfl) ?_ | refine SatD.tk 3 rfl hD (fun _ hw => RunV.fieldAddr rfl rfl rfl) ?_
              refine SatD.tk 4 rfl hD (fun _ hw => RunV.load1 hw rfl rfl (by repeat constructor) rfl) ?_
              refine SatD.tk 5 rfl hD (fun _ hw => RunV.rem rfl rfl (by first | decide | omega) rfl) ?_
              refine SatD.tk 6 rfl hD (fun _ hw => RunV.neq rfl rfl) ?_
              refine SatD.tk 8 rfl hD (fun _ hw => RunV.move rfl) ?_
              first | refine SatD.tk 9 rfl hD (fun _ hw => RunV.fieldAddrL rfl rfl rfl) ?_ | refine SatD.tk 9 rfl hD (fun _ hw => RunV.fieldAddr rfl rfl rfl) ?_
              refine SatD.tk 10 rfl hD (fun _ hw => RunV.load1 hw rfl rfl (by repeat constructor) rfl) ?_
              first | refine SatD.tk 11 rfl hD (fun _ hw => RunV.fieldAddrL rfl rfl rfl) ?_ | refine SatD.tk 11 rfl hD (fun _ hw => RunV.fieldAddr rfl rfl rfl) ?_
              refine SatD.tk 12 rfl hD (fun _ hw => RunV.load1 hw rfl rfl (by repeat constructor) rfl) ?_
              refine SatD.tk 13 rfl hD (fun _ hw => RunV.rem rfl rfl (by first | decide | omega) rfl) ?_
              refine SatD.tk 14 rfl hD (fun _ hw => RunV.neq rfl rfl) ?_
              refine SatD.ef 7 rfl (OpW.enter rfl rfl rfl (rfl) (maintain_d id _ hbS' hA (hS.ownT (A := L) (by repeat constructor))) ?_)
              rintro r3 w3 ⟨rfl, L1, hA1, h⟩
              replace hS := hS.callT (A := L) (by repeat constructor) h
              refine keepS (hS.sel (by repeat constructor)) (fun hD => ?_)
              refine SatD.ef 15 rfl (OpW.enter rfl rfl rfl (rfl) (dmnt_ref id _ hDk (hS.ownT (A := R) (by repeat constructor))) ?_)
              rintro r4 w4 ⟨rfl, R1, hD1, h⟩
              replace hS := hS.callT (A := R) (by repeat constructor) h
              refine keepS (hS.sel (by repeat constructor)) (fun hD => ?_)
              refine SatD.tk 16 rfl hD (fun _ hw => RunV.eql rfl rfl) ?_
              refine SatD.tk 17 rfl hD (fun _ hw => RunV.assign rfl) ?_
              refine SatD.done 0 (by kernel_rfl) (SatE.thenC ?_)
              clear hD
              refine SatC.ret (SatE.blk_ret (SatE.then_ret ?_))
              refine SatE.ret1 rfl rfl ?_
              exact ⟨_, _, _, L1, R1, rfl, (DoR.r5 id _ hbS hbD hA1 hD1).cast (by unfold stepD; rw [if_neg (by omega), if_neg (by omega), if_neg (by omega), if_neg (by omega), if_neg (by omega), if_pos (by omega)]), hS.sel (by repeat constructor)⟩
            · (try simp only [cx, ne_eq] at h6)
              try (exfalso; (first | omega | exact h6 trivial | contradiction | (first | omega | (simp at h6; done))); done)
              all_goals
              refine SatC.seq ?_
              refine SatC.region ?_
              refine SatL.pu (RunV.eql rfl rfl) rfl ?_
              refine SatL.pu (RunV.assign rfl) rfl ?_
              refine SatL.nil (SatE.thenC ?_)
              refine SatC.cond rfl (fun h7 => ?_) (fun h7 => ?_)
              · (try simp only [cx, ne_eq] at h7)
                try (exfalso; (first | omega | exact h7 trivial | contradiction | (first | omega | (simp at h7; done))); done)
                all_goals
                refine SatC.seq ?_
                obtain ⟨wq, hwq, hq0, hq1⟩ := wrap_u64q n
                refine SatC.region ?_
                refine SatL.pu (RunV.assign rfl) rfl ?_
                refine SatL.nil (SatE.thenC ?_)
                refine SatC.block ?_
                refine SatC.loopK (G := Nat × Lc × Dl × List (Nat × Obj) × List (Nat × Obj)) (V := fun ⟨i, S1, D1, L1, R1⟩ => [(7, .int .i64 (i : Int))]) (Cn := [(0, _), (1, _), (5, _), (6, _)]) (I := fun ⟨i, S1, D1, L1, R1⟩ w' => (i : Int) ≤ 1 + wq % 4 ∧ TT b r S D m i S1 D1 L1 R1 ∧ St w X (L1 ++ ((b5, C 36 (stpc k n sn port smk six cn cst cmk cix id sid sname cid csv cnote (.slice A0 n0 c0) p)) :: R1)) w') (μ := fun ⟨i, S1, D1, L1, R1⟩ => (1 + wq % 4).toNat - i) (0, S, D, L, R) ?_ (by repeat constructor) ?_
                · exact ⟨by omega, ⟨hA, hDk, fun c hc => (hbS c hc).le (by omega), fun c hc => (hbD c hc).le (by omega), fun h => h, fun P _ h => h, fun s h => h, rfl⟩, hS.sel (by repeat constructor)⟩
                clear hS
                rintro ⟨i, S1, D1, L1, R1⟩ w2 ⟨hi, hT, hS⟩
                refine SatC.weak (e' := [(0, _), (1, _), (5, _), (6, _), (7, _)]) (by repeat constructor) ?_
                refine SatC.seq ?_
                refine SatC.seq ?_
                refine SatC.region ?_
                refine SatL.pu (RunV.move rfl) rfl ?_
                first | refine SatL.pu (RunV.fieldAddrL rfl rfl rfl) rfl ?_ | refine SatL.pu (RunV.fieldAddr rfl rfl rfl) rfl ?_
                refine SatL.pu (RunV.load1 hS rfl rfl (by repeat constructor) rfl) rfl ?_
                refine SatL.pu (RunV.conv rfl rfl rfl hwq) rfl ?_
                refine SatL.pu (RunV.remP rfl rfl hq0 (by decide)) rfl ?_
                refine SatL.pu (RunV.conv rfl rfl rfl (wrapI64 (by omega))) rfl ?_
                refine SatL.pu (RunV.add rfl rfl (by first | exact wrapI64 (by omega) | rfl)) rfl ?_
                refine SatL.pu (RunV.lss rfl rfl) rfl ?_
                refine SatL.nil (SatE.thenC ?_)
                refine SatC.cond rfl (fun h8 => ?_) (fun h8 => ?_)
                · (try simp only [cx, ne_eq] at h8)
                  try (exfalso; (first | omega | exact h8 trivial | contradiction | (first | omega | (simp at h8; done))); done)
                  all_goals
                  refine SatC.skip (SatE.thenC ?_)
                  refine SatC.seq ?_
                  refine SatC.block ?_
                  refine SatC.seq ?_
                  refine SatC.region ?_
                  refine SatL.pu (RunV.move rfl) rfl ?_
                  refine SatL.op rfl (OpW.enter rfl rfl rfl (rfl) (tick_d (fun c hc => (hT.bs c hc).le (by omega)) hT.ag (hS.ownT (A := L1) (by repeat constructor))) ?_)
                  rintro r3 w3 ⟨GB, L2, hsg, hA2, h⟩
                  replace hS := hS.callT (A := L1) (by repeat constructor) h
                  simp only [List.append_assoc] at hS
                  refine SatL.pu (RunV.move rfl) rfl ?_
                  refine SatL.op rfl (OpW.enter rfl rfl rfl (rfl) (dtick_ref (fun c hc => (hT.bd c hc).le (by omega)) hT.dk (hS.ownT (A := R1) (by repeat constructor))) ?_)
                  rintro r4 w4 ⟨GD, R2, hsd, hD2, h⟩
                  replace hS := hS.callT (A := R1) (by repeat constructor) h
                  simp only [List.append_assoc] at hS
                  refine SatL.op rfl (OpW.enter rfl rfl rfl (rfl) (same_ref _ _ (aTick S1).2 (dgone D1) _ (hsg.row hS (by repeat constructor) (tick_len hT.ag.s16)) (hsd.row hS (by repeat constructor) (dgone_len hT.dk.s16))) ?_)
                  rintro r5 w5 ⟨rfl, h⟩
                  replace hS := St.callN hS h
                  refine SatL.pu (RunV.not rfl) rfl ?_
                  refine SatL.nil (SatE.thenC ?_)
                  refine SatC.weak (e' := [(0, _), (1, _), (5, _), (6, _), (7, _), (109, _)]) (by repeat constructor) ?_
                  refine SatC.cond rfl (fun h9 => ?_) (fun h9 => ?_)
                  · (try simp only [cx, ne_eq] at h9)
                    try (exfalso; (first | omega | exact h9 trivial | contradiction | (first | omega | (simp at h9; done))); done)
                    all_goals
                    refine SatC.seq ?_
                    refine SatC.region ?_
                    refine SatL.pu (RunV.assign rfl) rfl ?_
                    refine SatL.nil (SatE.thenC ?_)
                    refine SatC.ret (SatE.blk_ret (SatE.then_ret (SatE.then_ret (SatE.blk_ret (SatE.blk_ret (SatE.then_ret ?_))))))
                    refine SatE.ret1 rfl rfl ?_
                    exact ⟨_, _, _, L2, R2, rfl, DoR.r6n (by omega) hT hA2 hD2 (by assumption), hS.sel (by repeat constructor)⟩
                  · (try simp only [cx, ne_eq] at h9)
                    try (exfalso; (first | omega | exact h9 trivial | contradiction | (first | omega | (simp at h9; done))); done)
                    all_goals
                    refine SatC.skip (SatE.blk_normal (SatE.thenC ?_))
                    refine SatC.region ?_
                    refine SatL.pu (RunV.move rfl) rfl ?_
                    refine SatL.pu (RunV.add rfl rfl (by first | exact wrapI64 (by omega) | rfl)) rfl ?_
                    refine SatL.pu (RunV.assign rfl) rfl ?_
                    refine SatL.nil ?_
                    refine SatE.again ((i + 1, (aTick S1).1, dTick D1, L2, R2)) ?_ (by first | omega | (dsimp only; omega)) (by repeat constructor)
                    exact ⟨by omega, hT.next hA2 hD2, hS.sel (by repeat constructor)⟩
                · (try simp only [cx, ne_eq] at h8)
                  try (exfalso; (first | omega | exact h8 trivial | contradiction | (first | omega | (simp at h8; done))); done)
                  all_goals
                  refine SatC.exit (SatE.then_exit (SatE.then_exit (SatE.blk_exit (SatE.blk_normal (SatE.thenC ?_)))))
                  refine SatC.seq ?_
                  refine SatC.weak (e' := [(6, _)]) (by repeat constructor) ?_
                  refine SatC.region ?_
                  refine SatL.pu (RunV.assign rfl) rfl ?_
                  refine SatL.nil (SatE.thenC ?_)
                  refine SatC.ret ?_
                  refine SatE.ret1 rfl rfl ?_
                  exact ⟨_, S1, D1, L1, R1, rfl, (DoR.r6 (by omega) hT).cast (by unfold stepD; rw [if_neg (by omega), if_neg (by omega), if_neg (by omega), if_neg (by omega), if_neg (by omega), if_neg (by omega), if_pos (by omega), hwq, show (1 + wq % 4).toNat = i from by omega]), hS.sel (by repeat constructor)⟩
              · (try simp only [cx, ne_eq] at h7)
                try (exfalso; (first | omega | exact h7 trivial | contradiction | (first | omega | (simp at h7; done))); done)
                all_goals
                refine SatC.skip (SatE.blk_normal (SatE.thenC ?_))
                refine SatC.seq ?_
                refine SatC.region ?_
                refine SatL.pu (RunV.assign rfl) rfl ?_
                refine SatL.nil (SatE.thenC ?_)
                refine SatC.ret ?_
                refine SatE.ret1 rfl rfl ?_
                exact ⟨_, S, D, L, R, rfl, (DoR.no hbS hbD hA hDk).cast (by unfold stepD; rw [if_neg (by omega), if_neg (by omega), if_neg (by omega), if_neg (by omega), if_neg (by omega), if_neg (by omega), if_neg (by omega)]), hS.sel (by repeat constructor)⟩
end
end Go.Proofs.Ytbnkcagcfbpiiaa
set_option linter.unusedSimpArgs false
set_option linter.unusedVariables false
set_option maxRecDepth 100000
set_option maxHeartbeats 8000000
namespace Go.Proofs.Ytbnkcagcfbpiiaa
open Go Go.Proofs Go.RowKit
theorem fm_self {α β : Type} {key : α → List UInt8} (f : α → β) (l : List α) (h : (l.map key).Nodup) : (l.map key).filterMap (fun k => (gt key l k).map f) = l.map f := by
  have : ∀ m : List α, (∀ x ∈ m, x ∈ l) → (m.map key).filterMap (fun k => (gt key l k).map f) = m.map f := by
    intro m
    induction m with
    | nil => intro _; rfl
    | cons x m ih =>
      intro hm
      rw [List.map_cons, List.filterMap_cons, gt_of_mem h (hm x List.mem_cons_self)]
      simp only [Option.map_some]
      rw [ih fun y hy => hm y (List.mem_cons_of_mem _ hy), List.map_cons]
  exact this l fun x hx => hx
section
variable {S : Lc} {D : Dl}
theorem Rel.ordS (h : Rel S D) : (ordS S.sv).map sdat = D.sv.map ddat := by
  unfold Ytbnkcagcfbpiiaa.ordS
  rw [srt_ids h.svids h.ssv, List.map_filterMap]
  rw [show (fun k => (gt Sv.id S.sv k).map sdat) = fun k => (gt Ds.id D.sv k).map ddat from funext h.gsv]
  exact fm_self ddat D.sv h.ssv.nodup
theorem Rel.ordC (h : Rel S D) : (ordC S.ch).map cdat = D.ch := by
  unfold Ytbnkcagcfbpiiaa.ordC
  rw [srt_ids h.chids h.sch, List.map_filterMap]
  rw [show (fun k => (gt Ch.id S.ch k).map cdat) = fun k => (gt Dc.id D.ch k).map id from funext fun k => by rw [h.gch k]; simp]
  have := fm_self id D.ch h.sch.nodup
  rwa [List.map_id] at this
end
def tocs (c : Dc) : Cs := ⟨c.id, c.svc, c.note, stat c.h⟩
theorem ordC_cs {n : Int} {l : List Ch} {d : List Dc} (h : l.map cdat = d) : l.map (chs n) = (d.map tocs).map (csc n) := by
  subst h
  rw [List.map_map, List.map_map]
  rfl
theorem dcs_cs {n : Int} {d : List Dc} : d.map (dcs n) = (d.map tocs).map (csc n) := by
  rw [List.map_map]
  rfl
theorem Sl.rowOf {w : World} {T k : Nat} {v : Value} {rows : List (List Value)} {B : List (Nat × Obj)} (h : Sl T k v rows B) (hB : ∀ c ∈ B, w.heap[c.1]? = some c.2) (hk : 0 < k) (hm : rows.length ≤ 9223372036854775807) : RdRow w v k rows := by
  obtain ⟨c, hc⟩ := h.slv
  exact RdRow.of hc rfl hm (h.rdOf hB) hk
theorem rs_tags {Rs : List Sv} {d : List Ds} (h : Rs.map sdat = d.map ddat) (ht : ∀ s ∈ d, s.tags.length ≤ 9223372036854775807) : ∀ s ∈ Rs, (s.tags.map rs).length ≤ 9223372036854775807 := fun s hs => by
  have : sdat s ∈ d.map ddat := h ▸ List.mem_map_of_mem hs
  obtain ⟨z, hz, e⟩ := List.mem_map.1 this
  have e2 : z.tags = s.tags := congrArg Sd.tags e
  rw [List.length_map, ← e2]
  exact ht z hz
section
variable {b r : Nat} {S : Lc} {D : Dl} {L R : List (Nat × Obj)} {w : World}
theorem same_d (hr : Rel S D) (hA : Agt b S L) (hDk : Dok r D R) (hown : Own w (L ++ R)) (ht : ∀ s ∈ D.sv, RdRow w s.tv 1 (s.tags.map rs)) :
    Ret Try.prog 21 #[.pointer (some ⟨b, 0, none⟩), .pointer (some ⟨r, 0, none⟩)] w fun u w' => u = .bool true ∧ St w [] [] w' := by
  have hDc := hDk
  obtain ⟨hs16, hc16, hone, hsu, hcu, sv, cv, SB, CB, hsS, hsC, rfl⟩ := hDk
  have hS := St.init hown
  generalize hX : (L ++ (r, C 44 [.int .i64 D.node, str D.addr, sv, cv]) :: (SB ++ CB)).map Prod.fst = X at hS
  have hro : ∀ {L' w'}, St w X (L' ++ (L ++ (r, C 44 [.int .i64 D.node, str D.addr, sv, cv]) :: (SB ++ CB))) w' → St w [] L' w' := fun h => St.roL hown (by rw [hX]; exact h.perm List.perm_append_comm) .here
  have htl : ∀ s ∈ D.sv, s.tags.length ≤ 9223372036854775807 := fun s hs => by
    obtain ⟨b, o, c, _, hm, _⟩ := (ht s hs).open
    rwa [List.length_map] at hm
  refine Ret.enter Try.func21 Try.ntmps21 rfl rfl ?_
  simp only [argEnv, Nat.reduceAdd]
  refine SatC.seq ?_
  refine SatC.region ?_
  refine SatL.pu (RunV.assign rfl) rfl ?_
  refine SatL.nil (SatE.thenC ?_)
  refine SatC.seq ?_
  refine SatC.drawnT 15 hS (hS) (by kernel_rfl) ?_
  clear hS
  intro w1 hh hS hD
  refine SatD.tk 0 rfl hD (fun _ hw => RunV.move rfl) ?_
  refine SatD.tk 2 rfl hD (fun _ hw => RunV.move rfl) ?_
  first | refine SatD.tk 3 rfl hD (fun _ hw => RunV.nil_ptr rfl) ?_ | refine SatD.tk 3 rfl hD (fun _ hw => RunV.nil_func rfl) ?_ | refine SatD.tk 3 rfl hD (fun _ hw => RunV.nil_yield rfl) ?_
  first | refine SatD.tk 4 rfl hD (fun _ hw => RunV.fieldAddrL rfl rfl rfl) ?_ | refine SatD.tk 4 rfl hD (fun _ hw => RunV.fieldAddr rfl rfl rfl) ?_
  refine SatD.tk 5 rfl hD (fun _ hw => RunV.load1 hw rfl rfl (by repeat constructor) rfl) ?_
  refine SatD.ef 1 rfl (OpW.enter rfl rfl rfl (rfl) (services_d hA (hS.ownT (A := L) (by repeat constructor))) ?_)
  rintro r2 w2 ⟨Rs, AB, hRs, hsl, hRt, h⟩
  replace hS := hS.callT (A := []) .nil h
  rw [hr.ordS] at hRs
  rw [hr.nd] at hsl
  have hRl : Rs.length = D.sv.length := by (have := congrArg List.length hRs); rwa [List.length_map, List.length_map] at this
  refine keepS (hS.sel (by repeat constructor)) (fun hD => ?_)
  refine SatD.ef 6 rfl (OpW.enter rfl rfl rfl (rfl) (sames_ref D.node _ _ Rs D.sv _ hRs (hsl.rowOf (fun c hc => hS.own c (by simp [hc])) (by decide) (by rw [List.length_map]; omega)) (hsS.rowOf (fun c hc => hS.own c (by simp [hc])) (by decide) (by rw [List.length_map]; omega)) (fun s hs => (hRt s hs).rowOf (fun c hc => hS.own c (by simp [tbl]; exact .inr (.inl ⟨s, hs, hc⟩))) (by decide) (rs_tags hRs htl s hs)) (fun s hs => (ht s hs).st (hro (L' := AB ++ tbl Rs) (hS.sel (by repeat constructor)))) (fun s hs => (hRt s hs).one) hone) ?_)
  rintro r3 w3 ⟨rfl, h⟩
  replace hS := St.callN hS h
  refine keepS (hS.sel (by repeat constructor)) (fun hD => ?_)
  refine SatD.tk 7 rfl hD (fun _ hw => RunV.move rfl) ?_
  refine SatD.ways 12 rfl (fun h1 => ?_) (fun h1 => ?_)
  · (try simp only [cx, ne_eq] at h1)
    try (exfalso; (first | omega | exact h1 trivial | contradiction | (first | omega | (simp at h1; done))); done)
    all_goals
    refine SatD.tk 8 rfl hD (fun _ hw => RunV.move rfl) ?_
    refine SatD.tk 10 rfl hD (fun _ hw => RunV.move rfl) ?_
    refine SatD.ef 9 rfl (OpW.enter rfl rfl rfl (rfl) (checks_d hA (hS.ownT (A := L) (by repeat constructor))) ?_)
    rintro r4 w4 ⟨CA, hca, h⟩
    replace hS := hS.callT (A := []) .nil h
    rw [hr.nd, ordC_cs hr.ordC] at hca
    refine keepS (hS.sel (by repeat constructor)) (fun hD => ?_)
    refine SatD.ef 11 rfl (OpW.enter rfl rfl rfl (rfl) (dchecks_ref hDc (hS.ownT (A := (r, C 44 [.int .i64 D.node, str D.addr, sv, cv]) :: (SB ++ CB)) (by repeat constructor))) ?_)
    rintro r5 w5 ⟨DA, hda, h⟩
    replace hS := hS.callT (A := []) .nil h
    rw [dcs_cs] at hda
    refine keepS (hS.sel (by repeat constructor)) (fun hD => ?_)
    refine SatD.ef 12 rfl (OpW.enter rfl rfl rfl (rfl) (samec_ref D.node _ _ (D.ch.map tocs) _ (hca.rowOf (fun c hc => hS.own c (by simp [hc])) (by decide) (by rw [List.length_map, List.length_map]; omega)) (hda.rowOf (fun c hc => hS.own c (by simp [hc])) (by decide) (by rw [List.length_map, List.length_map]; omega))) ?_)
    rintro r6 w6 ⟨rfl, h⟩
    replace hS := St.callN hS h
    refine keepS (hS.sel (by repeat constructor)) (fun hD => ?_)
    refine SatD.tk 13 rfl hD (fun _ hw => RunV.pick_t rfl rfl) ?_
    refine SatD.tk 14 rfl hD (fun _ hw => RunV.assign rfl) ?_
    refine SatD.done 0 (by kernel_rfl) (SatE.thenC ?_)
    clear hD
    refine SatC.ret ?_
    refine SatE.ret1 rfl rfl ?_
    exact ⟨rfl, hro (L' := []) (hS.sel (by repeat constructor))⟩
  · (try simp only [cx, ne_eq] at h1)
    try (exfalso; (first | omega | exact h1 trivial | contradiction | (first | omega | (simp at h1; done))); done)
    all_goals
    refine SatD.sk 8 rfl [] hD ?_
    refine SatD.sk 9 rfl [] hD ?_
    refine SatD.sk 10 rfl [] hD ?_
    refine SatD.sk 11 rfl [] hD ?_
    refine SatD.sk 12 rfl [] hD ?_
    refine SatD.tk 13 rfl hD (fun _ hw => RunV.pick_f rfl rfl) ?_
    refine SatD.tk 14 rfl hD (fun _ hw => RunV.assign rfl) ?_
    refine SatD.done 0 (by kernel_rfl) (SatE.thenC ?_)
    clear hD
    refine SatC.ret ?_
    refine SatE.ret1 rfl rfl ?_
    exact ⟨rfl, hro (L' := []) (hS.sel (by repeat constructor))⟩
end
end Go.Proofs.Ytbnkcagcfbpiiaa
set_option linter.unusedSimpArgs false
set_option linter.unusedVariables false
set_option maxRecDepth 100000
set_option maxHeartbeats 4000000
namespace Go.Proofs.Ytbnkcagcfbpiiaa
open Go Go.Proofs Go.RowKit
section
variable {α : Type} {key : α → List UInt8}
theorem pt_has {l : List α} {t x : α} (h : x ∈ l) : ∃ y ∈ pt key l t, key y = key x := by
  induction l with
  | nil => cases h
  | cons y l ih =>
    unfold pt
    rcases List.mem_cons.1 h with rfl | h
    · split
      · rename_i e; exact ⟨t, List.mem_cons_self, e⟩
      · exact ⟨x, List.mem_cons_self, rfl⟩
    · split
      · exact ⟨x, List.mem_cons_of_mem _ h, rfl⟩
      · obtain ⟨z, hz, e⟩ := ih h
        exact ⟨z, List.mem_cons_of_mem _ hz, e⟩
theorem dl_has {l : List α} {k : List UInt8} {x : α} (h : x ∈ l) (hk : ¬ key x = k) : x ∈ dl key l k := by
  induction l with
  | nil => cases h
  | cons y l ih =>
    unfold dl
    rcases List.mem_cons.1 h with rfl | h
    · rw [if_neg fun e => hk e.symm]; exact List.mem_cons_self
    · split
      · exact h
      · exact List.mem_cons_of_mem _ (ih h)
theorem dl_len {l : List α} {k : List UInt8} (h : (gt key l k).isSome = true) : (dl key l k).length + 1 = l.length := by
  induction l with
  | nil => cases h
  | cons y l ih =>
    unfold gt at h
    unfold dl
    split at h
    · rename_i e; rw [if_pos e, List.length_cons]
    · rename_i e; rw [if_neg e, List.length_cons, ih h, List.length_cons]
theorem gt_dl {l : List α} {k z : List UInt8} (h : (gt key l z).isSome = true) (hz : ¬ z = k) : (gt key (dl key l k) z).isSome = true := by
  induction l with
  | nil => cases h
  | cons y l ih =>
    unfold gt at h
    unfold dl
    split at h
    · rename_i e
      rw [if_neg (by rw [← e]; exact fun e2 => hz e2.symm)]
      unfold gt; rw [if_pos e]; rfl
    · rename_i e
      split
      · exact h
      · unfold gt; rw [if_neg e]; exact ih h
theorem fm_ids {l : List α} : ∀ ys : List (List UInt8), (∀ y ∈ ys, ∃ x, gt key l y = some x ∧ x ∈ l ∧ key x = y) → (ys.filterMap (gt key l)).map key = ys
  | [], _ => rfl
  | y :: ys, h => by
    obtain ⟨x, hx, _, e⟩ := h y List.mem_cons_self
    rw [List.filterMap_cons, hx]
    show key x :: _ = _
    rw [fm_ids ys fun z hz => h z (List.mem_cons_of_mem _ hz), e]
end
theorem ordS_ids (l : List Sv) : (ordS l).map Sv.id = srt (l.map Sv.id) := fm_ids _ fun y hy => gt_some (mem_srt.1 hy)
theorem ordC_ids (l : List Ch) : (ordC l).map Ch.id = srt (l.map Ch.id) := fm_ids _ fun y hy => gt_some (mem_srt.1 hy)
theorem ordS_len (l : List Sv) : (ordS l).length = l.length := by
  have := congrArg List.length (ordS_ids l)
  rwa [List.length_map, srt_len, List.length_map] at this
theorem ordC_len (l : List Ch) : (ordC l).length = l.length := by
  have := congrArg List.length (ordC_ids l)
  rwa [List.length_map, srt_len, List.length_map] at this
theorem ordC_mem {l : List Ch} {c : Ch} (h : c ∈ ordC l) : c ∈ l := by
  obtain ⟨k, _, e⟩ := List.mem_filterMap.1 h
  exact (gt_mem e).1
theorem gone_count : ∀ (zs : List (List UInt8)) (q : Lc × List (List UInt8)), zs.Nodup → (∀ z ∈ zs, (gt Sv.id q.1.sv z).isSome = true) → (zs.foldl gone1 q).1.sv.length + (zs.foldl gone1 q).2.length = q.1.sv.length + q.2.length
  | [], q, _, _ => rfl
  | z :: zs, q, hn, hz => by
    rw [List.nodup_cons] at hn
    rw [List.foldl_cons]
    by_cases hg : (q.1.ch.any fun c => decide (c.svc = z) && over c.h) = true
    · have hz0 := hz z List.mem_cons_self
      have e : gone1 q z = (aRem q.1 z, q.2 ++ [z]) := if_pos hg
      have e2 : aRem q.1 z = { q.1 with sv := dl Sv.id q.1.sv z, ch := q.1.ch.filter fun c => decide (¬ c.svc = z) } := if_pos hz0
      rw [e, e2, gone_count zs _ hn.2 (fun y hy => gt_dl (hz y (List.mem_cons_of_mem _ hy)) (fun e => hn.1 (by rw [← e]; exact hy)))]
      show (dl Sv.id q.1.sv z).length + (q.2 ++ [z]).length = _
      have := dl_len hz0
      rw [List.length_append, List.length_singleton]
      omega
    · rw [show gone1 q z = q from if_neg hg]
      exact gone_count zs q hn.2 (fun y hy => hz y (List.mem_cons_of_mem _ hy))
theorem tick_count {S : Lc} (hn : (S.sv.map Sv.id).Nodup) : (aTick S).1.sv.length + (aTick S).2.length = S.sv.length := by
  have := gone_count (srt (S.sv.map Sv.id)) ({ S with ch := ch2 S.ch }, []) (srt_nodup hn) (fun z hz => by
    obtain ⟨x, hx, _⟩ := gt_some (mem_srt.1 hz)
    show (gt Sv.id S.sv z).isSome = true
    rw [hx]
    rfl)
  exact this.trans (Nat.add_zero _)
/-- Each check's service is there. -/
def Whole (S : Lc) : Prop := ∀ c ∈ S.ch, c.svc = [] ∨ ∃ s ∈ S.sv, s.id = c.svc
theorem aRem_whole {S : Lc} {k : List UInt8} (h : Whole S) : Whole (aRem S k) := by
  unfold aRem
  split
  · intro c hc
    obtain ⟨hc, hk⟩ := List.mem_filter.1 hc
    simp only [decide_eq_true_eq] at hk
    rcases h c hc with e | ⟨s, hs, e⟩
    · exact .inl e
    · exact .inr ⟨s, dl_has hs (by rw [e]; exact hk), e⟩
  · exact h
theorem gone_clo {P : Lc → Prop} (hP : ∀ S k, P S → P (aRem S k)) : ∀ (zs : List (List UInt8)) (q : Lc × List (List UInt8)), P q.1 → P (zs.foldl gone1 q).1
  | [], q, h => h
  | z :: zs, q, h => gone_clo hP zs _ (by
    unfold gone1
    split
    · exact hP _ _ h
    · exact h)
theorem ch2_mem {l : List Ch} {c : Ch} (h : c ∈ ch2 l) : ∃ d ∈ l, c.id = d.id ∧ c.svc = d.svc ∧ ∃ l0, c.h = fol1 l0 { d with h := tickC d.h } := by
  obtain ⟨d, hd, rfl⟩ := List.mem_map.1 h
  obtain ⟨e, he, rfl⟩ := List.mem_map.1 hd
  exact ⟨e, he, rfl, rfl, _, rfl⟩
theorem whole_clo : Clo Whole where
  add S s h c hc := (h c hc).imp (fun e => e) fun ⟨x, hx, e⟩ => by
    obtain ⟨y, hy, e2⟩ := pt_has (key := Sv.id) (t := s) hx
    exact ⟨y, hy, e2.trans e⟩
  rem S k h := aRem_whole h
  addc S c p he _ h d hd := by
    rcases pt_mem hd with rfl | hd
    · by_cases h0 : d.svc = []
      · exact .inl h0
      · by_cases hn : gt Sv.id S.sv d.svc = none
        · exfalso
          unfold addCE at he
          have hb : ¬ d.svc = [] ∧ gt Sv.id S.sv d.svc = none := ⟨h0, hn⟩
          rw [if_pos hb] at he
          split at he
          · omega
          · split at he <;> omega
        · obtain ⟨x, hx⟩ := Option.ne_none_iff_exists'.1 hn
          exact .inr ⟨x, (gt_mem hx).1, (gt_mem hx).2⟩
    · exact h d hd
  delc S k h c hc := h c ((dl_sub _ _).subset hc)
  hup S k g _ h c hc := by
    obtain ⟨d, hd, rfl⟩ := hup_mem hc
    have e : (if d.id = k then { d with h := g d.h } else d).svc = d.svc := by split <;> rfl
    rw [e]
    exact h d hd
  tick S h := gone_clo (fun S k h => aRem_whole h) _ _ (fun c hc => by
    obtain ⟨d, hd, _, e, _⟩ := ch2_mem hc
    rw [e]
    exact h d hd)
def R3s (S : Lc) : Prop := ∀ c ∈ S.ch, R3 c.h
theorem stat_r3 {c : Ck} (h : R3 c) : 0 ≤ stat c ∧ stat c ≤ 3 := by
  unfold R3 at h
  unfold stat
  split <;> omega
theorem tickC_r3 {c : Ck} (h : R3 c) : R3 (tickC c) := by
  unfold R3 at *
  unfold tickC tick1
  split
  · dsimp only
    split <;> omega
  · exact h
theorem folC_r3 {c : Ck} {s : Int} (h : R3 c) : R3 (folC c s) := by
  unfold R3 at *
  unfold folC
  split
  · exact h
  · dsimp only
    omega
theorem r3_clo : Clo R3s where
  add S s h := h
  rem S k h c hc := h c (aRem_ch _ _ c hc)
  addc S c p _ e h d hd := by
    rcases pt_mem hd with rfl | hd
    · rw [e]
      exact ⟨by show (0 : Int) ≤ 2; decide, by show (2 : Int) ≤ 3; decide⟩
    · exact h d hd
  delc S k h c hc := h c ((dl_sub _ _).subset hc)
  hup S k g hg h c hc := by
    obtain ⟨d, hd, rfl⟩ := hup_mem hc
    split
    · exact hg _ (h d hd)
    · exact h d hd
  tick S h := gone_clo (fun S k h c hc => h c (aRem_ch _ _ c hc)) _ _ (fun c hc => by
    obtain ⟨d, hd, _, _, l0, e⟩ := ch2_mem hc
    rw [e]
    unfold fol1
    split
    · exact folC_r3 (tickC_r3 (h d hd))
    · exact tickC_r3 (h d hd))
theorem node_clo (n : Int) (a : List UInt8) : Clo fun S => S.node = n ∧ S.addr = a := by
  have hr : ∀ (S : Lc) (k : List UInt8), S.node = n ∧ S.addr = a → (aRem S k).node = n ∧ (aRem S k).addr = a := fun S k h => by
    unfold aRem
    split <;> exact h
  exact ⟨fun S s h => h, hr, fun S c p _ _ h => h, fun S k h => h, fun S k g _ h => h, fun S h => gone_clo hr _ _ h⟩
/-! ### The alias -/
def Free (a : List UInt8) (D : Dl) : Prop := ∀ c ∈ D.ch, ¬ c.id = a
theorem ticks_free {a : List UInt8} {D : Dl} (h : Free a D) : ∀ i, Free a (ticks i D)
  | 0 => h
  | i + 1 => fun c hc => by
    have h2 : c ∈ dch2 (ticks i D).ch := drems_ch _ _ c hc
    obtain ⟨d, hd, rfl⟩ := List.mem_map.1 h2
    obtain ⟨e, he, rfl⟩ := List.mem_map.1 hd
    rw [dfl_id]
    exact ticks_free h i e he
theorem stepD_free {a : List UInt8} {k n port : Int} {id sid sname cid csv cnote : List UInt8} {v : Value} {tags : List (List UInt8)} {p : Pl} {D : Dl} (h : Free a D) (hc : ¬ cid = a) : Free a (stepD k n port id sid sname cid csv cnote v tags p D) := by
  unfold stepD
  split
  · split <;> exact h
  · split
    · exact fun c hc => h c (drem_ch _ _ c hc)
    · split
      · split
        · intro c hm
          have := (ins_perm (key := Dc.id) (x := ⟨cid, csv, cnote, ck0 p⟩) false D.ch).mem_iff.1 hm
          simp only [Bool.false_eq_true, if_false, List.cons_append, List.nil_append, List.mem_cons] at this
          rcases this with rfl | hm'
          · exact hc
          · exact h c (List.mem_filter.1 hm').1
        · exact h
      · split
        · exact fun c hm => h c (List.mem_filter.1 hm).1
        · split
          · intro c hm
            obtain ⟨d, hd, rfl⟩ := List.mem_map.1 hm
            split <;> exact h d hd
          · split
            · intro c hm
              obtain ⟨d, hd, rfl⟩ := List.mem_map.1 hm
              split <;> exact h d hd
            · split
              · exact ticks_free h _
              · exact h
theorem free_wid {a : List UInt8} {D : Dl} (h : Free a D) : wid a D.ch = D.ch := List.filter_eq_self.2 fun c hc => by simp [h c hc]
theorem dw_r3 (bare : Bool) (sv : List UInt8) (l : List Dc) (h : ∀ c ∈ l, R3 c.h) : dw bare sv l ≤ 3 := by
  induction l with
  | nil => unfold dw; decide
  | cons c l ih =>
    have h1 := ih fun x hx => h x (List.mem_cons_of_mem _ hx)
    have h2 := stat_r3 (h c List.mem_cons_self)
    unfold dw
    split <;> omega
@[reducible] def pal (of : List UInt8) : Pl := ⟨3, 0, 0, 0, of, 0⟩
@[reducible] def dal (a of : List UInt8) : Dc := ⟨a, [], [], ck0 (pal of)⟩
theorem tick_pal (of : List UInt8) : ∃ k, tickC (ck0 (pal of)) = { ck0 (pal of) with long := k } := ⟨_, rfl⟩
theorem alias_stat {a of : List UInt8} {D : Dl} (hf : Free a D) (h3 : ∀ c ∈ D.ch, R3 c.h) {c : Dc} (hc : c ∈ (dTick { D with ch := ins Dc.id (dal a of) false D.ch }).ch) (hid : c.id = a) (hg : dgone D = []) : stat c.h = dw true of (dTick D).ch := by
  have h2 : c ∈ dch2 (ins Dc.id (dal a of) false D.ch) := drems_ch _ _ c hc
  have hp : (ins Dc.id (dal a of) false D.ch).Perm (dal a of :: D.ch) := by
    have := ins_perm (key := Dc.id) (x := dal a of) false D.ch
    simp only [Bool.false_eq_true, if_false, List.cons_append, List.nil_append] at this
    rwa [show (D.ch.filter fun y => decide (¬ y.id = (dal a of).id)) = D.ch from free_wid hf] at this
  rw [(dch2_perm hp).mem_iff] at h2
  have e0 : (dTick D).ch = dch2 D.ch := by
    unfold dTick
    rw [hg]
    rfl
  rw [e0]
  have e1 : dw true of (dch2 D.ch) = dw true of (D.ch.map dtk) := by
    have := dw_fol (D.ch.map dtk) of (D.ch.map dtk) []
    rwa [List.append_nil, List.append_nil] at this
  rw [e1]
  have hb : dw true of (D.ch.map dtk) ≤ 3 := dw_r3 _ _ _ fun x hx => by
    obtain ⟨y, hy, rfl⟩ := List.mem_map.1 hx
    exact tickC_r3 (h3 y hy)
  have hn := dw_nn true of (D.ch.map dtk)
  unfold dch2 at h2
  rw [List.map_cons, List.map_cons, List.mem_cons] at h2
  obtain ⟨k, hk⟩ := tick_pal of
  rcases h2 with rfl | h2
  · have e2 : dtk (dal a of) = ⟨a, [], [], { ck0 (pal of) with long := k }⟩ := by unfold dtk; rw [hk]
    rw [e2]
    have e3 : dw true of (⟨a, [], [], { ck0 (pal of) with long := k }⟩ :: D.ch.map dtk) = dw true of (D.ch.map dtk) := dw_n fun h => h.2 ⟨rfl, rfl⟩
    unfold dfl
    rw [if_pos rfl]
    show stat (folC _ (dw true of _)) = _
    rw [e3]
    unfold folC
    rw [if_neg (by intro h; rcases h with h | h; exact h rfl; omega)]
    rfl
  · exfalso
    obtain ⟨d, hd, rfl⟩ := List.mem_map.1 h2
    obtain ⟨e, he, rfl⟩ := List.mem_map.1 hd
    rw [dfl_id] at hid
    exact hf e he hid
theorem rel_r3 {S : Lc} {D : Dl} (h : Rel S D) (h3 : R3s S) : ∀ c ∈ D.ch, R3 c.h := fun c hc => by
  obtain ⟨d, hd, rfl⟩ := List.mem_map.1 (h.pch.mem_iff.2 hc)
  exact h3 d hd
end Go.Proofs.Ytbnkcagcfbpiiaa
set_option linter.unusedSimpArgs false
set_option linter.unusedVariables false
set_option maxRecDepth 100000
set_option maxHeartbeats 4000000
namespace Go.Proofs.Ytbnkcagcfbpiiaa
open Go Go.Proofs Go.RowKit
/-- A step, as an argument has it. -/
structure Sp where
  k : Int
  n : Int
  sn : Int
  port : Int
  smk : Int
  six : Int
  cn : Int
  cst : Int
  cmk : Int
  cix : Int
  id : List UInt8
  sid : List UInt8
  sname : List UInt8
  cid : List UInt8
  csv : List UInt8
  cnote : List UInt8
  v : Value
  tags : List (List UInt8)
  p : Pl
@[reducible] def spr (y : Sp) : List Value := stpc y.k y.n y.sn y.port y.smk y.six y.cn y.cst y.cmk y.cix y.id y.sid y.sname y.cid y.csv y.cnote y.v y.p
def SpOk (W : World) (y : Sp) : Prop := RdRow W y.v 1 (y.tags.map rs) ∧ y.cnote.length ≤ 9223372036854775807
def stepS (y : Sp) (D : Dl) : Dl := stepD y.k y.n y.port y.id y.sid y.sname y.cid y.csv y.cnote y.v y.tags y.p D
section
variable {b r : Nat} {S : Lc} {D : Dl} {L R : List (Nat × Obj)} {m : Int} {w W : World}
theorem do_s (y : Sp) (hm : 0 ≤ m ∧ m ≤ 900000) (hy : SpOk W y) (hS : St W [] (L ++ R) w) (hbS : ∀ c ∈ S.ch, Bd m c.h) (hbD : ∀ c ∈ D.ch, Bd m c.h) (hA : Agt b S L) (hDk : Dok r D R) :
    Ret Try.prog 10 #[.pointer (some ⟨b, 0, none⟩), .pointer (some ⟨r, 0, none⟩), .agg (spr y).toArray] w fun u w' => ∃ bb S' D' L' R', u = .bool bb ∧ DoR b r S D m y.v y.tags (stepS y D) bb S' D' L' R' ∧ St w ((L ++ R).map Prod.fst) (L' ++ R') w' := by
  obtain ⟨k, n, sn, port, smk, six, cn, cst, cmk, cix, id, sid, sname, cid, csv, cnote, v, tags, p⟩ := y
  have hra := RdA.of hy.1 hS
  obtain ⟨b0, o0, c0, hv, _⟩ := hy.1.open
  obtain ⟨A0, e, _⟩ := hv.eq
  dsimp only at e
  subst e
  exact do_d k n sn port smk six cn cst cmk cix id sid sname cid csv cnote A0 _ c0 tags p hm hy.2 hra hbS hbD hA hDk hS.toOwn
/-- What the laws keep. -/
structure PI (W : World) (n : Int) (a : List UInt8) (b r : Nat) (m : Int) (S : Lc) (D : Dl) (L R : List (Nat × Obj)) : Prop where
  rel : Rel S D
  ag : Agt b S L
  dk : Dok r D R
  bs : ∀ c ∈ S.ch, Bd m c.h
  bd : ∀ c ∈ D.ch, Bd m c.h
  tg : ∀ s ∈ D.sv, RdRow W s.tv 1 (s.tags.map rs)
  nd : S.node = n ∧ S.addr = a
  r3 : R3s S
theorem PI.next {n : Int} {a : List UInt8} {y : Sp} {F : Dl} {bb : Bool} {S' : Lc} {D' : Dl} {L' R' : List (Nat × Obj)} (h : PI W n a b r m S D L R) (hy : SpOk W y) (hd : DoR b r S D m y.v y.tags F bb S' D' L' R') : bb = true ∧ D' = F ∧ PI W n a b r (m + 4) S' D' L' R' := by
  obtain ⟨e, hrel⟩ := hd.rel h.rel
  refine ⟨e, hd.fn h.rel, hrel, hd.ag, hd.dk, hd.bs, hd.bd, fun s hs => ?_, hd.clo _ (node_clo n a) h.nd, hd.clo _ r3_clo h.r3⟩
  rcases hd.tg s hs with hs | ⟨e1, e2⟩
  · exact h.tg s hs
  · rw [e1, e2]; exact hy.1
theorem PI.at {n : Int} {a : List UInt8} {m' : Int} (h : PI W n a b r m S D L R) (e : m = m') : PI W n a b r m' S D L R := e ▸ h
theorem Srtd.nil {α : Type} {key : α → List UInt8} : Srtd key ([] : List α) := List.Pairwise.nil
theorem PI.init {n : Int} {a : List UInt8} (hA : Agt b ⟨n, a, [], []⟩ L) : PI W n a b r 0 ⟨n, a, [], []⟩ ⟨n, a, [], []⟩ L [(r, C 44 [.int .i64 n, str a, .slice none 0 0, .slice none 0 0])] :=
  ⟨⟨rfl, .nil, .nil, .nil, .nil⟩, hA, ⟨Nat.zero_le _, Nat.zero_le _, (fun s h => by cases h), List.nodup_nil, List.nodup_nil, ⟨_, _, [], [], .nil, .nil, rfl⟩⟩, (fun c h => by cases h), (fun c h => by cases h), (fun c h => by cases h), ⟨rfl, rfl⟩, (fun c h => by cases h)⟩
theorem health_e (k : List UInt8) (hr : Rel S D) (h : Agt b S L) (hown : Own w L) : Ret Try.prog 22 #[.pointer (some ⟨b, 0, none⟩), str k] w fun u w' => u = .int .i64 (dw false k D.ch) ∧ St w [] [] w' :=
  (health_d k h hown).mono fun u w' ⟨h1, h2⟩ => ⟨by rw [h1, hr.health], h2⟩
theorem node_e {n : Int} {a : List UInt8} (hn : S.node = n ∧ S.addr = a) (h : Agt b S L) (hown : Own w L) : Ret Try.prog 23 #[.pointer (some ⟨b, 0, none⟩)] w fun u w' => u = .tuple #[.int .i64 n, str a] ∧ St w [] [] w' :=
  (node_d h hown).mono fun u w' ⟨h1, h2⟩ => ⟨by rw [h1, hn.1, hn.2], h2⟩
theorem err_ok (n : Int) (a : List UInt8) (w : World) (h : (0 ≤ n ∧ n < 8) ∧ a.length ≤ 32) : Ret Try.prog 20 #[.int .i64 n, str a] w fun u w' => u = .int .i64 0 ∧ St w [] [] w' :=
  (err_ref n a w (by omega)).mono fun u w' ⟨h1, h2⟩ => ⟨by rw [h1, if_pos h], h2⟩
theorem err_no (n : Int) (a : List UInt8) (w : World) (hl : a.length ≤ 9223372036854775807) (h : ¬ ((0 ≤ n ∧ n < 8) ∧ a.length ≤ 32)) : Ret Try.prog 20 #[.int .i64 n, str a] w fun u w' => u = .int .i64 (if 0 ≤ n ∧ n < 8 then 3 else 2) ∧ St w [] [] w' :=
  (err_ref n a w hl).mono fun u w' ⟨h1, h2⟩ => ⟨by rw [h1, if_neg h], h2⟩
end
end Go.Proofs.Ytbnkcagcfbpiiaa
set_option linter.unusedSimpArgs false
set_option linter.unusedVariables false
set_option maxRecDepth 100000
set_option maxHeartbeats 4000000
namespace Go.Proofs.Ytbnkcagcfbpiiaa
open Go Go.Proofs Go.RowKit Go.ChangeShapes Go.WideShapes Go.ChangeAt
theorem sp_rows {H : Type} {enc : TypeId × Value → H} {W : World} {held : Bool} {xs : List (List Value)} (hx : ∀ r ∈ xs, AllLeaf (LeafAt enc Try.prog W 0 (fun _ => true) held) [3, 3, 9, 3, 9, 9, 27, 3, 28, 28, 3, 9, 9, 9, 3, 28, 28, 3, 3, 3, 3, 9, 3] r) : ∃ ys : List Sp, xs = ys.map spr ∧ ∀ y ∈ ys, SpOk W y :=
  rows_map (enc' := spr) (q := SpOk W) (fun r hr => by
    obtain ⟨u0, u1, u2, u3, u4, u5, u6, u7, u8, u9, u10, u11, u12, u13, u14, u15, u16, u17, u18, u19, u20, u21, u22, rfl, l0, l1, l2, l3, l4, l5, l6, l7, l8, l9, l10, l11, l12, l13, l14, l15, l16, l17, l18, l19, l20, l21, l22⟩ := allLeaf_list23 hr
    obtain ⟨n0, rfl, e0⟩ := leaf_int Try.underlying3 l0
    obtain ⟨n1, rfl, e1⟩ := leaf_int Try.underlying3 l1
    obtain ⟨n2, rfl, e2⟩ := leaf_string Try.underlying9 l2
    obtain ⟨n3, rfl, e3⟩ := leaf_int Try.underlying3 l3
    obtain ⟨n4, rfl, e4⟩ := leaf_string Try.underlying9 l4
    obtain ⟨n5, rfl, e5⟩ := leaf_string Try.underlying9 l5
    obtain ⟨xb, hb, hxb⟩ := leaf_rows (l := [9]) 6 Try.underlying27 (by kernel_rfl) (by kernel_rfl) (by decide) l6
    obtain ⟨ts, rfl, _⟩ := rows_map (enc' := rs) (q := fun _ => True) (fun r hr => by
      obtain ⟨u, rfl, lu⟩ := allLeaf_list1 hr
      obtain ⟨m, rfl, em⟩ := leaf_string Try.underlying9 lu
      exact ⟨m.data.toList, rfl, trivial⟩) xb hxb
    obtain ⟨n7, rfl, e7⟩ := leaf_int Try.underlying3 l7
    obtain ⟨n8, rfl, e8⟩ := leaf_int Try.underlying28 l8
    obtain ⟨n9, rfl, e9⟩ := leaf_int Try.underlying28 l9
    obtain ⟨n10, rfl, e10⟩ := leaf_int Try.underlying3 l10
    obtain ⟨n11, rfl, e11⟩ := leaf_string Try.underlying9 l11
    obtain ⟨n12, rfl, e12⟩ := leaf_string Try.underlying9 l12
    obtain ⟨n13, rfl, e13⟩ := leaf_string Try.underlying9 l13
    obtain ⟨n14, rfl, e14⟩ := leaf_int Try.underlying3 l14
    obtain ⟨n15, rfl, e15⟩ := leaf_int Try.underlying28 l15
    obtain ⟨n16, rfl, e16⟩ := leaf_int Try.underlying28 l16
    obtain ⟨n17, rfl, e17⟩ := leaf_int Try.underlying3 l17
    obtain ⟨n18, rfl, e18⟩ := leaf_int Try.underlying3 l18
    obtain ⟨n19, rfl, e19⟩ := leaf_int Try.underlying3 l19
    obtain ⟨n20, rfl, e20⟩ := leaf_int Try.underlying3 l20
    obtain ⟨n21, rfl, e21⟩ := leaf_string Try.underlying9 l21
    obtain ⟨n22, rfl, e22⟩ := leaf_int Try.underlying3 l22
    exact ⟨⟨n0, n1, n3, n7, n8, n9, n10, n14, n15, n16, n2.data.toList, n4.data.toList, n5.data.toList, n11.data.toList, n12.data.toList, n13.data.toList, u6, ts, ⟨n17, n18, n19, n20, n21.data.toList, n22⟩⟩, rfl, hb, str_max e13⟩) xs hx
end Go.Proofs.Ytbnkcagcfbpiiaa
