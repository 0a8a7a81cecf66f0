/- Tags: the program's and the document's. -/
import Derived.Test.YtbnkcagcfbpiiaaLb
set_option linter.unusedSimpArgs false
set_option linter.unusedVariables false
set_option maxRecDepth 100000
set_option maxHeartbeats 1000000
namespace Go.Proofs.Ytbnkcagcfbpiiaa
open Go.RowKit
def rising (l : List (List UInt8)) : Bool := (List.range l.length).all fun k => decide (k = 0) || decide (l.getD (k - 1) [] < l.getD k [])
theorem gD {l : List (List UInt8)} {k : Nat} {c : List UInt8} (h : l[k]? = some c) : l.getD k [] = c := by simp [h]
theorem rising_iff (l : List (List UInt8)) : rising l = true ↔ ∀ k, 0 < k → k < l.length → l.getD (k - 1) [] < l.getD k [] := by
  simp only [rising, List.all_eq_true, List.mem_range, Bool.or_eq_true, decide_eq_true_eq]
  constructor
  · intro h k h0 hk
    rcases h k hk with h | h
    · omega
    · exact h
  · intro h k hk
    rcases Nat.eq_zero_or_pos k with h0 | h0
    · exact .inl h0
    · exact .inr (h k h0 hk)
theorem rising_ref (v : Value) (l : List (List UInt8)) (w : World) (hr : RdRow w v 1 (l.map rs)) : Ret Try.prog 79 #[v] w fun u w' => u = .bool (rising l) ∧ St w [] [] w' := by
  have hS := St.init0 w
  obtain ⟨b, o, c, hv, hmax, hc, hlt⟩ := hr.open
  simp only [List.length_map] at hv hmax hlt
  refine Ret.enter Try.func79 Try.ntmps79 rfl rfl ?_
  simp only [argEnv, Nat.reduceAdd]
  refine SatC.seq ?_
  refine SatC.region ?_
  refine SatL.pu (RunV.assign rfl) rfl ?_
  refine SatL.nil (SatE.thenC ?_)
  refine SatC.seq ?_
  refine SatC.seq ?_
  refine SatC.region ?_
  refine SatL.pu (RunV.assign rfl) rfl ?_
  refine SatL.nil (SatE.thenC ?_)
  refine SatC.block ?_
  refine SatC.loopK (G := Nat) (V := fun i => [(3, .int .i64 (i : Int))]) (Cn := [(0, _), (2, _)]) (I := fun i w' => 1 ≤ i ∧ (i ≤ l.length ∨ i = 1) ∧ (∀ k, 0 < k → k < i → k < l.length → l.getD (k - 1) [] < l.getD k []) ∧ St w [] [] w') (μ := fun i => l.length - i) 1 ?_ (by repeat constructor) ?_
  · exact ⟨by omega, by omega, fun k h0 h1 => by omega, hS⟩
  clear hS
  rintro i w1 ⟨hi1, hi, hf, hS⟩
  refine SatC.weak (e' := [(0, _), (2, _), (3, _)]) (by repeat constructor) ?_
  refine SatC.seq ?_
  refine SatC.seq ?_
  refine SatC.region ?_
  refine SatL.pu (RunV.move rfl) rfl ?_
  refine SatL.pu (RunV.move rfl) rfl ?_
  first | refine SatL.pu (RunV.lenR (by assumption) rfl rfl) rfl ?_ | refine SatL.pu (RunV.lenS rfl rfl) rfl ?_
  refine SatL.pu (RunV.lss rfl rfl) rfl ?_
  refine SatL.nil (SatE.thenC ?_)
  refine SatC.cond rfl (fun h1 => ?_) (fun h1 => ?_)
  · (try simp only [cx, ne_eq] at h1)
    try (exfalso; (first | omega | exact h1 trivial | contradiction); done)
    all_goals
    refine SatC.skip (SatE.thenC ?_)
    refine SatC.seq ?_
    refine SatC.block ?_
    refine SatC.seq ?_
    obtain ⟨y, hy⟩ := get_some l i (by omega)
    have hd := gD hy
    obtain ⟨x, hx⟩ := get_some l (i - 1) (by omega)
    have hdx := gD hx
    have hx' : l[((i : Int) - 1).toNat]? = some x := by rw [show ((i : Int) - 1).toNat = i - 1 by omega]; exact hx
    refine SatC.drawnT 10 hS (hS) (by kernel_rfl) ?_
    clear hS
    intro w2 hh hS hD
    refine SatD.tk 0 rfl hD (fun _ hw => RunV.move rfl) ?_
    refine SatD.tk 1 rfl hD (fun _ hw => RunV.move rfl) ?_
    refine SatD.tk 2 rfl hD (fun _ hw => RunV.sub rfl rfl (by first | exact wrapI64 (by omega) | rfl)) ?_
    first | refine SatD.tk 3 rfl hD (fun _ hw => RunV.indexR (by assumption) rfl rfl rfl (by omega) (by omega) rfl) ?_ | refine SatD.tk 3 rfl hD (fun _ hw => RunV.indexS rfl rfl rfl (by omega) (by omega) rfl) ?_
    first | refine SatD.tk 4 rfl hD (fun _ hw => RunV.loadR1z (RdC.st (by assumption) hw List.not_mem_nil) rfl rfl (by first | assumption | exact map_get (by assumption)) rfl) ?_ | refine SatD.tk 4 rfl hD (fun _ hw => RunV.loadR1z (Sl.rd (by assumption) hw (by repeat constructor)) rfl rfl (by first | assumption | exact map_get (by assumption)) rfl) ?_
    refine SatD.tk 5 rfl hD (fun _ hw => RunV.move rfl) ?_
    refine SatD.tk 6 rfl hD (fun _ hw => RunV.move rfl) ?_
    first | refine SatD.tk 7 rfl hD (fun _ hw => RunV.indexR (by assumption) rfl rfl rfl (by omega) (by omega) rfl) ?_ | refine SatD.tk 7 rfl hD (fun _ hw => RunV.indexS rfl rfl rfl (by omega) (by omega) rfl) ?_
    first | refine SatD.tk 8 rfl hD (fun _ hw => RunV.loadR1z (RdC.st (by assumption) hw List.not_mem_nil) rfl rfl (by first | assumption | exact map_get (by assumption)) rfl) ?_ | refine SatD.tk 8 rfl hD (fun _ hw => RunV.loadR1z (Sl.rd (by assumption) hw (by repeat constructor)) rfl rfl (by first | assumption | exact map_get (by assumption)) rfl) ?_
    refine SatD.tk 9 rfl hD (fun _ hw => RunV.sgeq rfl rfl) ?_
    refine SatD.done 0 (by kernel_rfl) (SatE.thenC ?_)
    clear hD
    refine SatC.weak (e' := [(0, _), (2, _), (3, _), (19, _)]) (by repeat constructor) ?_
    refine SatC.cond rfl (fun h2 => ?_) (fun h2 => ?_)
    · (try simp only [cx, ne_eq] at h2)
      try (exfalso; (first | omega | exact h2 trivial | contradiction); done)
      all_goals
      refine SatC.seq ?_
      refine SatC.region ?_
      refine SatL.pu (RunV.assign rfl) rfl ?_
      refine SatL.nil (SatE.thenC ?_)
      refine SatC.ret (SatE.blk_ret (SatE.then_ret (SatE.then_ret (SatE.blk_ret (SatE.then_ret ?_)))))
      refine SatE.ret1 rfl rfl ?_
      refine ⟨congrArg Value.bool ?_, hS⟩
      have : ¬ rising l = true := fun h => by
        have := (rising_iff l).1 h i (by omega) (by omega)
        rw [hdx, hd] at this
        exact (by assumption : ¬ x < y) this
      rw [Bool.not_eq_true] at this
      rw [this]
    · (try simp only [cx, ne_eq] at h2)
      try (exfalso; (first | omega | exact h2 trivial | contradiction); done)
      all_goals
      refine SatC.skip (SatE.blk_normal (SatE.thenC ?_))
      refine SatC.region ?_
      refine SatL.pu (RunV.move rfl) rfl ?_
      refine SatL.pu (RunV.add rfl rfl (by first | exact wrapI64 (by omega) | rfl)) rfl ?_
      refine SatL.pu (RunV.assign rfl) rfl ?_
      refine SatL.nil ?_
      refine SatE.again (i + 1) ?_ (by first | omega | (dsimp only; omega)) (by repeat constructor)
      refine ⟨by omega, by omega, fun k h0 hk hkl => ?_, hS⟩
      rcases Nat.lt_or_ge k i with h' | h'
      · exact hf k h0 h' hkl
      · obtain rfl : k = i := by omega
        rw [hdx, hd]
        assumption
  · (try simp only [cx, ne_eq] at h1)
    try (exfalso; (first | omega | exact h1 trivial | contradiction); done)
    all_goals
    refine SatC.exit (SatE.then_exit (SatE.then_exit (SatE.blk_exit (SatE.thenC ?_))))
    refine SatC.seq ?_
    refine SatC.region ?_
    refine SatL.pu (RunV.assign rfl) rfl ?_
    refine SatL.nil (SatE.thenC ?_)
    refine SatC.ret ?_
    refine SatE.ret1 rfl rfl ?_
    refine ⟨congrArg Value.bool ?_, hS⟩
    exact ((rising_iff l).2 fun k h0 hk => hf k h0 (by omega) hk).symm
def tagN (l : List (List UInt8)) : Bool := decide (l.length ≤ 4) && rising l && l.all okN
theorem tagN_iff (l : List (List UInt8)) : tagN l = true ↔ l.length ≤ 4 ∧ rising l = true ∧ ∀ x ∈ l, okN x = true := by
  simp [tagN, List.all_eq_true, and_assoc]
theorem tagN_no {l : List (List UInt8)} (h : ¬ (l.length ≤ 4 ∧ rising l = true ∧ ∀ x ∈ l, okN x = true)) : tagN l = false := by
  rw [← Bool.not_eq_true, tagN_iff]
  exact h
theorem tags_ref (v : Value) (l : List (List UInt8)) (w : World) (hr : RdRow w v 1 (l.map rs)) : Ret Try.prog 68 #[v] w fun u w' => u = .bool (tagN l) ∧ St w [] [] w' := by
  have hS := St.init0 w
  obtain ⟨b, o, c, hv, hmax, hc, hlt⟩ := hr.open
  simp only [List.length_map] at hv hmax hlt
  refine Ret.enter Try.func68 Try.ntmps68 rfl rfl ?_
  simp only [argEnv, Nat.reduceAdd]
  refine SatC.seq ?_
  refine SatC.region ?_
  refine SatL.pu (RunV.assign rfl) rfl ?_
  refine SatL.nil (SatE.thenC ?_)
  refine SatC.seq ?_
  refine SatC.seq ?_
  refine SatC.region ?_
  refine SatL.pu (RunV.move rfl) rfl ?_
  first | refine SatL.pu (RunV.lenR (by assumption) rfl rfl) rfl ?_ | refine SatL.pu (RunV.lenS rfl rfl) rfl ?_
  refine SatL.pu (RunV.gtr rfl rfl) rfl ?_
  refine SatL.pu (RunV.move rfl) rfl ?_
  refine SatL.guard rfl rfl rfl (fun h1 => ?_) (fun h1 => ?_)
  · (try simp only [cx, ne_eq] at h1)
    try (exfalso; (first | omega | exact h1 trivial | contradiction); done)
    all_goals
    refine SatL.pu (RunV.move rfl) rfl ?_
    refine SatL.guard_y rfl rfl ?_
    refine SatL.op rfl (OpW.enter rfl rfl rfl (rfl) (rising_ref _ _ _ hr) ?_)
    rintro r1 w1 ⟨rfl, h⟩
    replace hS := St.callN hS h
    refine SatL.guard_y rfl rfl ?_
    refine SatL.pu (RunV.not rfl) rfl ?_
    refine SatL.pu (RunV.pick_f rfl rfl) rfl ?_
    refine SatL.nil (SatE.thenC ?_)
    refine SatC.cond rfl (fun h2 => ?_) (fun h2 => ?_)
    · (try simp only [cx, ne_eq] at h2)
      try (exfalso; (first | omega | exact h2 trivial | contradiction); done)
      all_goals
      refine SatC.seq ?_
      refine SatC.region ?_
      refine SatL.pu (RunV.assign rfl) rfl ?_
      refine SatL.nil (SatE.thenC ?_)
      refine SatC.ret (SatE.then_ret ?_)
      refine SatE.ret1 rfl rfl ?_
      refine ⟨congrArg Value.bool ?_, hS⟩
      first
      | exact (tagN_no (fun h => by omega)).symm
      | (refine (tagN_no (fun h => ?_)).symm
         have := h.2.1
         simp_all
         done)
      | (refine (tagN_no (fun h => ?_)).symm
         have := h.2.2 y (List.mem_of_getElem? hy)
         simp_all
         done)
      | (refine ((tagN_iff l).2 ⟨hl4, hri, fun x hx => ?_⟩).symm
         obtain ⟨k, hk⟩ := List.getElem?_of_mem hx
         exact hf k x (by have := (List.getElem?_eq_some_iff.1 hk).1; omega) hk)
    · (try simp only [cx, ne_eq] at h2)
      try (exfalso; (first | omega | exact h2 trivial | contradiction); done)
      all_goals
      refine SatC.skip (SatE.thenC ?_)
      refine SatC.seq ?_
      refine SatC.seq ?_
      refine SatC.region ?_
      refine SatL.pu (RunV.assign rfl) rfl ?_
      refine SatL.nil (SatE.thenC ?_)
      refine SatC.block ?_
      refine SatC.loopK (G := Nat) (V := fun i => [(3, .int .i64 (i : Int))]) (Cn := [(0, _), (2, _)]) (I := fun i w' => i ≤ l.length ∧ l.length ≤ 4 ∧ rising l = true ∧ (∀ k x, k < i → l[k]? = some x → okN x = true) ∧ St w [] [] w') (μ := fun i => l.length - i) 0 ?_ (by repeat constructor) ?_
      · exact ⟨by omega, by omega, by assumption, fun k x h0 h1 => by omega, hS⟩
      clear hS
      rintro i w2 ⟨hi, hl4, hri, hf, hS⟩
      refine SatC.weak (e' := [(0, _), (2, _), (3, _)]) (by repeat constructor) ?_
      refine SatC.seq ?_
      refine SatC.seq ?_
      refine SatC.region ?_
      refine SatL.pu (RunV.move rfl) rfl ?_
      refine SatL.pu (RunV.move rfl) rfl ?_
      first | refine SatL.pu (RunV.lenR (by assumption) rfl rfl) rfl ?_ | refine SatL.pu (RunV.lenS rfl rfl) rfl ?_
      refine SatL.pu (RunV.lss rfl rfl) rfl ?_
      refine SatL.nil (SatE.thenC ?_)
      refine SatC.cond rfl (fun h3 => ?_) (fun h3 => ?_)
      · (try simp only [cx, ne_eq] at h3)
        try (exfalso; (first | omega | exact h3 trivial | contradiction); done)
        all_goals
        refine SatC.skip (SatE.thenC ?_)
        refine SatC.seq ?_
        refine SatC.block ?_
        refine SatC.seq ?_
        obtain ⟨y, hy⟩ := get_some l i (by omega)
        refine SatC.region ?_
        refine SatL.pu (RunV.move rfl) rfl ?_
        refine SatL.pu (RunV.move rfl) rfl ?_
        first | refine SatL.pu (RunV.indexR (by assumption) rfl rfl rfl (by omega) (by omega) rfl) rfl ?_ | refine SatL.pu (RunV.indexS rfl rfl rfl (by omega) (by omega) rfl) rfl ?_
        first | refine SatL.pu (RunV.loadR1z (RdC.st (by assumption) hS List.not_mem_nil) rfl rfl (by first | assumption | exact map_get (by assumption)) rfl) rfl ?_ | refine SatL.pu (RunV.loadR1z (Sl.rd (by assumption) hS (by repeat constructor)) rfl rfl (by first | assumption | exact map_get (by assumption)) rfl) rfl ?_
        refine SatL.op rfl (OpW.enter rfl rfl rfl (rfl) (right_ref _ _) ?_)
        rintro r3 w3 ⟨rfl, h⟩
        replace hS := St.callN hS h
        refine SatL.pu (RunV.not rfl) rfl ?_
        refine SatL.nil (SatE.thenC ?_)
        refine SatC.cond rfl (fun h4 => ?_) (fun h4 => ?_)
        · (try simp only [cx, ne_eq] at h4)
          try (exfalso; (first | omega | exact h4 trivial | contradiction); done)
          all_goals
          refine SatC.seq ?_
          refine SatC.region ?_
          refine SatL.pu (RunV.assign rfl) rfl ?_
          refine SatL.nil (SatE.thenC ?_)
          refine SatC.ret (SatE.blk_ret (SatE.then_ret (SatE.then_ret (SatE.blk_ret (SatE.then_ret ?_)))))
          refine SatE.ret1 rfl rfl ?_
          refine ⟨congrArg Value.bool ?_, hS⟩
          first
          | exact (tagN_no (fun h => by omega)).symm
          | (refine (tagN_no (fun h => ?_)).symm
             have := h.2.1
             simp_all
             done)
          | (refine (tagN_no (fun h => ?_)).symm
             have := h.2.2 y (List.mem_of_getElem? hy)
             simp_all
             done)
          | (refine ((tagN_iff l).2 ⟨hl4, hri, fun x hx => ?_⟩).symm
             obtain ⟨k, hk⟩ := List.getElem?_of_mem hx
             exact hf k x (by have := (List.getElem?_eq_some_iff.1 hk).1; omega) hk)
        · (try simp only [cx, ne_eq] at h4)
          try (exfalso; (first | omega | exact h4 trivial | contradiction); done)
          all_goals
          refine SatC.skip (SatE.blk_normal (SatE.thenC ?_))
          refine SatC.region ?_
          refine SatL.pu (RunV.move rfl) rfl ?_
          refine SatL.pu (RunV.add rfl rfl (by first | exact wrapI64 (by omega) | rfl)) rfl ?_
          refine SatL.pu (RunV.assign rfl) rfl ?_
          refine SatL.nil ?_
          refine SatE.again (i + 1) ?_ (by first | omega | (dsimp only; omega)) (by repeat constructor)
          refine ⟨by omega, hl4, hri, fun k x hk hx => ?_, hS⟩
          rcases Nat.lt_or_ge k i with h' | h'
          · exact hf k x h' hx
          · obtain rfl : k = i := by omega
            rw [hy] at hx
            obtain rfl := Option.some.inj hx
            assumption
      · (try simp only [cx, ne_eq] at h3)
        try (exfalso; (first | omega | exact h3 trivial | contradiction); done)
        all_goals
        refine SatC.exit (SatE.then_exit (SatE.then_exit (SatE.blk_exit (SatE.thenC ?_))))
        refine SatC.seq ?_
        refine SatC.region ?_
        refine SatL.pu (RunV.assign rfl) rfl ?_
        refine SatL.nil (SatE.thenC ?_)
        refine SatC.ret ?_
        refine SatE.ret1 rfl rfl ?_
        refine ⟨congrArg Value.bool ?_, hS⟩
        first
        | exact (tagN_no (fun h => by omega)).symm
        | (refine (tagN_no (fun h => ?_)).symm
           have := h.2.1
           simp_all
           done)
        | (refine (tagN_no (fun h => ?_)).symm
           have := h.2.2 y (List.mem_of_getElem? hy)
           simp_all
           done)
        | (refine ((tagN_iff l).2 ⟨hl4, hri, fun x hx => ?_⟩).symm
           obtain ⟨k, hk⟩ := List.getElem?_of_mem hx
           exact hf k x (by have := (List.getElem?_eq_some_iff.1 hk).1; omega) hk)
  · (try simp only [cx, ne_eq] at h1)
    try (exfalso; (first | omega | exact h1 trivial | contradiction); done)
    all_goals
    refine SatL.guard_n rfl rfl rfl rfl ?_
    refine SatL.guard_n rfl rfl rfl rfl ?_
    refine SatL.pu (RunV.pick_t rfl rfl) rfl ?_
    refine SatL.nil (SatE.thenC ?_)
    refine SatC.cond_t rfl ?_
    refine SatC.seq ?_
    refine SatC.region ?_
    refine SatL.pu (RunV.assign rfl) rfl ?_
    refine SatL.nil (SatE.thenC ?_)
    refine SatC.ret (SatE.then_ret ?_)
    refine SatE.ret1 rfl rfl ?_
    refine ⟨congrArg Value.bool ?_, hS⟩
    first
    | exact (tagN_no (fun h => by omega)).symm
    | (refine (tagN_no (fun h => ?_)).symm
       have := h.2.1
       simp_all
       done)
    | (refine (tagN_no (fun h => ?_)).symm
       have := h.2.2 y (List.mem_of_getElem? hy)
       simp_all
       done)
    | (refine ((tagN_iff l).2 ⟨hl4, hri, fun x hx => ?_⟩).symm
       obtain ⟨k, hk⟩ := List.getElem?_of_mem hx
       exact hf k x (by have := (List.getElem?_eq_some_iff.1 hk).1; omega) hk)
theorem tags_any (v : Value) (l : List (List UInt8)) (w : World) (hr : RdRow w v 1 (l.map rs)) : Ret Try.prog 58 #[v] w fun u w' => u = .bool (tagN l) ∧ St w [] [] w' := by
  have hS := St.init0 w
  obtain ⟨b, o, c, hv, hmax, hc, hlt⟩ := hr.open
  simp only [List.length_map] at hv hmax hlt
  refine Ret.enter Try.func58 Try.ntmps58 rfl rfl ?_
  simp only [argEnv, Nat.reduceAdd]
  refine SatC.seq ?_
  refine SatC.region ?_
  refine SatL.pu (RunV.assign rfl) rfl ?_
  refine SatL.nil (SatE.thenC ?_)
  refine SatC.seq ?_
  refine SatC.seq ?_
  refine SatC.region ?_
  refine SatL.pu (RunV.move rfl) rfl ?_
  first | refine SatL.pu (RunV.lenR (by assumption) rfl rfl) rfl ?_ | refine SatL.pu (RunV.lenS rfl rfl) rfl ?_
  refine SatL.pu (RunV.gtr rfl rfl) rfl ?_
  refine SatL.nil (SatE.thenC ?_)
  refine SatC.cond rfl (fun h1 => ?_) (fun h1 => ?_)
  · (try simp only [cx, ne_eq] at h1)
    try (exfalso; (first | omega | exact h1 trivial | contradiction); done)
    all_goals
    refine SatC.seq ?_
    refine SatC.region ?_
    refine SatL.pu (RunV.assign rfl) rfl ?_
    refine SatL.nil (SatE.thenC ?_)
    refine SatC.ret (SatE.then_ret ?_)
    refine SatE.ret1 rfl rfl ?_
    refine ⟨congrArg Value.bool ?_, hS⟩
    first
    | exact (tagN_no (fun h => by omega)).symm
    | (refine (tagN_no (fun h => ?_)).symm
       have := h.2.2 y (List.mem_of_getElem? hy)
       simp_all
       done)
    | (refine (tagN_no (fun h => ?_)).symm
       have := (rising_iff l).1 h.2.1 i (by omega) (by omega)
       rw [hd] at this
       exact (by assumption : ¬ l.getD (i - 1) [] < y) this)
    | (refine ((tagN_iff l).2 ⟨hl4, (rising_iff l).2 fun k h0 hk => hri k h0 (by omega), fun x hx => ?_⟩).symm
       obtain ⟨k, hk⟩ := List.getElem?_of_mem hx
       exact hf k x (by have := (List.getElem?_eq_some_iff.1 hk).1; omega) hk)
  · (try simp only [cx, ne_eq] at h1)
    try (exfalso; (first | omega | exact h1 trivial | contradiction); done)
    all_goals
    refine SatC.skip (SatE.thenC ?_)
    refine SatC.seq ?_
    refine SatC.seq ?_
    refine SatC.region ?_
    refine SatL.pu (RunV.move rfl) rfl ?_
    first | refine SatL.pu (RunV.lenR (by assumption) rfl rfl) rfl ?_ | refine SatL.pu (RunV.lenS rfl rfl) rfl ?_
    refine SatL.pu (RunV.move rfl) rfl ?_
    refine SatL.nil (SatE.thenC ?_)
    refine SatC.block ?_
    refine SatC.loopK (G := Nat) (V := fun i => [(10, .int .i64 (i : Int))]) (Cn := [(0, _), (8, _), (9, _), (2, _)]) (I := fun i w' => i ≤ l.length ∧ l.length ≤ 4 ∧ (∀ k x, k < i → l[k]? = some x → okN x = true) ∧ (∀ k, 0 < k → k < i → l.getD (k - 1) [] < l.getD k []) ∧ St w [] [] w') (μ := fun i => l.length - i) 0 ?_ (by repeat constructor) ?_
    · exact ⟨by omega, by omega, fun k x h0 h1 => by omega, fun k h0 h1 => by omega, hS⟩
    clear hS
    rintro i w1 ⟨hi, hl4, hf, hri, hS⟩
    refine SatC.weak (e' := [(0, _), (2, _), (8, _), (9, _), (10, _)]) (by repeat constructor) ?_
    refine SatC.seq ?_
    refine SatC.region ?_
    refine SatL.pu (RunV.lss rfl rfl) rfl ?_
    refine SatL.nil (SatE.thenC ?_)
    refine SatC.seq ?_
    refine SatC.cond rfl (fun h2 => ?_) (fun h2 => ?_)
    · (try simp only [cx, ne_eq] at h2)
      try (exfalso; (first | omega | exact h2 trivial | contradiction); done)
      all_goals
      refine SatC.skip (SatE.thenC ?_)
      refine SatC.seq ?_
      refine SatC.block ?_
      refine SatC.seq ?_
      obtain ⟨y, hy⟩ := get_some l i (by omega)
      have hd := gD hy
      have hx' : 0 < i → l[((i : Int) - 1).toNat]? = some (l.getD (i - 1) []) := fun h => by
        obtain ⟨x, hx⟩ := get_some l (i - 1) (by omega)
        rw [gD hx, show ((i : Int) - 1).toNat = i - 1 by omega]
        exact hx
      refine SatC.region ?_
      refine SatL.pu (RunV.move rfl) rfl ?_
      first | refine SatL.pu (RunV.indexR (by assumption) rfl rfl rfl (by omega) (by omega) rfl) rfl ?_ | refine SatL.pu (RunV.indexS rfl rfl rfl (by omega) (by omega) rfl) rfl ?_
      first | refine SatL.pu (RunV.loadR1z (RdC.st (by assumption) hS List.not_mem_nil) rfl rfl (by first | assumption | exact map_get (by assumption)) rfl) rfl ?_ | refine SatL.pu (RunV.loadR1z (Sl.rd (by assumption) hS (by repeat constructor)) rfl rfl (by first | assumption | exact map_get (by assumption)) rfl) rfl ?_
      refine SatL.pu (RunV.assign rfl) rfl ?_
      refine SatL.pu (RunV.assign rfl) rfl ?_
      refine SatL.nil (SatE.thenC ?_)
      refine SatC.seq ?_
      refine SatC.region ?_
      refine SatL.pu (RunV.move rfl) rfl ?_
      refine SatL.op rfl (OpW.enter rfl rfl rfl (rfl) (right_any _ _) ?_)
      rintro r2 w2 ⟨rfl, h⟩
      replace hS := St.callN hS h
      refine SatL.pu (RunV.not rfl) rfl ?_
      refine SatL.pu (RunV.move rfl) rfl ?_
      refine SatL.guard rfl rfl rfl (fun h3 => ?_) (fun h3 => ?_)
      · (try simp only [cx, ne_eq] at h3)
        try (exfalso; (first | omega | exact h3 trivial | contradiction); done)
        all_goals
        refine SatL.pu (RunV.move rfl) rfl ?_
        refine SatL.guard_y rfl rfl ?_
        refine SatL.pu (RunV.gtr rfl rfl) rfl ?_
        refine SatL.guard_y rfl rfl ?_
        refine SatL.pu (RunV.move rfl) rfl ?_
        refine SatL.guard rfl rfl rfl (fun h4 => ?_) (fun h4 => ?_)
        · (try simp only [cx, ne_eq] at h4)
          try (exfalso; (first | omega | exact h4 trivial | contradiction); done)
          all_goals
          refine SatL.pu (RunV.move rfl) rfl ?_
          refine SatL.guard_y rfl rfl ?_
          refine SatL.pu (RunV.move rfl) rfl ?_
          refine SatL.guard_y rfl rfl ?_
          refine SatL.pu (RunV.sub rfl rfl (by first | exact wrapI64 (by omega) | rfl)) rfl ?_
          refine SatL.guard_y rfl rfl ?_
          first | refine SatL.pu (RunV.indexR (by assumption) rfl rfl rfl (by omega) (by omega) rfl) rfl ?_ | refine SatL.pu (RunV.indexS rfl rfl rfl (by omega) (by omega) rfl) rfl ?_
          refine SatL.guard_y rfl rfl ?_
          refine SatL.pu (RunV.loadR1z (RdC.st hc hS List.not_mem_nil) rfl rfl (map_get (hx' (by omega))) rfl) rfl ?_
          refine SatL.guard_y rfl rfl ?_
          refine SatL.pu (RunV.move rfl) rfl ?_
          refine SatL.guard_y rfl rfl ?_
          refine SatL.pu (RunV.sgeq rfl rfl) rfl ?_
          refine SatL.guard_y rfl rfl ?_
          refine SatL.pu (RunV.pick_t rfl rfl) rfl ?_
          refine SatL.pu (RunV.pick_f rfl rfl) rfl ?_
          refine SatL.nil (SatE.thenC ?_)
          refine SatC.weak (e' := [(0, _), (2, _), (8, _), (9, _), (10, _), (30, _)]) (by repeat constructor) ?_
          refine SatC.cond rfl (fun h5 => ?_) (fun h5 => ?_)
          · (try simp only [cx, ne_eq] at h5)
            try (exfalso; (first | omega | exact h5 trivial | contradiction); done)
            all_goals
            refine SatC.seq ?_
            refine SatC.region ?_
            refine SatL.pu (RunV.assign rfl) rfl ?_
            refine SatL.nil (SatE.thenC ?_)
            refine SatC.ret (SatE.blk_ret (SatE.then_ret (SatE.then_ret (SatE.blk_ret (SatE.then_ret ?_)))))
            refine SatE.ret1 rfl rfl ?_
            refine ⟨congrArg Value.bool ?_, hS⟩
            first
            | exact (tagN_no (fun h => by omega)).symm
            | (refine (tagN_no (fun h => ?_)).symm
               have := h.2.2 y (List.mem_of_getElem? hy)
               simp_all
               done)
            | (refine (tagN_no (fun h => ?_)).symm
               have := (rising_iff l).1 h.2.1 i (by omega) (by omega)
               rw [hd] at this
               exact (by assumption : ¬ l.getD (i - 1) [] < y) this)
            | (refine ((tagN_iff l).2 ⟨hl4, (rising_iff l).2 fun k h0 hk => hri k h0 (by omega), fun x hx => ?_⟩).symm
               obtain ⟨k, hk⟩ := List.getElem?_of_mem hx
               exact hf k x (by have := (List.getElem?_eq_some_iff.1 hk).1; omega) hk)
          · (try simp only [cx, ne_eq] at h5)
            try (exfalso; (first | omega | exact h5 trivial | contradiction); done)
            all_goals
            refine SatC.skip (SatE.blk_normal (SatE.thenC ?_))
            refine SatC.region ?_
            refine SatL.pu (RunV.add rfl rfl (by first | exact wrapI64 (by omega) | rfl)) rfl ?_
            refine SatL.pu (RunV.move rfl) rfl ?_
            refine SatL.nil ?_
            refine SatE.again (i + 1) ?_ (by first | omega | (dsimp only; omega)) (by repeat constructor)
            refine ⟨by omega, hl4, fun k x hk hx => ?_, fun k h0 hk => ?_, hS⟩
            · rcases Nat.lt_or_ge k i with h' | h'
              · exact hf k x h' hx
              · obtain rfl : k = i := by omega
                rw [hy] at hx
                obtain rfl := Option.some.inj hx
                assumption
            · rcases Nat.lt_or_ge k i with h' | h'
              · exact hri k h0 h'
              · obtain rfl : k = i := by omega
                rw [hd]
                first | assumption | omega
        · (try simp only [cx, ne_eq] at h4)
          try (exfalso; (first | omega | exact h4 trivial | contradiction); done)
          all_goals
          refine SatL.guard_n rfl rfl rfl rfl ?_
          refine SatL.guard_n rfl rfl rfl rfl ?_
          refine SatL.guard_n rfl rfl rfl rfl ?_
          refine SatL.guard_n rfl rfl rfl rfl ?_
          refine SatL.guard_n rfl rfl rfl rfl ?_
          refine SatL.guard_n rfl rfl rfl rfl ?_
          refine SatL.guard_y rfl rfl ?_
          refine SatL.pu (RunV.pick_f rfl rfl) rfl ?_
          refine SatL.pu (RunV.pick_f rfl rfl) rfl ?_
          refine SatL.nil (SatE.thenC ?_)
          refine SatC.weak (e' := [(0, _), (2, _), (8, _), (9, _), (10, _), (30, _)]) (by repeat constructor) ?_
          refine SatC.cond_f rfl ?_
          refine SatC.skip (SatE.blk_normal (SatE.thenC ?_))
          refine SatC.region ?_
          refine SatL.pu (RunV.add rfl rfl (by first | exact wrapI64 (by omega) | rfl)) rfl ?_
          refine SatL.pu (RunV.move rfl) rfl ?_
          refine SatL.nil ?_
          refine SatE.again (i + 1) ?_ (by first | omega | (dsimp only; omega)) (by repeat constructor)
          refine ⟨by omega, hl4, fun k x hk hx => ?_, fun k h0 hk => ?_, hS⟩
          · rcases Nat.lt_or_ge k i with h' | h'
            · exact hf k x h' hx
            · obtain rfl : k = i := by omega
              rw [hy] at hx
              obtain rfl := Option.some.inj hx
              assumption
          · rcases Nat.lt_or_ge k i with h' | h'
            · exact hri k h0 h'
            · obtain rfl : k = i := by omega
              rw [hd]
              first | assumption | omega
      · (try simp only [cx, ne_eq] at h3)
        try (exfalso; (first | omega | exact h3 trivial | contradiction); done)
        all_goals
        refine SatL.guard_n rfl rfl rfl rfl ?_
        refine SatL.guard_n rfl rfl rfl rfl ?_
        refine SatL.guard_u rfl rfl rfl ?_
        refine SatL.guard_u rfl rfl rfl ?_
        refine SatL.guard_u rfl rfl rfl ?_
        refine SatL.guard_u rfl rfl rfl ?_
        refine SatL.guard_u rfl rfl rfl ?_
        refine SatL.guard_u rfl rfl rfl ?_
        refine SatL.guard_u rfl rfl rfl ?_
        refine SatL.guard_n rfl rfl rfl rfl ?_
        refine SatL.pu (RunV.pick_t rfl rfl) rfl ?_
        refine SatL.nil (SatE.thenC ?_)
        refine SatC.weak (e' := [(0, _), (2, _), (8, _), (9, _), (10, _), (30, _)]) (by repeat constructor) ?_
        refine SatC.cond_t rfl ?_
        refine SatC.seq ?_
        refine SatC.region ?_
        refine SatL.pu (RunV.assign rfl) rfl ?_
        refine SatL.nil (SatE.thenC ?_)
        refine SatC.ret (SatE.blk_ret (SatE.then_ret (SatE.then_ret (SatE.blk_ret (SatE.then_ret ?_)))))
        refine SatE.ret1 rfl rfl ?_
        refine ⟨congrArg Value.bool ?_, hS⟩
        first
        | exact (tagN_no (fun h => by omega)).symm
        | (refine (tagN_no (fun h => ?_)).symm
           have := h.2.2 y (List.mem_of_getElem? hy)
           simp_all
           done)
        | (refine (tagN_no (fun h => ?_)).symm
           have := (rising_iff l).1 h.2.1 i (by omega) (by omega)
           rw [hd] at this
           exact (by assumption : ¬ l.getD (i - 1) [] < y) this)
        | (refine ((tagN_iff l).2 ⟨hl4, (rising_iff l).2 fun k h0 hk => hri k h0 (by omega), fun x hx => ?_⟩).symm
           obtain ⟨k, hk⟩ := List.getElem?_of_mem hx
           exact hf k x (by have := (List.getElem?_eq_some_iff.1 hk).1; omega) hk)
    · (try simp only [cx, ne_eq] at h2)
      try (exfalso; (first | omega | exact h2 trivial | contradiction); done)
      all_goals
      refine SatC.exit (SatE.then_exit (SatE.then_exit (SatE.blk_exit (SatE.thenC ?_))))
      refine SatC.seq ?_
      refine SatC.region ?_
      refine SatL.pu (RunV.assign rfl) rfl ?_
      refine SatL.nil (SatE.thenC ?_)
      refine SatC.ret ?_
      refine SatE.ret1 rfl rfl ?_
      refine ⟨congrArg Value.bool ?_, hS⟩
      first
      | exact (tagN_no (fun h => by omega)).symm
      | (refine (tagN_no (fun h => ?_)).symm
         have := h.2.2 y (List.mem_of_getElem? hy)
         simp_all
         done)
      | (refine (tagN_no (fun h => ?_)).symm
         have := (rising_iff l).1 h.2.1 i (by omega) (by omega)
         rw [hd] at this
         exact (by assumption : ¬ l.getD (i - 1) [] < y) this)
      | (refine ((tagN_iff l).2 ⟨hl4, (rising_iff l).2 fun k h0 hk => hri k h0 (by omega), fun x hx => ?_⟩).symm
         obtain ⟨k, hk⟩ := List.getElem?_of_mem hx
         exact hf k x (by have := (List.getElem?_eq_some_iff.1 hk).1; omega) hk)
end Go.Proofs.Ytbnkcagcfbpiiaa
