/- Of a list without two of the same source and destination the order does not count, nor what does not take the destination. No condition. -/
import Derived.Test.YtogohendjjgbiaaW
import Derived.Test.YtogohendjjgbiaaK7
import Derived.Test.YtogohendjjgbiaaK16
import Derived.Test.YtogohendjjgbiaaK34
import Derived.Test.YtogohendjjgbiaaRows
set_option linter.unusedSimpArgs false
set_option linter.unusedVariables false
set_option maxRecDepth 100000
set_option maxHeartbeats 4000000
namespace Go.Proofs.Ytogohendjjgbiaa
open Go.RowKit Go.ChangeShapes Go.WideShapes Go.ChangeAt
def UnlikeL (l : List Itn) : Prop := ∀ (i j : Nat) (x y : Itn), l[i]? = some x → l[j]? = some y → x.s = y.s → x.d = y.d → i = j
theorem ok_star : okN [42] = false := by decide +kernel
theorem mt_cases {p s : List UInt8} (h : mt p s = true) : ¬ s = [42] ∧ (p = [42] ∨ p = s) := by
  unfold mt at h
  simp only [Bool.and_eq_true, Bool.or_eq_true, decide_eq_true_eq] at h
  exact ⟨fun e => by rw [e, ok_star] at h; exact absurd h.1 (by decide), h.2⟩
theorem same_of {x y : Itn} {s d : List UInt8} (hx : mI x s d = true) (hy : mI y s d = true) (hr : rankI x = rankI y) : x.s = y.s ∧ x.d = y.d := by
  unfold mI at hx hy
  rw [Bool.and_eq_true] at hx hy
  obtain ⟨hs, h1⟩ := mt_cases hx.1
  obtain ⟨hd, h2⟩ := mt_cases hx.2
  obtain ⟨_, h3⟩ := mt_cases hy.1
  obtain ⟨_, h4⟩ := mt_cases hy.2
  unfold rankI at hr
  rcases h1 with h1 | h1 <;> rcases h2 with h2 | h2 <;> rcases h3 with h3 | h3 <;> rcases h4 with h4 | h4 <;> simp_all
theorem best_same {l m : List Itn} {s d : List UInt8} {df : Bool} {a c : Int} (hu : UnlikeL l) (hm : ∀ x, mI x s d = true → (x ∈ m ↔ x ∈ l)) (h : Best l s d a) (h' : Best m s d c) :
    alwI m df c = alwI l df a ∧ (a < 0 ↔ c < 0) ∧ ∀ (k : Nat) x, a = k → l[k]? = some x → ∃ j : Nat, c = j ∧ m[j]? = some x := by
  rcases h with ⟨rfl, h⟩ | ⟨k, x, rfl, hk, hx, hb⟩
  · rcases h' with ⟨rfl, h'⟩ | ⟨j, y, rfl, hj, hy, _⟩
    · exact ⟨rfl, Iff.rfl, fun k x hk => by omega⟩
    · have := h y ((hm y hy).1 (List.mem_of_getElem? hj))
      rw [hy] at this; cases this
  · have hxm := (hm x hx).2 (List.mem_of_getElem? hk)
    rcases h' with ⟨rfl, h'⟩ | ⟨j, y, rfl, hj, hy, hb'⟩
    · have := h' x hxm
      rw [hx] at this; cases this
    · obtain ⟨j2, hj2⟩ := List.getElem?_of_mem hxm
      obtain ⟨k2, hk2⟩ := List.getElem?_of_mem ((hm y hy).1 (List.mem_of_getElem? hj))
      have h1 := (hb' j2 x hj2 hx).1
      have h2 := (hb k2 y hk2 hy).1
      obtain ⟨e1, e2⟩ := same_of hx hy (by omega)
      obtain rfl := hu k k2 x y hk hk2 e1 e2
      rw [hk] at hk2
      cases hk2
      refine ⟨by rw [alw_get hj, alw_get hk], by omega, fun k' x' e hk' => ⟨j, rfl, ?_⟩⟩
      obtain rfl : k = k' := by omega
      rw [hk] at hk'
      cases hk'
      exact hj
theorem best_back {l : List Itn} {s d : List UInt8} {df : Bool} {a c : Int} (hu : UnlikeL l) (h : Best l s d a) (h' : Best l.reverse s d c) :
    alwI l.reverse df c = alwI l df a ∧ (a < 0 ↔ c < 0) ∧ (0 ≤ a → a = (l.length : Int) - 1 - c) := by
  obtain ⟨h1, h2, h3⟩ := best_same (df := df) hu (fun x _ => List.mem_reverse) h h'
  refine ⟨h1, h2, fun ha => ?_⟩
  have hl := best_lt h
  obtain ⟨x, hx⟩ := get_some l a.toNat (by omega)
  obtain ⟨j, rfl, hj⟩ := h3 a.toNat x (by omega) hx
  have hjl := (List.getElem?_eq_some_iff.1 hj).1
  rw [List.length_reverse] at hjl
  rw [List.getElem?_reverse hjl] at hj
  have := hu _ _ x x hx hj rfl rfl
  omega
theorem unlike_any (v : Value) (l : List Itn) (w : World) (hr : RdRow w v 5 (l.map ic)) : Ret Try.prog 15 #[v] w fun u w' => ∃ q : Bool, u = .bool q ∧ (q = true → UnlikeL l) ∧ St w [] [] w' := by
  obtain ⟨b, o, c, hv0, hl, hrd, _⟩ := hr.open
  rw [List.length_map] at hv0 hl
  have hS := St.init0 w
  refine Ret.enter Try.func15 Try.ntmps15 rfl rfl ?_
  simp only [argEnv, Nat.reduceAdd]
  refine SatC.seq ?_
  refine SatC.region ?_
  refine SatL.pu (RunV.assign rfl) rfl ?_
  refine SatL.nil (SatE.thenC ?_)
  refine SatC.seq ?_
  refine SatC.seq ?_
  refine SatC.region ?_
  refine SatL.pu (RunV.assign rfl) rfl ?_
  refine SatL.nil (SatE.thenC ?_)
  refine SatC.block ?_
  refine SatC.loopK (G := Nat) (V := fun k => [(3, .int .i64 (k : Int))]) (Cn := [(0, _), (2, _)]) (I := fun k w' => k ≤ l.length ∧ (∀ (i j : Nat) (x y : Itn), i < j → j < k → l[i]? = some x → l[j]? = some y → x.s = y.s → x.d = y.d → False) ∧ St w [] [] w') (μ := fun k => l.length - k) 0 ?_ (by repeat constructor) ?_
  · exact ⟨by omega, fun i j x y _ h => by omega, hS⟩
  clear hS
  rintro k w1 ⟨hk, hno, hS⟩
  refine SatC.weak (e' := [(0, _), (2, _), (3, _)]) (by repeat constructor) ?_
  refine SatC.seq ?_
  refine SatC.seq ?_
  refine SatC.region ?_
  refine SatL.pu (RunV.move rfl) rfl ?_
  refine SatL.pu (RunV.move rfl) rfl ?_
  refine SatL.pu (RunV.lenR hv0 rfl rfl) rfl ?_
  refine SatL.pu (RunV.lss rfl rfl) rfl ?_
  refine SatL.nil (SatE.thenC ?_)
  refine SatC.cond rfl (fun h1 => ?_) (fun h1 => ?_)
  · (try simp only [cx, ne_eq] at h1)
    try (exfalso; (first | omega | exact h1 trivial | contradiction | (first | omega | exact h1 rfl | (simp at h1; done))); done)
    all_goals
    refine SatC.skip (SatE.thenC ?_)
    refine SatC.seq ?_
    refine SatC.block ?_
    refine SatC.seq ?_
    refine SatC.region ?_
    refine SatL.pu (RunV.assign rfl) rfl ?_
    refine SatL.nil (SatE.thenC ?_)
    refine SatC.block ?_
    refine SatC.loopK (G := Nat) (V := fun j => [(4, .int .i64 (j : Int))]) (Cn := [(0, _), (3, _), (2, _)]) (I := fun j w' => j ≤ k ∧ (∀ (i : Nat) (x y : Itn), i < j → l[i]? = some x → l[k]? = some y → x.s = y.s → x.d = y.d → False) ∧ St w [] [] w') (μ := fun j => k - j) 0 ?_ (by repeat constructor) ?_
    · exact ⟨by omega, fun i x y h => by omega, hS⟩
    clear hS
    rintro j w2 ⟨hj, hnj, hS⟩
    refine SatC.weak (e' := [(0, _), (2, _), (3, _), (4, _)]) (by repeat constructor) ?_
    refine SatC.seq ?_
    refine SatC.seq ?_
    refine SatC.region ?_
    refine SatL.pu (RunV.move rfl) rfl ?_
    refine SatL.pu (RunV.move rfl) rfl ?_
    refine SatL.pu (RunV.lss rfl rfl) rfl ?_
    refine SatL.nil (SatE.thenC ?_)
    refine SatC.cond rfl (fun h2 => ?_) (fun h2 => ?_)
    · (try simp only [cx, ne_eq] at h2)
      try (exfalso; (first | omega | exact h2 trivial | contradiction | (first | omega | exact h2 rfl | (simp at h2; done))); done)
      all_goals
      refine SatC.skip (SatE.thenC ?_)
      refine SatC.seq ?_
      refine SatC.block ?_
      refine SatC.seq ?_
      obtain ⟨y, hy⟩ := get_some l k (by omega)
      obtain ⟨z, hz⟩ := get_some l j (by omega)
      refine SatC.drawnT 24 hS (hS) (by kernel_rfl) ?_
      clear hS
      intro w3 hh hS hD
      refine SatD.tk 0 rfl hD (fun _ hw => RunV.move rfl) ?_
      refine SatD.tk 1 rfl hD (fun _ hw => RunV.move rfl) ?_
      refine SatD.tk 2 rfl hD (fun _ hw => RunV.indexR hv0 rfl rfl rfl (by omega) (by omega) rfl) ?_
      first | refine SatD.tk 3 rfl hD (fun _ hw => RunV.fieldAddrL rfl rfl rfl) ?_ | refine SatD.tk 3 rfl hD (fun _ hw => RunV.fieldAddr rfl rfl rfl) ?_
      refine SatD.tk 4 rfl hD (fun _ hw => RunV.loadR1f (hrd.st hw List.not_mem_nil) rfl rfl (map_get hz) rfl) ?_
      refine SatD.tk 5 rfl hD (fun _ hw => RunV.move rfl) ?_
      refine SatD.tk 6 rfl hD (fun _ hw => RunV.move rfl) ?_
      refine SatD.tk 7 rfl hD (fun _ hw => RunV.indexR hv0 rfl rfl rfl (by omega) (by omega) rfl) ?_
      first | refine SatD.tk 8 rfl hD (fun _ hw => RunV.fieldAddrL rfl rfl rfl) ?_ | refine SatD.tk 8 rfl hD (fun _ hw => RunV.fieldAddr rfl rfl rfl) ?_
      refine SatD.tk 9 rfl hD (fun _ hw => RunV.loadR1f (hrd.st hw List.not_mem_nil) rfl rfl (map_get hy) rfl) ?_
      refine SatD.tk 10 rfl hD (fun _ hw => RunV.seql rfl rfl) ?_
      refine SatD.tk 11 rfl hD (fun _ hw => RunV.move rfl) ?_
      refine SatD.ways 27 rfl (fun h3 => ?_) (fun h3 => ?_)
      · (try simp only [cx, ne_eq] at h3)
        try (exfalso; (first | omega | exact h3 trivial | contradiction | (first | omega | exact h3 rfl | (simp at h3; done))); done)
        all_goals
        refine SatD.tk 12 rfl hD (fun _ hw => RunV.move rfl) ?_
        refine SatD.tk 13 rfl hD (fun _ hw => RunV.move rfl) ?_
        refine SatD.tk 14 rfl hD (fun _ hw => RunV.indexR hv0 rfl rfl rfl (by omega) (by omega) rfl) ?_
        first | refine SatD.tk 15 rfl hD (fun _ hw => RunV.fieldAddrL rfl rfl rfl) ?_ | refine SatD.tk 15 rfl hD (fun _ hw => RunV.fieldAddr rfl rfl rfl) ?_
        refine SatD.tk 16 rfl hD (fun _ hw => RunV.loadR1f (hrd.st hw List.not_mem_nil) rfl rfl (map_get hz) rfl) ?_
        refine SatD.tk 17 rfl hD (fun _ hw => RunV.move rfl) ?_
        refine SatD.tk 18 rfl hD (fun _ hw => RunV.move rfl) ?_
        refine SatD.tk 19 rfl hD (fun _ hw => RunV.indexR hv0 rfl rfl rfl (by omega) (by omega) rfl) ?_
        first | refine SatD.tk 20 rfl hD (fun _ hw => RunV.fieldAddrL rfl rfl rfl) ?_ | refine SatD.tk 20 rfl hD (fun _ hw => RunV.fieldAddr rfl rfl rfl) ?_
        refine SatD.tk 21 rfl hD (fun _ hw => RunV.loadR1f (hrd.st hw List.not_mem_nil) rfl rfl (map_get hy) rfl) ?_
        refine SatD.tk 22 rfl hD (fun _ hw => RunV.seql rfl rfl) ?_
        refine SatD.tk 23 rfl hD (fun _ hw => RunV.pick_t rfl rfl) ?_
        refine SatD.done 0 (by kernel_rfl) (SatE.thenC ?_)
        clear hD
        refine SatC.weak (e' := [(0, _), (2, _), (3, _), (4, _), (39, _)]) (by repeat constructor) ?_
        refine SatC.cond rfl (fun h4 => ?_) (fun h4 => ?_)
        · (try simp only [cx, ne_eq] at h4)
          try (exfalso; (first | omega | exact h4 trivial | contradiction | (first | omega | exact h4 rfl | (simp at h4; done))); done)
          all_goals
          refine SatC.seq ?_
          refine SatC.region ?_
          refine SatL.pu (RunV.assign rfl) rfl ?_
          refine SatL.nil (SatE.thenC ?_)
          refine SatC.ret (SatE.blk_ret (SatE.then_ret (SatE.then_ret (SatE.blk_ret (SatE.blk_ret (SatE.then_ret (SatE.then_ret (SatE.blk_ret (SatE.then_ret ?_)))))))))
          refine SatE.ret1 rfl rfl ?_
          exact ⟨false, rfl, (fun h => by cases h), hS⟩
        · (try simp only [cx, ne_eq] at h4)
          try (exfalso; (first | omega | exact h4 trivial | contradiction | (first | omega | exact h4 rfl | (simp at h4; done))); done)
          all_goals
          refine SatC.skip (SatE.blk_normal (SatE.thenC ?_))
          refine SatC.region ?_
          refine SatL.pu (RunV.move rfl) rfl ?_
          refine SatL.pu (RunV.add rfl rfl (by first | exact wrapI64 (by omega) | rfl)) rfl ?_
          refine SatL.pu (RunV.assign rfl) rfl ?_
          refine SatL.nil ?_
          refine SatE.again (j + 1) ?_ (by first | omega | (dsimp only; omega)) (by repeat constructor)
          exact ⟨by omega, fun i x1 y1 hi hx1 hy1 e1 e2 => by
            by_cases e : i = j
            · subst e
              rw [hz] at hx1
              rw [hy] at hy1
              cases hx1
              cases hy1
              contradiction
            · exact hnj i x1 y1 (by omega) hx1 hy1 e1 e2, hS⟩
      · (try simp only [cx, ne_eq] at h3)
        try (exfalso; (first | omega | exact h3 trivial | contradiction | (first | omega | exact h3 rfl | (simp at h3; done))); done)
        all_goals
        refine SatD.sk 12 rfl [] hD ?_
        refine SatD.sk 13 rfl [] hD ?_
        refine SatD.sk 14 rfl [] hD ?_
        refine SatD.sk 15 rfl [] hD ?_
        refine SatD.sk 16 rfl [] hD ?_
        refine SatD.sk 17 rfl [] hD ?_
        refine SatD.sk 18 rfl [] hD ?_
        refine SatD.sk 19 rfl [] hD ?_
        refine SatD.sk 20 rfl [] hD ?_
        refine SatD.sk 21 rfl [] hD ?_
        refine SatD.sk 22 rfl [] hD ?_
        refine SatD.tk 23 rfl hD (fun _ hw => RunV.pick_f rfl rfl) ?_
        refine SatD.done 0 (by kernel_rfl) (SatE.thenC ?_)
        clear hD
        refine SatC.weak (e' := [(0, _), (2, _), (3, _), (4, _), (39, _)]) (by repeat constructor) ?_
        refine SatC.cond_f rfl ?_
        refine SatC.skip (SatE.blk_normal (SatE.thenC ?_))
        refine SatC.region ?_
        refine SatL.pu (RunV.move rfl) rfl ?_
        refine SatL.pu (RunV.add rfl rfl (by first | exact wrapI64 (by omega) | rfl)) rfl ?_
        refine SatL.pu (RunV.assign rfl) rfl ?_
        refine SatL.nil ?_
        refine SatE.again (j + 1) ?_ (by first | omega | (dsimp only; omega)) (by repeat constructor)
        exact ⟨by omega, fun i x1 y1 hi hx1 hy1 e1 e2 => by
          by_cases e : i = j
          · subst e
            rw [hz] at hx1
            rw [hy] at hy1
            cases hx1
            cases hy1
            contradiction
          · exact hnj i x1 y1 (by omega) hx1 hy1 e1 e2, hS⟩
    · (try simp only [cx, ne_eq] at h2)
      try (exfalso; (first | omega | exact h2 trivial | contradiction | (first | omega | exact h2 rfl | (simp at h2; done))); done)
      all_goals
      refine SatC.exit (SatE.then_exit (SatE.then_exit (SatE.blk_exit (SatE.blk_normal (SatE.thenC ?_)))))
      refine SatC.region ?_
      refine SatL.pu (RunV.move rfl) rfl ?_
      refine SatL.pu (RunV.add rfl rfl (by first | exact wrapI64 (by omega) | rfl)) rfl ?_
      refine SatL.pu (RunV.assign rfl) rfl ?_
      refine SatL.nil ?_
      refine SatE.again (k + 1) ?_ (by first | omega | (dsimp only; omega)) (by repeat constructor)
      exact ⟨by omega, fun i j1 x1 y1 hi hj1 hx1 hy1 e1 e2 => by
        by_cases e : j1 = k
        · subst e
          exact hnj i x1 y1 (by omega) hx1 hy1 e1 e2
        · exact hno i j1 x1 y1 hi (by omega) hx1 hy1 e1 e2, hS⟩
  · (try simp only [cx, ne_eq] at h1)
    try (exfalso; (first | omega | exact h1 trivial | contradiction | (first | omega | exact h1 rfl | (simp at h1; done))); done)
    all_goals
    refine SatC.exit (SatE.then_exit (SatE.then_exit (SatE.blk_exit (SatE.thenC ?_))))
    refine SatC.seq ?_
    refine SatC.region ?_
    refine SatL.pu (RunV.assign rfl) rfl ?_
    refine SatL.nil (SatE.thenC ?_)
    refine SatC.ret ?_
    refine SatE.ret1 rfl rfl ?_
    refine ⟨true, rfl, fun _ i j x y hx hy e1 e2 => ?_, hS⟩
    have h1 := (List.getElem?_eq_some_iff.1 hx).1
    have h2 := (List.getElem?_eq_some_iff.1 hy).1
    rcases Nat.lt_trichotomy i j with h | h | h
    · exact (hno i j x y h (by omega) hx hy e1 e2).elim
    · exact h
    · exact (hno j i y x h (by omega) hy hx e1.symm e2.symm).elim
theorem rfor_any (v : Value) (l : List Itn) (d : List UInt8) (hl2 : l.length ≤ 1000) (w : World) (hr : RdRow w v 5 (l.map ic)) : Ret Try.prog 16 #[v, str d] w fun u w' => ∃ B', Sl 28 5 u ((forI d l).map ic) B' ∧ St w [] B' w' := by
  obtain ⟨b, o, c, hv0, hl, hrd, _⟩ := hr.open
  rw [List.length_map] at hv0 hl
  have hS := St.init0 w
  refine Ret.enter Try.func16 Try.ntmps16 rfl rfl ?_
  simp only [argEnv, Nat.reduceAdd]
  refine SatC.seq ?_
  refine SatC.region ?_
  refine SatL.pu (RunV.assign rfl) rfl ?_
  refine SatL.nil (SatE.thenC ?_)
  refine SatC.seq ?_
  refine SatC.region ?_
  refine SatL.pu (RunV.assign rfl) rfl ?_
  refine SatL.nil (SatE.thenC ?_)
  refine SatC.seq ?_
  refine SatC.seq ?_
  refine SatC.region ?_
  refine SatL.pu (RunV.assign rfl) rfl ?_
  refine SatL.nil (SatE.thenC ?_)
  refine SatC.block ?_
  refine SatC.loopK (G := Nat × Value × List (Nat × Obj)) (V := fun ⟨i, u, B3⟩ => [(6, .int .i64 (i : Int)), (5, u)]) (Cn := [(0, _), (1, _), (4, _)]) (I := fun ⟨i, u, B3⟩ w' => i ≤ l.length ∧ Sl 28 5 u ((forI d (l.take i)).map ic) B3 ∧ St w [] B3 w') (μ := fun ⟨i, u, B3⟩ => l.length - i) (0, .slice none 0 0, []) ?_ (by repeat constructor) ?_
  · exact ⟨by omega, .nil, hS⟩
  clear hS
  rintro ⟨i, u, B3⟩ w1 ⟨hi, hsl3, hS⟩
  refine SatC.weak (e' := [(0, _), (1, _), (4, _), (5, _), (6, _)]) (by repeat constructor) ?_
  refine SatC.seq ?_
  refine SatC.seq ?_
  refine SatC.region ?_
  refine SatL.pu (RunV.move rfl) rfl ?_
  refine SatL.pu (RunV.move rfl) rfl ?_
  refine SatL.pu (RunV.lenR hv0 rfl rfl) rfl ?_
  refine SatL.pu (RunV.lss rfl rfl) rfl ?_
  refine SatL.nil (SatE.thenC ?_)
  refine SatC.cond rfl (fun h1 => ?_) (fun h1 => ?_)
  · (try simp only [cx, ne_eq] at h1)
    try (exfalso; (first | omega | exact h1 trivial | contradiction | (first | omega | exact h1 rfl | (simp at h1; done))); done)
    all_goals
    refine SatC.skip (SatE.thenC ?_)
    refine SatC.seq ?_
    refine SatC.block ?_
    refine SatC.seq ?_
    obtain ⟨y, hy⟩ := get_some l i (by omega)
    have hlt := for_len d (l.take i)
    rw [List.length_take] at hlt
    have hnx := for_next (d := d) hy
    refine SatC.region ?_
    refine SatL.pu (RunV.move rfl) rfl ?_
    refine SatL.pu (RunV.move rfl) rfl ?_
    refine SatL.pu (RunV.indexR hv0 rfl rfl rfl (by omega) (by omega) rfl) rfl ?_
    first | refine SatL.pu (RunV.fieldAddrL rfl rfl rfl) rfl ?_ | refine SatL.pu (RunV.fieldAddr rfl rfl rfl) rfl ?_
    refine SatL.pu (RunV.loadR1f (hrd.st hS List.not_mem_nil) rfl rfl (map_get hy) rfl) rfl ?_
    refine SatL.pu (RunV.move rfl) rfl ?_
    refine SatL.op rfl (OpW.enter rfl rfl rfl (rfl) (rmatch_any _ _ _) ?_)
    rintro r2 w2 ⟨rfl, h⟩
    replace hS := St.callN hS h
    refine SatL.nil (SatE.thenC ?_)
    refine SatC.cond rfl (fun h2 => ?_) (fun h2 => ?_)
    · (try simp only [cx, ne_eq] at h2)
      try (exfalso; (first | omega | exact h2 trivial | contradiction | (first | omega | exact h2 rfl | (simp at h2; done))); done)
      all_goals
      refine SatC.region ?_
      refine SatL.pu (RunV.move rfl) rfl ?_
      refine SatL.pu (RunV.move rfl) rfl ?_
      refine SatL.pu (RunV.move rfl) rfl ?_
      refine SatL.pu (RunV.indexR hv0 rfl rfl rfl (by omega) (by omega) rfl) rfl ?_
      refine SatL.pu (RunV.loadRNz (hrd.st hS List.not_mem_nil) rfl rfl (map_get hy)) rfl ?_
      refine SatL.op rfl (OpW.buildSlice1 hS rfl rfl rfl rfl rfl (by repeat constructor) rfl rfl rfl ?_)
      clear hS
      intro b25 w3 _ hS
      refine SatL.op rfl (OpW.append1 (by assumption) hS (by repeat constructor) rfl rfl (by repeat constructor) rfl rfl rfl rfl rfl rfl rfl rfl (by first | omega | (simp only [List.length_map]; omega) | (simp only [List.length_append, List.length_map, List.length_cons, List.length_nil]; omega)) rfl ?_)
      clear hS
      intro v26 B26 w4 hsl26 hS
      refine SatL.pu (RunV.assign rfl) rfl ?_
      refine SatL.nil (SatE.blk_normal (SatE.thenC ?_))
      refine SatC.weak (e' := [(0, _), (1, _), (4, _), (5, _), (6, _)]) (by repeat constructor) ?_
      refine SatC.region ?_
      refine SatL.pu (RunV.move rfl) rfl ?_
      refine SatL.pu (RunV.add rfl rfl (by first | exact wrapI64 (by omega) | rfl)) rfl ?_
      refine SatL.pu (RunV.assign rfl) rfl ?_
      refine SatL.nil ?_
      refine SatE.again ((i + 1, v26, B26)) ?_ (by first | omega | (dsimp only; omega)) (by repeat constructor)
      refine ⟨by omega, ?_, hS.sel (R := B26) (by repeat constructor)⟩
      rw [hnx, if_pos (by assumption), List.map_append]
      exact hsl26
    · (try simp only [cx, ne_eq] at h2)
      try (exfalso; (first | omega | exact h2 trivial | contradiction | (first | omega | exact h2 rfl | (simp at h2; done))); done)
      all_goals
      refine SatC.skip (SatE.blk_normal (SatE.thenC ?_))
      refine SatC.region ?_
      refine SatL.pu (RunV.move rfl) rfl ?_
      refine SatL.pu (RunV.add rfl rfl (by first | exact wrapI64 (by omega) | rfl)) rfl ?_
      refine SatL.pu (RunV.assign rfl) rfl ?_
      refine SatL.nil ?_
      refine SatE.again ((i + 1, u, B3)) ?_ (by first | omega | (dsimp only; omega)) (by repeat constructor)
      refine ⟨by omega, ?_, hS⟩
      rw [hnx, if_neg (by simp [*]), List.append_nil]
      exact hsl3
  · (try simp only [cx, ne_eq] at h1)
    try (exfalso; (first | omega | exact h1 trivial | contradiction | (first | omega | exact h1 rfl | (simp at h1; done))); done)
    all_goals
    refine SatC.exit (SatE.then_exit (SatE.then_exit (SatE.blk_exit (SatE.thenC ?_))))
    refine SatC.seq ?_
    refine SatC.region ?_
    refine SatL.pu (RunV.move rfl) rfl ?_
    refine SatL.pu (RunV.assign rfl) rfl ?_
    refine SatL.nil (SatE.thenC ?_)
    refine SatC.ret ?_
    refine SatE.ret1 rfl rfl ?_
    rw [List.take_of_length_le (by omega)] at hsl3
    exact ⟨B3, hsl3, hS⟩
theorem order_any (v : Value) (l : List Itn) (s d : List UInt8) (df : Bool) (w : World) (hr : RdRow w v 5 (l.map ic)) : Ret Try.prog 4 #[v, .agg #[str s, str d], .bool df] w fun u w' => u = .bool true ∧ St w [] [] w' := by
  obtain ⟨b, o, c, hv0, hl, hrd, _⟩ := hr.open
  rw [List.length_map] at hv0 hl
  have hS := St.init0 w
  refine Ret.enter Try.func4 Try.ntmps4 rfl rfl ?_
  simp only [argEnv, Nat.reduceAdd]
  refine SatC.seq ?_
  refine SatC.region ?_
  refine SatL.op rfl (OpW.box hS rfl rfl (by repeat constructor) ?_)
  clear hS
  intro b4 w1 _ hS
  refine SatL.pu (RunV.assign rfl) rfl ?_
  refine SatL.nil (SatE.thenC ?_)
  refine SatC.seq ?_
  refine SatC.drawnT 6 hS (hS) (by kernel_rfl) ?_
  clear hS
  intro w2 hh hS hD
  refine SatD.tk 0 rfl hD (fun _ hw => RunV.indexA rfl rfl rfl (by omega) (by omega) rfl) ?_
  refine SatD.tk 1 rfl hD (fun _ hw => RunV.load1 hw rfl rfl (by repeat constructor) rfl) ?_
  refine SatD.tk 2 rfl hD (fun _ hw => RunV.indexA rfl rfl rfl (by omega) (by omega) rfl) ?_
  refine SatD.tk 3 rfl hD (fun _ hw => RunV.load1 hw rfl rfl (by repeat constructor) rfl) ?_
  refine SatD.tk 4 rfl hD (fun _ hw => RunV.assign rfl) ?_
  refine SatD.tk 5 rfl hD (fun _ hw => RunV.assign rfl) ?_
  refine SatD.done 0 (by kernel_rfl) (SatE.thenC ?_)
  clear hD
  refine SatC.seq ?_
  refine SatC.seq ?_
  refine SatC.region ?_
  refine SatL.pu (RunV.move rfl) rfl ?_
  refine SatL.pu (RunV.lenR hv0 rfl rfl) rfl ?_
  refine SatL.pu (RunV.gtr rfl rfl) rfl ?_
  refine SatL.pu (RunV.move rfl) rfl ?_
  refine SatL.guard rfl rfl rfl (fun h1 => ?_) (fun h1 => ?_)
  · (try simp only [cx, ne_eq] at h1)
    try (exfalso; (first | omega | exact h1 trivial | contradiction | (first | omega | exact h1 rfl | (simp at h1; done))); done)
    all_goals
    refine SatL.pu (RunV.move rfl) rfl ?_
    refine SatL.guard_y rfl rfl ?_
    refine SatL.op rfl (OpW.enter rfl rfl rfl (rfl) (unlike_any v l _ (hr.st (hS.sel (by repeat constructor)))) ?_)
    rintro r3 w3 ⟨q, rfl, hq, h⟩
    replace hS := St.callN hS h
    refine SatL.guard_y rfl rfl ?_
    refine SatL.pu (RunV.not rfl) rfl ?_
    refine SatL.pu (RunV.pick_f rfl rfl) rfl ?_
    refine SatL.nil (SatE.thenC ?_)
    refine SatC.weak (e' := [(0, _), (2, _), (6, _), (7, _), (8, _), (28, _)]) (by repeat constructor) ?_
    refine SatC.cond rfl (fun h2 => ?_) (fun h2 => ?_)
    · (try simp only [cx, ne_eq] at h2)
      try (exfalso; (first | omega | exact h2 trivial | contradiction | (first | omega | exact h2 rfl | (simp at h2; done))); done)
      all_goals
      refine SatC.seq ?_
      refine SatC.region ?_
      refine SatL.op rfl (OpW.enter rfl rfl rfl (rfl) (works_any _) ?_)
      rintro r4 w4 ⟨rfl, h⟩
      replace hS := St.callN hS h
      refine SatL.pu (RunV.assign rfl) rfl ?_
      refine SatL.nil (SatE.thenC ?_)
      refine SatC.ret (SatE.then_ret ?_)
      refine SatE.ret1 rfl rfl ?_
      first | exact ⟨rfl, hS.sel (R := []) (by repeat constructor)⟩ | exact absurd (decide_eq_decide.2 e2) (by assumption)
    · (try simp only [cx, ne_eq] at h2)
      try (exfalso; (first | omega | exact h2 trivial | contradiction | (first | omega | exact h2 rfl | (simp at h2; done))); done)
      all_goals
      refine SatC.skip (SatE.thenC ?_)
      refine SatC.seq ?_
      refine SatC.region ?_
      refine SatL.pu (RunV.assign rfl) rfl ?_
      refine SatL.nil (SatE.thenC ?_)
      refine SatC.seq ?_
      refine SatC.seq ?_
      refine SatC.region ?_
      refine SatL.pu (RunV.move rfl) rfl ?_
      refine SatL.pu (RunV.lenR hv0 rfl rfl) rfl ?_
      refine SatL.pu (RunV.sub rfl rfl (by first | exact wrapI64 (by omega) | rfl)) rfl ?_
      refine SatL.pu (RunV.assign rfl) rfl ?_
      refine SatL.nil (SatE.thenC ?_)
      refine SatC.block ?_
      refine SatC.loopK (G := Int × Nat × Value × List (Nat × Obj)) (V := fun ⟨x, k, u, B3⟩ => [(10, .int .i64 x), (9, u)]) (Cn := [(0, _), (2, _), (6, _), (7, _), (8, _)]) (I := fun ⟨x, k, u, B3⟩ w' => x = (k : Int) - 1 ∧ k ≤ l.length ∧ Sl 28 5 u (((l.drop k).reverse).map ic) B3 ∧ St w [] (B3 ++ [(b4, C 31 [str s, str d])]) w') (μ := fun ⟨x, k, u, B3⟩ => k) ((l.length : Int) - 1, l.length, .slice none 0 0, []) ?_ (by repeat constructor) ?_
      · exact ⟨rfl, by omega, by rw [List.drop_length]; exact .nil, hS.sel (by repeat constructor)⟩
      clear hS
      rintro ⟨x, k, u, B3⟩ w4 ⟨hx, hk, hsl3, hS⟩
      refine SatC.weak (e' := [(0, _), (2, _), (6, _), (7, _), (8, _), (9, _), (10, _)]) (by repeat constructor) ?_
      refine SatC.seq ?_
      refine SatC.seq ?_
      refine SatC.region ?_
      refine SatL.pu (RunV.move rfl) rfl ?_
      refine SatL.pu (RunV.geq rfl rfl) rfl ?_
      refine SatL.nil (SatE.thenC ?_)
      refine SatC.cond rfl (fun h3 => ?_) (fun h3 => ?_)
      · (try simp only [cx, ne_eq] at h3)
        try (exfalso; (first | omega | exact h3 trivial | contradiction | (first | omega | exact h3 rfl | (simp at h3; done))); done)
        all_goals
        refine SatC.skip (SatE.thenC ?_)
        refine SatC.seq ?_
        refine SatC.block ?_
        obtain ⟨k, rfl⟩ : ∃ k', k = k' + 1 := ⟨k - 1, by omega⟩
        obtain rfl : x = (k : Int) := by omega
        obtain ⟨y, hy⟩ := get_some l k (by omega)
        have hnx : (l.drop k).reverse = (l.drop (k + 1)).reverse ++ [y] := by rw [drop_at hy, List.reverse_cons]
        have hdl : (l.drop (k + 1)).reverse.length ≤ 60 := by rw [List.length_reverse, List.length_drop]; omega
        refine SatC.region ?_
        refine SatL.pu (RunV.move rfl) rfl ?_
        refine SatL.pu (RunV.move rfl) rfl ?_
        refine SatL.pu (RunV.move rfl) rfl ?_
        refine SatL.pu (RunV.indexR hv0 rfl rfl rfl (by omega) (by omega) rfl) rfl ?_
        refine SatL.pu (RunV.loadRNz (hrd.st (hS.sel (by repeat constructor)) List.not_mem_nil) rfl rfl (map_get hy)) rfl ?_
        refine SatL.op rfl (OpW.buildSlice1 hS rfl rfl rfl rfl rfl (by repeat constructor) rfl rfl rfl ?_)
        clear hS
        intro b42 w5 _ hS
        refine SatL.op rfl (OpW.append1 (by assumption) hS (by repeat constructor) rfl rfl (by repeat constructor) rfl rfl rfl rfl rfl rfl rfl rfl (by first | omega | (simp only [List.length_map]; omega) | (simp only [List.length_append, List.length_map, List.length_cons, List.length_nil]; omega)) rfl ?_)
        clear hS
        intro v43 B43 w6 hsl43 hS
        refine SatL.pu (RunV.assign rfl) rfl ?_
        refine SatL.nil (SatE.blk_normal (SatE.thenC ?_))
        refine SatC.region ?_
        refine SatL.pu (RunV.move rfl) rfl ?_
        refine SatL.pu (RunV.sub rfl rfl (by first | exact wrapI64 (by omega) | rfl)) rfl ?_
        refine SatL.pu (RunV.assign rfl) rfl ?_
        refine SatL.nil ?_
        refine SatE.again (((k : Int) - 1, k, v43, B43)) ?_ (by first | omega | (dsimp only; omega)) (by repeat constructor)
        refine ⟨rfl, by omega, ?_, hS.sel (by repeat constructor)⟩
        rw [hnx, List.map_append]
        exact hsl43
      · (try simp only [cx, ne_eq] at h3)
        try (exfalso; (first | omega | exact h3 trivial | contradiction | (first | omega | exact h3 rfl | (simp at h3; done))); done)
        all_goals
        refine SatC.exit (SatE.then_exit (SatE.then_exit (SatE.blk_exit (SatE.thenC ?_))))
        refine SatC.seq ?_
        obtain rfl : k = 0 := by omega
        rw [List.drop_zero] at hsl3
        refine SatC.region ?_
        refine SatL.pu (RunV.move rfl) rfl ?_
        refine SatL.pu (RunV.move rfl) rfl ?_
        refine SatL.pu (RunV.move rfl) rfl ?_
        refine SatL.pu (RunV.move rfl) rfl ?_
        refine SatL.op rfl (OpW.enter rfl rfl rfl (rfl) (choose_c df _ (hr.st (hS.sel (by repeat constructor)))) ?_)
        rintro r5 w5 ⟨a1, hb1, rfl, h⟩
        replace hS := St.callN hS h
        refine SatL.pu (RunV.move rfl) rfl ?_
        refine SatL.pu (RunV.extract rfl rfl) rfl ?_
        refine SatL.pu (RunV.extract rfl rfl) rfl ?_
        refine SatL.pu (RunV.assign rfl) rfl ?_
        refine SatL.pu (RunV.assign rfl) rfl ?_
        refine SatL.nil (SatE.thenC ?_)
        refine SatC.seq ?_
        refine SatC.region ?_
        refine SatL.pu (RunV.move rfl) rfl ?_
        refine SatL.pu (RunV.move rfl) rfl ?_
        refine SatL.pu (RunV.move rfl) rfl ?_
        refine SatL.pu (RunV.move rfl) rfl ?_
        refine SatL.op rfl (OpW.enter rfl rfl rfl (rfl) (choose_c df _ (hsl3.row hS (by repeat constructor) (by rw [List.length_map, List.length_reverse]; omega))) ?_)
        rintro r6 w6 ⟨a2, hb2, rfl, h⟩
        replace hS := St.callN hS h
        obtain ⟨e1, e2, e3⟩ := best_back (df := df) (hq (by assumption)) hb1 hb2
        rw [e1]
        refine SatL.pu (RunV.move rfl) rfl ?_
        refine SatL.pu (RunV.extract rfl rfl) rfl ?_
        refine SatL.pu (RunV.extract rfl rfl) rfl ?_
        refine SatL.pu (RunV.assign rfl) rfl ?_
        refine SatL.pu (RunV.assign rfl) rfl ?_
        refine SatL.nil (SatE.thenC ?_)
        refine SatC.seq ?_
        refine SatC.weak (e' := [(0, _), (2, _), (6, _), (7, _), (8, _), (11, _), (12, _), (13, _), (14, _)]) (by repeat constructor) ?_
        refine SatC.region ?_
        refine SatL.pu (RunV.move rfl) rfl ?_
        refine SatL.pu (RunV.move rfl) rfl ?_
        refine SatL.op rfl (OpW.enter rfl rfl rfl (rfl) (rfor_any v l d (by omega) _ (hr.st (hS.sel (by repeat constructor)))) ?_)
        rintro r7 w7 ⟨B4, hsl4, h⟩
        replace hS := hS.call0 h
        have hfl := for_len d l
        refine SatL.pu (RunV.move rfl) rfl ?_
        refine SatL.pu (RunV.move rfl) rfl ?_
        refine SatL.pu (RunV.move rfl) rfl ?_
        refine SatL.op rfl (OpW.enter rfl rfl rfl (rfl) (choose_c df _ (hsl4.row hS (by repeat constructor) (by rw [List.length_map]; omega))) ?_)
        rintro r8 w8 ⟨a3, hb3, rfl, h⟩
        replace hS := St.callN hS h
        have e4 := (best_same (df := df) (hq (by assumption)) (fun x hx => by
            unfold forI
            rw [List.mem_filter]
            unfold mI at hx
            rw [Bool.and_eq_true] at hx
            exact ⟨fun h => h.1, fun h => ⟨h, hx.2⟩⟩) hb1 hb3).1
        rw [e4]
        refine SatL.pu (RunV.move rfl) rfl ?_
        refine SatL.pu (RunV.extract rfl rfl) rfl ?_
        refine SatL.pu (RunV.extract rfl rfl) rfl ?_
        refine SatL.pu (RunV.assign rfl) rfl ?_
        refine SatL.pu (RunV.assign rfl) rfl ?_
        refine SatL.nil (SatE.thenC ?_)
        refine SatC.seq ?_
        refine SatC.weak (e' := [(0, _), (6, _), (11, _), (12, _), (13, _), (14, _), (15, _)]) (by repeat constructor) ?_
        refine SatC.region ?_
        refine SatL.pu (RunV.move rfl) rfl ?_
        refine SatL.pu (RunV.move rfl) rfl ?_
        refine SatL.pu (RunV.beql rfl rfl rfl) rfl ?_
        refine SatL.pu (RunV.move rfl) rfl ?_
        refine SatL.guard rfl rfl rfl (fun h4 => ?_) (fun h4 => ?_)
        · (try simp only [cx, ne_eq] at h4)
          try (exfalso; (first | omega | exact h4 trivial | contradiction | (first | omega | exact h4 rfl | (simp at h4; done))); done)
          all_goals
          refine SatL.pu (RunV.move rfl) rfl ?_
          refine SatL.guard_y rfl rfl ?_
          refine SatL.pu (RunV.lss rfl rfl) rfl ?_
          refine SatL.guard_y rfl rfl ?_
          refine SatL.pu (RunV.move rfl) rfl ?_
          refine SatL.guard_y rfl rfl ?_
          refine SatL.pu (RunV.lss rfl rfl) rfl ?_
          refine SatL.guard_y rfl rfl ?_
          refine SatL.pu (RunV.beql rfl rfl rfl) rfl ?_
          refine SatL.pu (RunV.pick_t rfl rfl) rfl ?_
          refine SatL.pu (RunV.move rfl) rfl ?_
          refine SatL.guard rfl rfl rfl (fun h5 => ?_) (fun h5 => ?_)
          · (try simp only [cx, ne_eq] at h5)
            try (exfalso; (first | omega | exact h5 trivial | contradiction | (first | omega | exact h5 rfl | (simp at h5; done))); done)
            all_goals
            refine SatL.pu (RunV.move rfl) rfl ?_
            refine SatL.guard_y rfl rfl ?_
            refine SatL.pu (RunV.lss rfl rfl) rfl ?_
            refine SatL.guard_y rfl rfl ?_
            refine SatL.pu (RunV.move rfl) rfl ?_
            refine SatL.guard rfl rfl rfl (fun h6 => ?_) (fun h6 => ?_)
            · (try simp only [cx, ne_eq] at h6)
              try (exfalso; (first | omega | exact h6 trivial | contradiction | (first | omega | exact h6 rfl | (simp at h6; done))); done)
              all_goals
              refine SatL.pu (RunV.move rfl) rfl ?_
              refine SatL.guard_y rfl rfl ?_
              refine SatL.pu (RunV.move rfl) rfl ?_
              refine SatL.guard_y rfl rfl ?_
              refine SatL.pu (RunV.lenR hv0 rfl rfl) rfl ?_
              refine SatL.guard_y rfl rfl ?_
              refine SatL.pu (RunV.sub rfl rfl (by first | exact wrapI64 (by omega) | rfl)) rfl ?_
              refine SatL.guard_y rfl rfl ?_
              refine SatL.pu (RunV.move rfl) rfl ?_
              refine SatL.guard_y rfl rfl ?_
              refine SatL.pu (RunV.sub rfl rfl (by first | exact wrapI64 (by omega) | rfl)) rfl ?_
              refine SatL.guard_y rfl rfl ?_
              refine SatL.pu (RunV.eql rfl rfl) rfl ?_
              refine SatL.guard_y rfl rfl ?_
              refine SatL.pu (RunV.pick_f rfl rfl) rfl ?_
              refine SatL.pu (RunV.pick_t rfl rfl) rfl ?_
              refine SatL.pu (RunV.move rfl) rfl ?_
              refine SatL.guard rfl rfl rfl (fun h7 => ?_) (fun h7 => ?_)
              · (try simp only [cx, ne_eq] at h7)
                try (exfalso; (first | omega | exact h7 trivial | contradiction | (first | omega | exact h7 rfl | (simp at h7; done))); done)
                all_goals
                refine SatL.pu (RunV.move rfl) rfl ?_
                refine SatL.guard_y rfl rfl ?_
                refine SatL.pu (RunV.move rfl) rfl ?_
                refine SatL.guard_y rfl rfl ?_
                refine SatL.pu (RunV.beql rfl rfl rfl) rfl ?_
                refine SatL.pu (RunV.pick_t rfl rfl) rfl ?_
                refine SatL.pu (RunV.move rfl) rfl ?_
                refine SatL.guard rfl rfl rfl (fun h8 => ?_) (fun h8 => ?_)
                · (try simp only [cx, ne_eq] at h8)
                  try (exfalso; (first | omega | exact h8 trivial | contradiction | (first | omega | exact h8 rfl | (simp at h8; done))); done)
                  all_goals
                  refine SatL.op rfl (OpW.enter rfl rfl rfl (rfl) (works_any _) ?_)
                  rintro r9 w9 ⟨rfl, h⟩
                  replace hS := St.callN hS h
                  refine SatL.pu (RunV.pick_t rfl rfl) rfl ?_
                  refine SatL.pu (RunV.assign rfl) rfl ?_
                  refine SatL.nil (SatE.thenC ?_)
                  refine SatC.ret ?_
                  refine SatE.ret1 rfl rfl ?_
                  first | exact ⟨rfl, hS.sel (R := []) (by repeat constructor)⟩ | exact absurd (decide_eq_decide.2 e2) (by assumption)
                · (try simp only [cx, ne_eq] at h8)
                  try (exfalso; (first | omega | exact h8 trivial | contradiction | (first | omega | exact h8 rfl | (simp at h8; done))); done)
                  all_goals
                  refine SatL.pu (RunV.pick_f rfl rfl) rfl ?_
                  refine SatL.pu (RunV.assign rfl) rfl ?_
                  refine SatL.nil (SatE.thenC ?_)
                  refine SatC.ret ?_
                  refine SatE.ret1 rfl rfl ?_
                  first | exact ⟨rfl, hS.sel (R := []) (by repeat constructor)⟩ | exact absurd (decide_eq_decide.2 e2) (by assumption)
              · (try simp only [cx, ne_eq] at h7)
                try (exfalso; (first | omega | exact h7 trivial | contradiction | (first | omega | exact h7 rfl | (simp at h7; done))); done)
                all_goals
                refine SatL.guard_n rfl rfl rfl rfl ?_
                refine SatL.guard_n rfl rfl rfl rfl ?_
                refine SatL.pu (RunV.pick_f rfl rfl) rfl ?_
                refine SatL.pu (RunV.move rfl) rfl ?_
                refine SatL.guard_n rfl rfl rfl rfl ?_
                refine SatL.pu (RunV.pick_f rfl rfl) rfl ?_
                refine SatL.pu (RunV.assign rfl) rfl ?_
                refine SatL.nil (SatE.thenC ?_)
                refine SatC.ret ?_
                refine SatE.ret1 rfl rfl ?_
                first | exact ⟨rfl, hS.sel (R := []) (by repeat constructor)⟩ | exact absurd (decide_eq_decide.2 e2) (by assumption)
            · (try simp only [cx, ne_eq] at h6)
              try (exfalso; (first | omega | exact h6 trivial | contradiction | (first | omega | exact h6 rfl | (simp at h6; done))); done)
              all_goals
              refine SatL.guard_n rfl rfl rfl rfl ?_
              refine SatL.guard_n rfl rfl rfl rfl ?_
              refine SatL.guard_n rfl rfl rfl rfl ?_
              refine SatL.guard_n rfl rfl rfl rfl ?_
              refine SatL.guard_n rfl rfl rfl rfl ?_
              refine SatL.guard_n rfl rfl rfl rfl ?_
              refine SatL.guard_y rfl rfl ?_
              refine SatL.pu (RunV.pick_t rfl rfl) rfl ?_
              refine SatL.pu (RunV.pick_t rfl rfl) rfl ?_
              refine SatL.pu (RunV.move rfl) rfl ?_
              refine SatL.guard_y rfl rfl ?_
              refine SatL.pu (RunV.move rfl) rfl ?_
              refine SatL.guard_y rfl rfl ?_
              refine SatL.pu (RunV.move rfl) rfl ?_
              refine SatL.guard_y rfl rfl ?_
              refine SatL.pu (RunV.beql rfl rfl rfl) rfl ?_
              refine SatL.pu (RunV.pick_t rfl rfl) rfl ?_
              refine SatL.pu (RunV.move rfl) rfl ?_
              refine SatL.guard rfl rfl rfl (fun h7 => ?_) (fun h7 => ?_)
              · (try simp only [cx, ne_eq] at h7)
                try (exfalso; (first | omega | exact h7 trivial | contradiction | (first | omega | exact h7 rfl | (simp at h7; done))); done)
                all_goals
                refine SatL.op rfl (OpW.enter rfl rfl rfl (rfl) (works_any _) ?_)
                rintro r9 w9 ⟨rfl, h⟩
                replace hS := St.callN hS h
                refine SatL.pu (RunV.pick_t rfl rfl) rfl ?_
                refine SatL.pu (RunV.assign rfl) rfl ?_
                refine SatL.nil (SatE.thenC ?_)
                refine SatC.ret ?_
                refine SatE.ret1 rfl rfl ?_
                first | exact ⟨rfl, hS.sel (R := []) (by repeat constructor)⟩ | exact absurd (decide_eq_decide.2 e2) (by assumption)
              · (try simp only [cx, ne_eq] at h7)
                try (exfalso; (first | omega | exact h7 trivial | contradiction | (first | omega | exact h7 rfl | (simp at h7; done))); done)
                all_goals
                refine SatL.pu (RunV.pick_f rfl rfl) rfl ?_
                refine SatL.pu (RunV.assign rfl) rfl ?_
                refine SatL.nil (SatE.thenC ?_)
                refine SatC.ret ?_
                refine SatE.ret1 rfl rfl ?_
                first | exact ⟨rfl, hS.sel (R := []) (by repeat constructor)⟩ | exact absurd (decide_eq_decide.2 e2) (by assumption)
          · (try simp only [cx, ne_eq] at h5)
            try (exfalso; (first | omega | exact h5 trivial | contradiction | (first | omega | exact h5 rfl | (simp at h5; done))); done)
            all_goals
            refine SatL.guard_n rfl rfl rfl rfl ?_
            refine SatL.guard_n rfl rfl rfl rfl ?_
            refine SatL.guard_u rfl rfl rfl ?_
            refine SatL.guard_u rfl rfl rfl ?_
            refine SatL.guard_u rfl rfl rfl ?_
            refine SatL.guard_u rfl rfl rfl ?_
            refine SatL.guard_u rfl rfl rfl ?_
            refine SatL.guard_u rfl rfl rfl ?_
            refine SatL.guard_u rfl rfl rfl ?_
            refine SatL.guard_n rfl rfl rfl rfl ?_
            refine SatL.pu (RunV.pick_f rfl rfl) rfl ?_
            refine SatL.pu (RunV.move rfl) rfl ?_
            refine SatL.guard_n rfl rfl rfl rfl ?_
            refine SatL.guard_n rfl rfl rfl rfl ?_
            refine SatL.guard_n rfl rfl rfl rfl ?_
            refine SatL.pu (RunV.pick_f rfl rfl) rfl ?_
            refine SatL.pu (RunV.move rfl) rfl ?_
            refine SatL.guard_n rfl rfl rfl rfl ?_
            refine SatL.pu (RunV.pick_f rfl rfl) rfl ?_
            refine SatL.pu (RunV.assign rfl) rfl ?_
            refine SatL.nil (SatE.thenC ?_)
            refine SatC.ret ?_
            refine SatE.ret1 rfl rfl ?_
            first | exact ⟨rfl, hS.sel (R := []) (by repeat constructor)⟩ | exact absurd (decide_eq_decide.2 e2) (by assumption)
        · (try simp only [cx, ne_eq] at h4)
          try (exfalso; (first | omega | exact h4 trivial | contradiction | (first | omega | exact h4 rfl | (simp at h4; done))); done)
          all_goals
          refine SatL.guard_n rfl rfl rfl rfl ?_
          refine SatL.guard_n rfl rfl rfl rfl ?_
          refine SatL.guard_n rfl rfl rfl rfl ?_
          refine SatL.guard_n rfl rfl rfl rfl ?_
          refine SatL.pu (RunV.pick_f rfl rfl) rfl ?_
          refine SatL.pu (RunV.move rfl) rfl ?_
          refine SatL.guard_n rfl rfl rfl rfl ?_
          refine SatL.guard_n rfl rfl rfl rfl ?_
          refine SatL.guard_n rfl rfl rfl rfl ?_
          refine SatL.guard_u rfl rfl rfl ?_
          refine SatL.guard_u rfl rfl rfl ?_
          refine SatL.guard_u rfl rfl rfl ?_
          refine SatL.guard_u rfl rfl rfl ?_
          refine SatL.guard_u rfl rfl rfl ?_
          refine SatL.guard_u rfl rfl rfl ?_
          refine SatL.guard_u rfl rfl rfl ?_
          refine SatL.guard_n rfl rfl rfl rfl ?_
          refine SatL.pu (RunV.pick_f rfl rfl) rfl ?_
          refine SatL.pu (RunV.move rfl) rfl ?_
          refine SatL.guard_n rfl rfl rfl rfl ?_
          refine SatL.guard_n rfl rfl rfl rfl ?_
          refine SatL.guard_n rfl rfl rfl rfl ?_
          refine SatL.pu (RunV.pick_f rfl rfl) rfl ?_
          refine SatL.pu (RunV.move rfl) rfl ?_
          refine SatL.guard_n rfl rfl rfl rfl ?_
          refine SatL.pu (RunV.pick_f rfl rfl) rfl ?_
          refine SatL.pu (RunV.assign rfl) rfl ?_
          refine SatL.nil (SatE.thenC ?_)
          refine SatC.ret ?_
          refine SatE.ret1 rfl rfl ?_
          first | exact ⟨rfl, hS.sel (R := []) (by repeat constructor)⟩ | exact absurd (decide_eq_decide.2 e2) (by assumption)
  · (try simp only [cx, ne_eq] at h1)
    try (exfalso; (first | omega | exact h1 trivial | contradiction | (first | omega | exact h1 rfl | (simp at h1; done))); done)
    all_goals
    refine SatL.guard_n rfl rfl rfl rfl ?_
    refine SatL.guard_n rfl rfl rfl rfl ?_
    refine SatL.pu (RunV.pick_t rfl rfl) rfl ?_
    refine SatL.nil (SatE.thenC ?_)
    refine SatC.weak (e' := [(0, _), (2, _), (6, _), (7, _), (8, _), (28, _)]) (by repeat constructor) ?_
    refine SatC.cond_t rfl ?_
    refine SatC.seq ?_
    refine SatC.region ?_
    refine SatL.op rfl (OpW.enter rfl rfl rfl (rfl) (works_any _) ?_)
    rintro r3 w3 ⟨rfl, h⟩
    replace hS := St.callN hS h
    refine SatL.pu (RunV.assign rfl) rfl ?_
    refine SatL.nil (SatE.thenC ?_)
    refine SatC.ret (SatE.then_ret ?_)
    refine SatE.ret1 rfl rfl ?_
    first | exact ⟨rfl, hS.sel (R := []) (by repeat constructor)⟩ | exact absurd (decide_eq_decide.2 e2) (by assumption)
theorem intentOrder_lifted (os : Os) (started : os.Started) (H : Type) (enc : TypeId × Value → H) :
    ReturnsInHanded {} Try.checked os 4 .any (Rows.intentOrderSpec.pre6 enc Try.prog Try.f4 Rows.intentOrderRow.domain false) (Rows.intentOrderSpec.post enc Try.prog Try.f4 false true false false) := by
  refine law_returns (C := Try.checked) (b := 4) (by kernel_rfl) started (by kernel_rfl) Try.func4
    (ChangeSpec.witness6 (enc := enc) (C := Try.checked) false ⟨#[], #[.slice none 0 0, .agg #[.string ⟨#[]⟩, .string ⟨#[]⟩], .bool false], []⟩ 8 (by kernel_rfl) (by kernel_rfl) (by kernel_rfl) (by kernel_rfl))
    rfl rfl (by kernel_rfl) (by kernel_rfl) (by kernel_rfl) (fun ds h => ?_) ?_
  · rw [Try.params4] at h
    match ds, h with
    | [_, _, _], _ => rfl
  intro W base args ds ps hval hA hsz
  rw [Try.params4] at hA hval
  obtain ⟨v0, v1, v2, d0, d1, d2, q0, q1, q2, hargs, rfl, rfl, h0, h1, h2⟩ := trodAll_three hA
  subst hargs
  obtain ⟨xs0, hr0, hx0⟩ := open_rows (l := [9, 9, 4, 26, 26]) 6 Try.underlying22 (by kernel_rfl) (by kernel_rfl) (by decide) (hval 0 22 v0 rfl rfl) h0
  obtain ⟨ys0, rfl, hy0⟩ := rows_map (enc' := ic) (q := fun _ => True) (fun r hr => by
    obtain ⟨u0, u1, u2, u3, u4, rfl, l0, l1, l2, l3, l4⟩ := allLeaf_list5 hr
    obtain ⟨n0, rfl, e0⟩ := leaf_string Try.underlying9 l0
    obtain ⟨n1, rfl, e1⟩ := leaf_string Try.underlying9 l1
    obtain ⟨n2, rfl⟩ := leaf_bool Try.underlying4 l2
    obtain ⟨n3, rfl, e3⟩ := leaf_int Try.underlying26 l3
    obtain ⟨n4, rfl, e4⟩ := leaf_int Try.underlying26 l4
    exact ⟨⟨n0.data.toList, n1.data.toList, n2, n3, n4⟩, rfl, trivial⟩) xs0 hx0
  obtain ⟨c1, rfl, l1⟩ := open_array (l := [9, 9]) 6 Try.underlying31 (by kernel_rfl) (hval 1 31 v1 rfl rfl) h1
  obtain ⟨a1_0, a1_1, rfl, l1_0, l1_1⟩ := allLeaf_list2 l1
  obtain ⟨a1_0, rfl, ba1_0⟩ := leaf_string Try.underlying9 l1_0
  obtain ⟨a1_1, rfl, ba1_1⟩ := leaf_string Try.underlying9 l1_1
  obtain ⟨a2, rfl, rfl, rfl⟩ := open_bool Try.underlying4 (hval 2 4 v2 rfl rfl) h2
  exact law_done (order_any _ ys0 a1_0.data.toList a1_1.data.toList a2 W hr0)
theorem intentOrder_holds : Rows.IntentOrderSaid :=
  OpenClaim.holds_of_wide 4 Try.f4 rfl rfl rfl rfl rfl rfl rfl ⟨rfl, rfl, rfl, rfl, rfl⟩ rfl rfl rfl rfl rfl (by kernel_rfl) Try.func4 (by kernel_rfl)
    (of_decide_eq_true (by kernel_rfl)) (by unfold Func.isWrapper; first | (rw [if_pos (by decide +kernel)]; kernel_rfl) | (rw [if_neg (by decide +kernel)]; exact ⟨rfl, rfl⟩))
    (fun os started H enc _ => intentOrder_lifted os started H enc)
end Go.Proofs.Ytogohendjjgbiaa
