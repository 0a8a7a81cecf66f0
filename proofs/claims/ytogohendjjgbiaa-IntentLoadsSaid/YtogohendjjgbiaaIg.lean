/- The sort's partitions and its partial insertion, over own rows. -/
import Derived.Test.YtogohendjjgbiaaIf
set_option linter.unusedSimpArgs false
set_option linter.unusedVariables false
set_option maxRecDepth 100000
set_option maxHeartbeats 4000000
namespace Go.Proofs.Ytogohendjjgbiaa
open Go.RowKit Go.Sort
section
variable {α : Type} [Inhabited α]
theorem su_go {p : α → Bool} {d : Array α} {j i : Nat} (h : i ≤ j) (hp : p d[i]! = true) : scanUp p d j (i + 1) = scanUp p d j i := by
  rw [scanUp.eq_1 p d j i, if_pos (by simp [h, hp])]
theorem su_stop {p : α → Bool} {d : Array α} {j i : Nat} (h : ¬ i ≤ j ∨ p d[i]! = false) : scanUp p d j i = i := by
  rw [scanUp, if_neg (by rcases h with h | h <;> simp [h])]
theorem sdn_go {p : α → Bool} {d : Array α} {i j : Nat} (h : i ≤ j) (h0 : 0 < j) (hp : p d[j]! = true) : scanDown p d i (j - 1) = scanDown p d i j := by
  obtain ⟨m, rfl⟩ : ∃ m, j = m + 1 := ⟨j - 1, by omega⟩
  rw [scanDown, if_pos (by simp [h, hp]), Nat.add_sub_cancel]
theorem sdn_stop {p : α → Bool} {d : Array α} {i j : Nat} (h : ¬ i ≤ j ∨ p d[j]! = false) : scanDown p d i j = j := by
  cases j with
  | zero => rfl
  | succ m => rw [scanDown, if_neg (by rcases h with h | h <;> simp [h])]
end
section
variable {bl lf sf n : Nat} {lc sc : List Value} {v : Value} {B : List (Nat × Obj)} {d : Array Itn} {w : World}
theorem part_any (a b pv : Nat) (hsw : SW lf sf lc sc bl v n) (hsl : Rw v d B) (hn : d.size = n) (ha : a + 1 < b) (hb : b ≤ n) (hn2 : n ≤ 1000) (hpv : pv < n) (hown : Own w ((bl, C 22 [v]) :: B)) :
    Ret Try.prog 91 #[.agg #[fnV lf lc, fnV sf sc], .int .i64 (a : Int), .int .i64 (b : Int), .int .i64 (pv : Int)] w fun u w' => ∃ B', u = .tuple #[.int .i64 ((partition firstI d a b pv).1 : Int), .bool (partition firstI d a b pv).2.1] ∧ Rw v (partition firstI d a b pv).2.2 B' ∧ St w (((bl, C 22 [v]) :: B).map Prod.fst) ((bl, C 22 [v]) :: B') w' := by
  have hS := St.init hown
  generalize hX : ((bl, C 22 [v]) :: B).map Prod.fst = X at hS ⊢
  obtain ⟨d1, hd1⟩ : ∃ d1, swp d a pv = d1 := ⟨_, rfl⟩
  have hn1 : d1.size = n := by rw [← hd1, swp_size]; exact hn
  have hP : partition firstI d a b pv = if scanUp (fun x => firstI x d1[a]!) d1 (b - 1) (a + 1) > scanDown (fun x => !firstI x d1[a]!) d1 (scanUp (fun x => firstI x d1[a]!) d1 (b - 1) (a + 1)) (b - 1) then (scanDown (fun x => !firstI x d1[a]!) d1 (scanUp (fun x => firstI x d1[a]!) d1 (b - 1) (a + 1)) (b - 1), true, swp d1 (scanDown (fun x => !firstI x d1[a]!) d1 (scanUp (fun x => firstI x d1[a]!) d1 (b - 1) (a + 1)) (b - 1)) a) else
    ((partLoop firstI a (scanUp (fun x => firstI x d1[a]!) d1 (b - 1) (a + 1) + 1) (scanDown (fun x => !firstI x d1[a]!) d1 (scanUp (fun x => firstI x d1[a]!) d1 (b - 1) (a + 1)) (b - 1) - 1) (swp d1 (scanUp (fun x => firstI x d1[a]!) d1 (b - 1) (a + 1)) (scanDown (fun x => !firstI x d1[a]!) d1 (scanUp (fun x => firstI x d1[a]!) d1 (b - 1) (a + 1)) (b - 1)))).1, false,
      swp (partLoop firstI a (scanUp (fun x => firstI x d1[a]!) d1 (b - 1) (a + 1) + 1) (scanDown (fun x => !firstI x d1[a]!) d1 (scanUp (fun x => firstI x d1[a]!) d1 (b - 1) (a + 1)) (b - 1) - 1) (swp d1 (scanUp (fun x => firstI x d1[a]!) d1 (b - 1) (a + 1)) (scanDown (fun x => !firstI x d1[a]!) d1 (scanUp (fun x => firstI x d1[a]!) d1 (b - 1) (a + 1)) (b - 1)))).2
        (partLoop firstI a (scanUp (fun x => firstI x d1[a]!) d1 (b - 1) (a + 1) + 1) (scanDown (fun x => !firstI x d1[a]!) d1 (scanUp (fun x => firstI x d1[a]!) d1 (b - 1) (a + 1)) (b - 1) - 1) (swp d1 (scanUp (fun x => firstI x d1[a]!) d1 (b - 1) (a + 1)) (scanDown (fun x => !firstI x d1[a]!) d1 (scanUp (fun x => firstI x d1[a]!) d1 (b - 1) (a + 1)) (b - 1)))).1 a) := by
    subst hd1; rfl
  generalize partition firstI d a b pv = Pn at hP ⊢
  generalize hI : scanUp (fun x => firstI x d1[a]!) d1 (b - 1) (a + 1) = I at hP
  generalize hJ : scanDown (fun x => !firstI x d1[a]!) d1 I (b - 1) = J at hP
  refine Ret.enter Try.func91 Try.ntmps91 rfl rfl ?_
  simp only [argEnv, Nat.reduceAdd]
  refine SatC.seq ?_
  refine SatC.region ?_
  refine SatL.op rfl (OpW.box hS rfl rfl (by repeat constructor) ?_)
  clear hS
  intro b4 w1 _ hS
  refine SatL.pu (RunV.assign rfl) rfl ?_
  refine SatL.pu (RunV.assign rfl) rfl ?_
  refine SatL.nil (SatE.thenC ?_)
  refine SatC.seq ?_
  obtain ⟨B1, W1, hsl1, hrun, hq⟩ := hsw.swap _ B d a pv (a : Int) (pv : Int) rfl rfl (by omega) (by omega) hn hsl (hS.ownT (A := B) (by repeat constructor))
  rw [hd1] at hsl1
  refine SatC.region ?_
  first | refine SatL.pu (RunV.fieldAddrL rfl rfl rfl) rfl ?_ | refine SatL.pu (RunV.fieldAddr rfl rfl rfl) rfl ?_
  refine SatL.pu (RunV.load1 hS rfl rfl (by repeat constructor) rfl) rfl ?_
  refine SatL.pu (RunV.move rfl) rfl ?_
  refine SatL.pu (RunV.move rfl) rfl ?_
  refine SatL.op rfl (OpW.externF (fs := []) (cap := sc) rfl rfl rfl hrun ?_)
  replace hS := hS.callT (A := B) (by repeat constructor) hq
  refine SatL.nil (SatE.thenC ?_)
  refine SatC.seq ?_
  refine SatC.region ?_
  refine SatL.pu (RunV.move rfl) rfl ?_
  refine SatL.pu (RunV.add rfl rfl (by first | exact wrapI64 (by omega) | rfl)) rfl ?_
  refine SatL.pu (RunV.move rfl) rfl ?_
  refine SatL.pu (RunV.sub (r := ((b - 1 : Nat) : Int)) rfl rfl (by rw [wrapI64 (by omega)]; omega)) rfl ?_
  refine SatL.pu (RunV.assign rfl) rfl ?_
  refine SatL.pu (RunV.assign rfl) rfl ?_
  refine SatL.nil (SatE.thenC ?_)
  refine SatC.merge (G := Nat) (V := fun i => [(10, .int .i64 (i : Int))]) (Cn := [(1, _), (4, _), (8, _), (9, _), (11, _)]) (I := fun i w' => i = I ∧ a + 1 ≤ i ∧ i ≤ b ∧ St w X ((b4, C 107 [fnV lf lc, fnV sf sc]) :: (bl, C 22 [v]) :: B1) w') (by repeat constructor) ?_ ?_
  · skip
    refine SatC.block ?_
    refine SatC.loopK (G := Nat) (V := fun i => [(10, .int .i64 (i : Int))]) (Cn := [(1, _), (4, _), (8, _), (9, _), (11, _)]) (I := fun i w' => a + 1 ≤ i ∧ i ≤ b ∧ scanUp (fun x => firstI x d1[a]!) d1 (b - 1) i = I ∧ St w X ((b4, C 107 [fnV lf lc, fnV sf sc]) :: (bl, C 22 [v]) :: B1) w') (μ := fun i => b - i) (a + 1) ?_ (by repeat constructor) ?_
    · exact ⟨by omega, by omega, hI, hS.sel (by repeat constructor)⟩
    clear hS
    rintro i w3 ⟨hi1, hi2, hI2, hS⟩
    refine SatC.weak (e' := [(1, _), (4, _), (8, _), (9, _), (10, _), (11, _)]) (by repeat constructor) ?_
    refine SatC.seq ?_
    refine SatC.seq ?_
    refine SatC.region ?_
    refine SatL.pu (RunV.move rfl) rfl ?_
    refine SatL.pu (RunV.move rfl) rfl ?_
    refine SatL.pu (RunV.leq rfl rfl) rfl ?_
    refine SatL.pu (RunV.move rfl) rfl ?_
    refine SatL.guard rfl rfl rfl (fun h1 => ?_) (fun h1 => ?_)
    · (try simp only [cx, ne_eq] at h1)
      try (exfalso; (first | omega | exact h1 trivial | contradiction | (first | omega | (simp at h1; done))); done)
      all_goals
      first | refine SatL.pu (RunV.fieldAddrL rfl rfl rfl) rfl ?_ | refine SatL.pu (RunV.fieldAddr rfl rfl rfl) rfl ?_
      refine SatL.guard_y rfl rfl ?_
      refine SatL.pu (RunV.load1 hS rfl rfl (by repeat constructor) rfl) rfl ?_
      refine SatL.guard_y rfl rfl ?_
      refine SatL.pu (RunV.move rfl) rfl ?_
      refine SatL.guard_y rfl rfl ?_
      refine SatL.pu (RunV.move rfl) rfl ?_
      refine SatL.guard_y rfl rfl ?_
      refine SatL.op rfl (OpW.enterF (fs := []) (cap := lc) rfl rfl rfl (hsw.el) (hsw.less _ B1 d1 i a _ _ rfl rfl (by omega) (by omega) hn1 hsl1 (hS.ownT (A := (bl, C 22 [v]) :: B1) (by repeat constructor))) ?_)
      rintro r4 w4 ⟨rfl, h⟩
      replace hS := St.callN hS h
      refine SatL.pu (RunV.pick_t rfl rfl) rfl ?_
      refine SatL.nil (SatE.thenC ?_)
      refine SatC.cond rfl (fun h2 => ?_) (fun h2 => ?_)
      · (try simp only [cx, ne_eq] at h2)
        try (exfalso; (first | omega | exact h2 trivial | contradiction | (first | omega | (simp at h2; done))); done)
        all_goals
        refine SatC.skip (SatE.thenC ?_)
        refine SatC.block ?_
        refine SatC.region ?_
        refine SatL.pu (RunV.move rfl) rfl ?_
        refine SatL.pu (RunV.add rfl rfl (by first | exact wrapI64 (by omega) | rfl)) rfl ?_
        refine SatL.pu (RunV.assign rfl) rfl ?_
        refine SatL.nil (SatE.blk_normal ?_)
        refine SatE.again (i + 1) ?_ (by first | omega | (dsimp only; omega)) (by repeat constructor)
        exact ⟨by omega, by omega, by rw [← hI2]; exact su_go (by omega) (by assumption), hS⟩
      · (try simp only [cx, ne_eq] at h2)
        try (exfalso; (first | omega | exact h2 trivial | contradiction | (first | omega | (simp at h2; done))); done)
        all_goals
        refine SatC.exit (SatE.then_exit (SatE.then_exit (SatE.blk_exit ?_)))
        refine SatE.met (i) ?_ (by repeat constructor)
        exact ⟨by rw [← hI2]; exact (su_stop (.inr (by simpa using ‹_ = false›))).symm, hi1, hi2, hS⟩
    · (try simp only [cx, ne_eq] at h1)
      try (exfalso; (first | omega | exact h1 trivial | contradiction | (first | omega | (simp at h1; done))); done)
      all_goals
      refine SatL.guard_n rfl rfl rfl rfl ?_
      refine SatL.guard_n rfl rfl rfl rfl ?_
      refine SatL.guard_n rfl rfl rfl rfl ?_
      refine SatL.guard_n rfl rfl rfl rfl ?_
      refine SatL.pu (RunV.pick_f rfl rfl) rfl ?_
      refine SatL.nil (SatE.thenC ?_)
      refine SatC.cond_f rfl ?_
      refine SatC.exit (SatE.then_exit (SatE.then_exit (SatE.blk_exit ?_)))
      refine SatE.met (i) ?_ (by repeat constructor)
      exact ⟨by rw [← hI2]; exact (su_stop (.inl (by omega))).symm, hi1, hi2, hS⟩
  · clear hS
    rintro i w63 ⟨hiI, hi1, hi2, hS⟩
    refine SatC.weak (e' := [(1, _), (4, _), (8, _), (9, _), (10, _), (11, _)]) (by repeat constructor) ?_
    refine SatC.merge (G := Nat) (V := fun j => [(11, .int .i64 (j : Int))]) (Cn := [(1, _), (4, _), (8, _), (9, _), (10, _)]) (I := fun j w' => j = J ∧ j < b ∧ St w X ((b4, C 107 [fnV lf lc, fnV sf sc]) :: (bl, C 22 [v]) :: B1) w') (by repeat constructor) ?_ ?_
    · skip
      refine SatC.block ?_
      refine SatC.loopK (G := Nat) (V := fun j => [(11, .int .i64 (j : Int))]) (Cn := [(1, _), (4, _), (8, _), (9, _), (10, _)]) (I := fun j w' => j < b ∧ scanDown (fun x => !firstI x d1[a]!) d1 i j = J ∧ St w X ((b4, C 107 [fnV lf lc, fnV sf sc]) :: (bl, C 22 [v]) :: B1) w') (μ := fun j => j) (b - 1) ?_ (by repeat constructor) ?_
      · exact ⟨by omega, by rw [hiI]; exact hJ, hS⟩
      clear hS
      rintro j w64 ⟨hj, hJ2, hS⟩
      refine SatC.weak (e' := [(1, _), (4, _), (8, _), (9, _), (10, _), (11, _)]) (by repeat constructor) ?_
      refine SatC.seq ?_
      refine SatC.seq ?_
      refine SatC.region ?_
      refine SatL.pu (RunV.move rfl) rfl ?_
      refine SatL.pu (RunV.move rfl) rfl ?_
      refine SatL.pu (RunV.leq rfl rfl) rfl ?_
      refine SatL.pu (RunV.move rfl) rfl ?_
      refine SatL.guard rfl rfl rfl (fun h1 => ?_) (fun h1 => ?_)
      · (try simp only [cx, ne_eq] at h1)
        try (exfalso; (first | omega | exact h1 trivial | contradiction | (first | omega | (simp at h1; done))); done)
        all_goals
        first | refine SatL.pu (RunV.fieldAddrL rfl rfl rfl) rfl ?_ | refine SatL.pu (RunV.fieldAddr rfl rfl rfl) rfl ?_
        refine SatL.guard_y rfl rfl ?_
        refine SatL.pu (RunV.load1 hS rfl rfl (by repeat constructor) rfl) rfl ?_
        refine SatL.guard_y rfl rfl ?_
        refine SatL.pu (RunV.move rfl) rfl ?_
        refine SatL.guard_y rfl rfl ?_
        refine SatL.pu (RunV.move rfl) rfl ?_
        refine SatL.guard_y rfl rfl ?_
        refine SatL.op rfl (OpW.enterF (fs := []) (cap := lc) rfl rfl rfl (hsw.el) (hsw.less _ B1 d1 j a _ _ rfl rfl (by omega) (by omega) hn1 hsl1 (hS.ownT (A := (bl, C 22 [v]) :: B1) (by repeat constructor))) ?_)
        rintro r65 w65 ⟨rfl, h⟩
        replace hS := St.callN hS h
        refine SatL.guard_y rfl rfl ?_
        refine SatL.pu (RunV.not rfl) rfl ?_
        refine SatL.pu (RunV.pick_t rfl rfl) rfl ?_
        refine SatL.nil (SatE.thenC ?_)
        refine SatC.cond rfl (fun h2 => ?_) (fun h2 => ?_)
        · (try simp only [cx, ne_eq] at h2)
          try (exfalso; (first | omega | exact h2 trivial | contradiction | (first | omega | (simp at h2; done))); done)
          all_goals
          refine SatC.skip (SatE.thenC ?_)
          refine SatC.block ?_
          refine SatC.region ?_
          refine SatL.pu (RunV.move rfl) rfl ?_
          refine SatL.pu (RunV.sub (r := ((j - 1 : Nat) : Int)) rfl rfl (by rw [wrapI64 (by omega)]; omega)) rfl ?_
          refine SatL.pu (RunV.assign rfl) rfl ?_
          refine SatL.nil (SatE.blk_normal ?_)
          refine SatE.again (j - 1) ?_ (by first | omega | (dsimp only; omega)) (by repeat constructor)
          exact ⟨by omega, by rw [← hJ2]; exact sdn_go (by omega) (by omega) (by simp [*]), hS⟩
        · (try simp only [cx, ne_eq] at h2)
          try (exfalso; (first | omega | exact h2 trivial | contradiction | (first | omega | (simp at h2; done))); done)
          all_goals
          refine SatC.exit (SatE.then_exit (SatE.then_exit (SatE.blk_exit ?_)))
          refine SatE.met (j) ?_ (by repeat constructor)
          exact ⟨by rw [← hJ2]; exact (sdn_stop (.inr (by simp [*]))).symm, hj, hS⟩
      · (try simp only [cx, ne_eq] at h1)
        try (exfalso; (first | omega | exact h1 trivial | contradiction | (first | omega | (simp at h1; done))); done)
        all_goals
        refine SatL.guard_n rfl rfl rfl rfl ?_
        refine SatL.guard_n rfl rfl rfl rfl ?_
        refine SatL.guard_n rfl rfl rfl rfl ?_
        refine SatL.guard_n rfl rfl rfl rfl ?_
        refine SatL.guard_n rfl rfl rfl rfl ?_
        refine SatL.pu (RunV.pick_f rfl rfl) rfl ?_
        refine SatL.nil (SatE.thenC ?_)
        refine SatC.cond_f rfl ?_
        refine SatC.exit (SatE.then_exit (SatE.then_exit (SatE.blk_exit ?_)))
        refine SatE.met (j) ?_ (by repeat constructor)
        exact ⟨by rw [← hJ2]; exact (sdn_stop (.inl (by omega))).symm, hj, hS⟩
    · clear hS
      rintro j w124 ⟨hjJ, hj, hS⟩
      subst hiI hjJ
      refine SatC.weak (e' := [(1, _), (4, _), (8, _), (9, _), (10, _), (11, _)]) (by repeat constructor) ?_
      refine SatC.seq ?_
      refine SatC.seq ?_
      refine SatC.region ?_
      refine SatL.pu (RunV.move rfl) rfl ?_
      refine SatL.pu (RunV.move rfl) rfl ?_
      refine SatL.pu (RunV.gtr rfl rfl) rfl ?_
      refine SatL.nil (SatE.thenC ?_)
      refine SatC.cond rfl (fun h1 => ?_) (fun h1 => ?_)
      · (try simp only [cx, ne_eq] at h1)
        try (exfalso; (first | omega | exact h1 trivial | contradiction | (first | omega | (simp at h1; done))); done)
        all_goals
        refine SatC.seq ?_
        obtain ⟨B2, W2, hsl2, hrun2, hq2⟩ := hsw.swap _ B1 d1 j a (j : Int) (a : Int) rfl rfl (by omega) (by omega) hn1 hsl1 (hS.ownT (A := B1) (by repeat constructor))
        rw [if_pos (by omega)] at hP
        refine SatC.region ?_
        first | refine SatL.pu (RunV.fieldAddrL rfl rfl rfl) rfl ?_ | refine SatL.pu (RunV.fieldAddr rfl rfl rfl) rfl ?_
        refine SatL.pu (RunV.load1 hS rfl rfl (by repeat constructor) rfl) rfl ?_
        refine SatL.pu (RunV.move rfl) rfl ?_
        refine SatL.pu (RunV.move rfl) rfl ?_
        refine SatL.op rfl (OpW.externF (fs := []) (cap := sc) rfl rfl rfl hrun2 ?_)
        replace hS := hS.callT (A := B1) (by repeat constructor) hq2
        refine SatL.nil (SatE.thenC ?_)
        refine SatC.seq ?_
        refine SatC.region ?_
        refine SatL.pu (RunV.move rfl) rfl ?_
        refine SatL.pu (RunV.assign rfl) rfl ?_
        refine SatL.pu (RunV.assign rfl) rfl ?_
        refine SatL.nil (SatE.thenC ?_)
        refine SatC.ret (SatE.then_ret ?_)
        refine SatE.ret2 rfl rfl rfl ?_
        subst hP; exact ⟨B2, rfl, hsl2, hS.sel (by repeat constructor)⟩
      · (try simp only [cx, ne_eq] at h1)
        try (exfalso; (first | omega | exact h1 trivial | contradiction | (first | omega | (simp at h1; done))); done)
        all_goals
        refine SatC.skip (SatE.thenC ?_)
        refine SatC.seq ?_
        obtain ⟨B2, W2, hsl2, hrun2, hq2⟩ := hsw.swap _ B1 d1 i j (i : Int) (j : Int) rfl rfl (by omega) (by omega) hn1 hsl1 (hS.ownT (A := B1) (by repeat constructor))
        rw [if_neg (by omega)] at hP
        obtain ⟨R, hR⟩ : ∃ R, partLoop firstI a (i + 1) (j - 1) (swp d1 i j) = R := ⟨_, rfl⟩
        rw [hR] at hP
        refine SatC.region ?_
        first | refine SatL.pu (RunV.fieldAddrL rfl rfl rfl) rfl ?_ | refine SatL.pu (RunV.fieldAddr rfl rfl rfl) rfl ?_
        refine SatL.pu (RunV.load1 hS rfl rfl (by repeat constructor) rfl) rfl ?_
        refine SatL.pu (RunV.move rfl) rfl ?_
        refine SatL.pu (RunV.move rfl) rfl ?_
        refine SatL.op rfl (OpW.externF (fs := []) (cap := sc) rfl rfl rfl hrun2 ?_)
        replace hS := hS.callT (A := B1) (by repeat constructor) hq2
        refine SatL.nil (SatE.thenC ?_)
        refine SatC.seq ?_
        refine SatC.region ?_
        refine SatL.pu (RunV.move rfl) rfl ?_
        refine SatL.pu (RunV.add rfl rfl (by first | exact wrapI64 (by omega) | rfl)) rfl ?_
        refine SatL.pu (RunV.assign rfl) rfl ?_
        refine SatL.nil (SatE.thenC ?_)
        refine SatC.seq ?_
        refine SatC.region ?_
        refine SatL.pu (RunV.move rfl) rfl ?_
        refine SatL.pu (RunV.sub (r := ((j - 1 : Nat) : Int)) rfl rfl (by rw [wrapI64 (by omega)]; omega)) rfl ?_
        refine SatL.pu (RunV.assign rfl) rfl ?_
        refine SatL.nil (SatE.thenC ?_)
        refine SatC.seq ?_
        refine SatC.block ?_
        refine SatC.loopK (G := Nat × Nat × Array Itn × List (Nat × Obj)) (V := fun ⟨k, m, d2, B3⟩ => [(10, .int .i64 (k : Int)), (11, .int .i64 (m : Int))]) (Cn := [(1, _), (4, _), (8, _), (9, _)]) (I := fun ⟨k, m, d2, B3⟩ w' => a + 1 ≤ k ∧ k ≤ b ∧ m < b ∧ partLoop firstI a k m d2 = R ∧ d2.size = n ∧ Rw v d2 B3 ∧ St w X ((b4, C 107 [fnV lf lc, fnV sf sc]) :: (bl, C 22 [v]) :: B3) w') (μ := fun ⟨k, m, d2, B3⟩ => m + 1 - k) (i + 1, j - 1, swp d1 i j, B2) ?_ (by repeat constructor) ?_
        · exact ⟨by omega, by omega, by omega, hR, by rw [swp_size]; exact hn1, hsl2, hS.sel (by repeat constructor)⟩
        clear hS
        rintro ⟨k, m, d2, B3⟩ w126 ⟨hk1, hk2, hm, hR2, hn3, hsl3, hS⟩
        rw [partLoop_eq] at hR2
        obtain ⟨I2, hI3⟩ : ∃ I2, scanUp (fun x => firstI x d2[a]!) d2 m k = I2 := ⟨_, rfl⟩
        rw [hI3] at hR2
        obtain ⟨J2, hJ3⟩ : ∃ J2, scanDown (fun x => !firstI x d2[a]!) d2 I2 m = J2 := ⟨_, rfl⟩
        rw [hJ3] at hR2
        refine SatC.weak (e' := [(1, _), (4, _), (8, _), (9, _), (10, _), (11, _)]) (by repeat constructor) ?_
        refine SatC.block ?_
        refine SatC.merge (G := Nat) (V := fun k2 => [(10, .int .i64 (k2 : Int))]) (Cn := [(1, _), (4, _), (8, _), (9, _), (11, _)]) (I := fun k2 w' => k2 = I2 ∧ k ≤ k2 ∧ k2 ≤ b ∧ St w X ((b4, C 107 [fnV lf lc, fnV sf sc]) :: (bl, C 22 [v]) :: B3) w') (by repeat constructor) ?_ ?_
        · skip
          refine SatC.block ?_
          refine SatC.loopK (G := Nat) (V := fun k2 => [(10, .int .i64 (k2 : Int))]) (Cn := [(1, _), (4, _), (8, _), (9, _), (11, _)]) (I := fun k2 w' => k ≤ k2 ∧ k2 ≤ b ∧ scanUp (fun x => firstI x d2[a]!) d2 m k2 = I2 ∧ St w X ((b4, C 107 [fnV lf lc, fnV sf sc]) :: (bl, C 22 [v]) :: B3) w') (μ := fun k2 => b - k2) k ?_ (by repeat constructor) ?_
          · exact ⟨by omega, by omega, hI3, hS⟩
          clear hS
          rintro k2 w127 ⟨hk3, hk4, hI4, hS⟩
          refine SatC.weak (e' := [(1, _), (4, _), (8, _), (9, _), (10, _), (11, _)]) (by repeat constructor) ?_
          refine SatC.seq ?_
          refine SatC.seq ?_
          refine SatC.region ?_
          refine SatL.pu (RunV.move rfl) rfl ?_
          refine SatL.pu (RunV.move rfl) rfl ?_
          refine SatL.pu (RunV.leq rfl rfl) rfl ?_
          refine SatL.pu (RunV.move rfl) rfl ?_
          refine SatL.guard rfl rfl rfl (fun h2 => ?_) (fun h2 => ?_)
          · (try simp only [cx, ne_eq] at h2)
            try (exfalso; (first | omega | exact h2 trivial | contradiction | (first | omega | (simp at h2; done))); done)
            all_goals
            first | refine SatL.pu (RunV.fieldAddrL rfl rfl rfl) rfl ?_ | refine SatL.pu (RunV.fieldAddr rfl rfl rfl) rfl ?_
            refine SatL.guard_y rfl rfl ?_
            refine SatL.pu (RunV.load1 hS rfl rfl (by repeat constructor) rfl) rfl ?_
            refine SatL.guard_y rfl rfl ?_
            refine SatL.pu (RunV.move rfl) rfl ?_
            refine SatL.guard_y rfl rfl ?_
            refine SatL.pu (RunV.move rfl) rfl ?_
            refine SatL.guard_y rfl rfl ?_
            refine SatL.op rfl (OpW.enterF (fs := []) (cap := lc) rfl rfl rfl (hsw.el) (hsw.less _ B3 d2 k2 a _ _ rfl rfl (by omega) (by omega) hn3 hsl3 (hS.ownT (A := (bl, C 22 [v]) :: B3) (by repeat constructor))) ?_)
            rintro r128 w128 ⟨rfl, h⟩
            replace hS := St.callN hS h
            refine SatL.pu (RunV.pick_t rfl rfl) rfl ?_
            refine SatL.nil (SatE.thenC ?_)
            refine SatC.cond rfl (fun h3 => ?_) (fun h3 => ?_)
            · (try simp only [cx, ne_eq] at h3)
              try (exfalso; (first | omega | exact h3 trivial | contradiction | (first | omega | (simp at h3; done))); done)
              all_goals
              refine SatC.skip (SatE.thenC ?_)
              refine SatC.block ?_
              refine SatC.region ?_
              refine SatL.pu (RunV.move rfl) rfl ?_
              refine SatL.pu (RunV.add rfl rfl (by first | exact wrapI64 (by omega) | rfl)) rfl ?_
              refine SatL.pu (RunV.assign rfl) rfl ?_
              refine SatL.nil (SatE.blk_normal ?_)
              refine SatE.again (k2 + 1) ?_ (by first | omega | (dsimp only; omega)) (by repeat constructor)
              exact ⟨by omega, by omega, by rw [← hI4]; exact su_go (by omega) (by assumption), hS⟩
            · (try simp only [cx, ne_eq] at h3)
              try (exfalso; (first | omega | exact h3 trivial | contradiction | (first | omega | (simp at h3; done))); done)
              all_goals
              refine SatC.exit (SatE.then_exit (SatE.then_exit (SatE.blk_exit ?_)))
              refine SatE.met (k2) ?_ (by repeat constructor)
              exact ⟨by rw [← hI4]; exact (su_stop (.inr (by simpa using ‹_ = false›))).symm, hk3, hk4, hS⟩
          · (try simp only [cx, ne_eq] at h2)
            try (exfalso; (first | omega | exact h2 trivial | contradiction | (first | omega | (simp at h2; done))); done)
            all_goals
            refine SatL.guard_n rfl rfl rfl rfl ?_
            refine SatL.guard_n rfl rfl rfl rfl ?_
            refine SatL.guard_n rfl rfl rfl rfl ?_
            refine SatL.guard_n rfl rfl rfl rfl ?_
            refine SatL.pu (RunV.pick_f rfl rfl) rfl ?_
            refine SatL.nil (SatE.thenC ?_)
            refine SatC.cond_f rfl ?_
            refine SatC.exit (SatE.then_exit (SatE.then_exit (SatE.blk_exit ?_)))
            refine SatE.met (k2) ?_ (by repeat constructor)
            exact ⟨by rw [← hI4]; exact (su_stop (.inl (by omega))).symm, hk3, hk4, hS⟩
        · clear hS
          rintro k2 w187 ⟨hkI, hk3, hk4, hS⟩
          refine SatC.weak (e' := [(1, _), (4, _), (8, _), (9, _), (10, _), (11, _)]) (by repeat constructor) ?_
          refine SatC.merge (G := Nat) (V := fun m2 => [(11, .int .i64 (m2 : Int))]) (Cn := [(1, _), (4, _), (8, _), (9, _), (10, _)]) (I := fun m2 w' => m2 = J2 ∧ m2 ≤ m ∧ St w X ((b4, C 107 [fnV lf lc, fnV sf sc]) :: (bl, C 22 [v]) :: B3) w') (by repeat constructor) ?_ ?_
          · skip
            refine SatC.block ?_
            refine SatC.loopK (G := Nat) (V := fun m2 => [(11, .int .i64 (m2 : Int))]) (Cn := [(1, _), (4, _), (8, _), (9, _), (10, _)]) (I := fun m2 w' => m2 ≤ m ∧ scanDown (fun x => !firstI x d2[a]!) d2 k2 m2 = J2 ∧ St w X ((b4, C 107 [fnV lf lc, fnV sf sc]) :: (bl, C 22 [v]) :: B3) w') (μ := fun m2 => m2) m ?_ (by repeat constructor) ?_
            · exact ⟨by omega, by rw [hkI]; exact hJ3, hS⟩
            clear hS
            rintro m2 w188 ⟨hm2, hJ4, hS⟩
            refine SatC.weak (e' := [(1, _), (4, _), (8, _), (9, _), (10, _), (11, _)]) (by repeat constructor) ?_
            refine SatC.seq ?_
            refine SatC.seq ?_
            refine SatC.region ?_
            refine SatL.pu (RunV.move rfl) rfl ?_
            refine SatL.pu (RunV.move rfl) rfl ?_
            refine SatL.pu (RunV.leq rfl rfl) rfl ?_
            refine SatL.pu (RunV.move rfl) rfl ?_
            refine SatL.guard rfl rfl rfl (fun h2 => ?_) (fun h2 => ?_)
            · (try simp only [cx, ne_eq] at h2)
              try (exfalso; (first | omega | exact h2 trivial | contradiction | (first | omega | (simp at h2; done))); done)
              all_goals
              first | refine SatL.pu (RunV.fieldAddrL rfl rfl rfl) rfl ?_ | refine SatL.pu (RunV.fieldAddr rfl rfl rfl) rfl ?_
              refine SatL.guard_y rfl rfl ?_
              refine SatL.pu (RunV.load1 hS rfl rfl (by repeat constructor) rfl) rfl ?_
              refine SatL.guard_y rfl rfl ?_
              refine SatL.pu (RunV.move rfl) rfl ?_
              refine SatL.guard_y rfl rfl ?_
              refine SatL.pu (RunV.move rfl) rfl ?_
              refine SatL.guard_y rfl rfl ?_
              refine SatL.op rfl (OpW.enterF (fs := []) (cap := lc) rfl rfl rfl (hsw.el) (hsw.less _ B3 d2 m2 a _ _ rfl rfl (by omega) (by omega) hn3 hsl3 (hS.ownT (A := (bl, C 22 [v]) :: B3) (by repeat constructor))) ?_)
              rintro r189 w189 ⟨rfl, h⟩
              replace hS := St.callN hS h
              refine SatL.guard_y rfl rfl ?_
              refine SatL.pu (RunV.not rfl) rfl ?_
              refine SatL.pu (RunV.pick_t rfl rfl) rfl ?_
              refine SatL.nil (SatE.thenC ?_)
              refine SatC.cond rfl (fun h3 => ?_) (fun h3 => ?_)
              · (try simp only [cx, ne_eq] at h3)
                try (exfalso; (first | omega | exact h3 trivial | contradiction | (first | omega | (simp at h3; done))); done)
                all_goals
                refine SatC.skip (SatE.thenC ?_)
                refine SatC.block ?_
                refine SatC.region ?_
                refine SatL.pu (RunV.move rfl) rfl ?_
                refine SatL.pu (RunV.sub (r := ((m2 - 1 : Nat) : Int)) rfl rfl (by rw [wrapI64 (by omega)]; omega)) rfl ?_
                refine SatL.pu (RunV.assign rfl) rfl ?_
                refine SatL.nil (SatE.blk_normal ?_)
                refine SatE.again (m2 - 1) ?_ (by first | omega | (dsimp only; omega)) (by repeat constructor)
                exact ⟨by omega, by rw [← hJ4]; exact sdn_go (by omega) (by omega) (by simp [*]), hS⟩
              · (try simp only [cx, ne_eq] at h3)
                try (exfalso; (first | omega | exact h3 trivial | contradiction | (first | omega | (simp at h3; done))); done)
                all_goals
                refine SatC.exit (SatE.then_exit (SatE.then_exit (SatE.blk_exit ?_)))
                refine SatE.met (m2) ?_ (by repeat constructor)
                exact ⟨by rw [← hJ4]; exact (sdn_stop (.inr (by simp [*]))).symm, hm2, hS⟩
            · (try simp only [cx, ne_eq] at h2)
              try (exfalso; (first | omega | exact h2 trivial | contradiction | (first | omega | (simp at h2; done))); done)
              all_goals
              refine SatL.guard_n rfl rfl rfl rfl ?_
              refine SatL.guard_n rfl rfl rfl rfl ?_
              refine SatL.guard_n rfl rfl rfl rfl ?_
              refine SatL.guard_n rfl rfl rfl rfl ?_
              refine SatL.guard_n rfl rfl rfl rfl ?_
              refine SatL.pu (RunV.pick_f rfl rfl) rfl ?_
              refine SatL.nil (SatE.thenC ?_)
              refine SatC.cond_f rfl ?_
              refine SatC.exit (SatE.then_exit (SatE.then_exit (SatE.blk_exit ?_)))
              refine SatE.met (m2) ?_ (by repeat constructor)
              exact ⟨by rw [← hJ4]; exact (sdn_stop (.inl (by omega))).symm, hm2, hS⟩
          · clear hS
            rintro m2 w248 ⟨hmJ, hm2, hS⟩
            subst hkI hmJ
            refine SatC.weak (e' := [(1, _), (4, _), (8, _), (9, _), (10, _), (11, _)]) (by repeat constructor) ?_
            refine SatC.seq ?_
            refine SatC.seq ?_
            refine SatC.region ?_
            refine SatL.pu (RunV.move rfl) rfl ?_
            refine SatL.pu (RunV.move rfl) rfl ?_
            refine SatL.pu (RunV.gtr rfl rfl) rfl ?_
            refine SatL.nil (SatE.thenC ?_)
            refine SatC.cond rfl (fun h2 => ?_) (fun h2 => ?_)
            · (try simp only [cx, ne_eq] at h2)
              try (exfalso; (first | omega | exact h2 trivial | contradiction | (first | omega | (simp at h2; done))); done)
              all_goals
              refine SatC.exit (SatE.then_exit (SatE.blk_other rfl (SatE.then_exit (SatE.blk_exit (SatE.thenC ?_)))))
              refine SatC.seq ?_
              rw [if_pos (by omega)] at hR2
              subst hR2
              obtain ⟨B4, W4, hsl4, hrun4, hq4⟩ := hsw.swap _ B3 d2 m2 a (m2 : Int) (a : Int) rfl rfl (by omega) (by omega) hn3 hsl3 (hS.ownT (A := B3) (by repeat constructor))
              refine SatC.region ?_
              first | refine SatL.pu (RunV.fieldAddrL rfl rfl rfl) rfl ?_ | refine SatL.pu (RunV.fieldAddr rfl rfl rfl) rfl ?_
              refine SatL.pu (RunV.load1 hS rfl rfl (by repeat constructor) rfl) rfl ?_
              refine SatL.pu (RunV.move rfl) rfl ?_
              refine SatL.pu (RunV.move rfl) rfl ?_
              refine SatL.op rfl (OpW.externF (fs := []) (cap := sc) rfl rfl rfl hrun4 ?_)
              replace hS := hS.callT (A := B3) (by repeat constructor) hq4
              refine SatL.nil (SatE.thenC ?_)
              refine SatC.seq ?_
              refine SatC.region ?_
              refine SatL.pu (RunV.move rfl) rfl ?_
              refine SatL.pu (RunV.assign rfl) rfl ?_
              refine SatL.pu (RunV.assign rfl) rfl ?_
              refine SatL.nil (SatE.thenC ?_)
              refine SatC.ret ?_
              refine SatE.ret2 rfl rfl rfl ?_
              subst hP; exact ⟨B4, rfl, hsl4, hS.sel (by repeat constructor)⟩
            · (try simp only [cx, ne_eq] at h2)
              try (exfalso; (first | omega | exact h2 trivial | contradiction | (first | omega | (simp at h2; done))); done)
              all_goals
              refine SatC.skip (SatE.thenC ?_)
              refine SatC.seq ?_
              obtain ⟨B4, W4, hsl4, hrun4, hq4⟩ := hsw.swap _ B3 d2 k2 m2 (k2 : Int) (m2 : Int) rfl rfl (by omega) (by omega) hn3 hsl3 (hS.ownT (A := B3) (by repeat constructor))
              rw [if_neg (by omega)] at hR2
              refine SatC.region ?_
              first | refine SatL.pu (RunV.fieldAddrL rfl rfl rfl) rfl ?_ | refine SatL.pu (RunV.fieldAddr rfl rfl rfl) rfl ?_
              refine SatL.pu (RunV.load1 hS rfl rfl (by repeat constructor) rfl) rfl ?_
              refine SatL.pu (RunV.move rfl) rfl ?_
              refine SatL.pu (RunV.move rfl) rfl ?_
              refine SatL.op rfl (OpW.externF (fs := []) (cap := sc) rfl rfl rfl hrun4 ?_)
              replace hS := hS.callT (A := B3) (by repeat constructor) hq4
              refine SatL.nil (SatE.thenC ?_)
              refine SatC.seq ?_
              refine SatC.region ?_
              refine SatL.pu (RunV.move rfl) rfl ?_
              refine SatL.pu (RunV.add rfl rfl (by first | exact wrapI64 (by omega) | rfl)) rfl ?_
              refine SatL.pu (RunV.assign rfl) rfl ?_
              refine SatL.nil (SatE.thenC ?_)
              refine SatC.region ?_
              refine SatL.pu (RunV.move rfl) rfl ?_
              refine SatL.pu (RunV.sub (r := ((m2 - 1 : Nat) : Int)) rfl rfl (by rw [wrapI64 (by omega)]; omega)) rfl ?_
              refine SatL.pu (RunV.assign rfl) rfl ?_
              refine SatL.nil (SatE.blk_normal ?_)
              refine SatE.again ((k2 + 1, m2 - 1, swp d2 k2 m2, B4)) ?_ (by first | omega | (dsimp only; omega)) (by repeat constructor)
              exact ⟨by omega, by omega, by omega, hR2, by rw [swp_size]; exact hn3, hsl4, hS.sel (by repeat constructor)⟩
theorem parteq_any (a b pv : Nat) (hsw : SW lf sf lc sc bl v n) (hsl : Rw v d B) (hn : d.size = n) (ha : a + 1 < b) (hb : b ≤ n) (hn2 : n ≤ 1000) (hpv : pv < n) (hown : Own w ((bl, C 22 [v]) :: B)) :
    Ret Try.prog 90 #[.agg #[fnV lf lc, fnV sf sc], .int .i64 (a : Int), .int .i64 (b : Int), .int .i64 (pv : Int)] w fun u w' => ∃ B', u = .int .i64 ((partitionEqual firstI d a b pv).1 : Int) ∧ Rw v (partitionEqual firstI d a b pv).2 B' ∧ St w (((bl, C 22 [v]) :: B).map Prod.fst) ((bl, C 22 [v]) :: B') w' := by
  have hS := St.init hown
  generalize hX : ((bl, C 22 [v]) :: B).map Prod.fst = X at hS ⊢
  unfold partitionEqual
  obtain ⟨d1, hd1⟩ : ∃ d1, swp d a pv = d1 := ⟨_, rfl⟩
  have hn1 : d1.size = n := by rw [← hd1, swp_size]; exact hn
  rw [hd1]
  generalize hR : partEqLoop firstI a (a + 1) (b - 1) d1 = R
  refine Ret.enter Try.func90 Try.ntmps90 rfl rfl ?_
  simp only [argEnv, Nat.reduceAdd]
  refine SatC.seq ?_
  refine SatC.region ?_
  refine SatL.op rfl (OpW.box hS rfl rfl (by repeat constructor) ?_)
  clear hS
  intro b4 w1 _ hS
  refine SatL.pu (RunV.assign rfl) rfl ?_
  refine SatL.nil (SatE.thenC ?_)
  refine SatC.seq ?_
  obtain ⟨B1, W1, hsl1, hrun, hq⟩ := hsw.swap _ B d a pv (a : Int) (pv : Int) rfl rfl (by omega) (by omega) hn hsl (hS.ownT (A := B) (by repeat constructor))
  rw [hd1] at hsl1
  refine SatC.region ?_
  first | refine SatL.pu (RunV.fieldAddrL rfl rfl rfl) rfl ?_ | refine SatL.pu (RunV.fieldAddr rfl rfl rfl) rfl ?_
  refine SatL.pu (RunV.load1 hS rfl rfl (by repeat constructor) rfl) rfl ?_
  refine SatL.pu (RunV.move rfl) rfl ?_
  refine SatL.pu (RunV.move rfl) rfl ?_
  refine SatL.op rfl (OpW.externF (fs := []) (cap := sc) rfl rfl rfl hrun ?_)
  replace hS := hS.callT (A := B) (by repeat constructor) hq
  refine SatL.nil (SatE.thenC ?_)
  refine SatC.seq ?_
  refine SatC.region ?_
  refine SatL.pu (RunV.move rfl) rfl ?_
  refine SatL.pu (RunV.add rfl rfl (by first | exact wrapI64 (by omega) | rfl)) rfl ?_
  refine SatL.pu (RunV.move rfl) rfl ?_
  refine SatL.pu (RunV.sub (r := ((b - 1 : Nat) : Int)) rfl rfl (by rw [wrapI64 (by omega)]; omega)) rfl ?_
  refine SatL.pu (RunV.assign rfl) rfl ?_
  refine SatL.pu (RunV.assign rfl) rfl ?_
  refine SatL.nil (SatE.thenC ?_)
  refine SatC.seq ?_
  refine SatC.block ?_
  refine SatC.loopK (G := Nat × Nat × Array Itn × List (Nat × Obj)) (V := fun ⟨k, m, d2, B3⟩ => [(9, .int .i64 (k : Int)), (10, .int .i64 (m : Int))]) (Cn := [(1, _), (4, _), (8, _)]) (I := fun ⟨k, m, d2, B3⟩ w' => a + 1 ≤ k ∧ k ≤ b ∧ m < b ∧ partEqLoop firstI a k m d2 = R ∧ d2.size = n ∧ Rw v d2 B3 ∧ St w X ((b4, C 107 [fnV lf lc, fnV sf sc]) :: (bl, C 22 [v]) :: B3) w') (μ := fun ⟨k, m, d2, B3⟩ => m + 1 - k) (a + 1, b - 1, d1, B1) ?_ (by repeat constructor) ?_
  · exact ⟨by omega, by omega, by omega, hR, hn1, hsl1, hS.sel (by repeat constructor)⟩
  clear hS
  rintro ⟨k, m, d2, B3⟩ w3 ⟨hk1, hk2, hm, hR2, hn3, hsl3, hS⟩
  rw [partEqLoop_eq] at hR2
  obtain ⟨I2, hI3⟩ : ∃ I2, scanUp (fun x => !firstI d2[a]! x) d2 m k = I2 := ⟨_, rfl⟩
  rw [hI3] at hR2
  obtain ⟨J2, hJ3⟩ : ∃ J2, scanDown (fun x => firstI d2[a]! x) d2 I2 m = J2 := ⟨_, rfl⟩
  rw [hJ3] at hR2
  refine SatC.weak (e' := [(1, _), (4, _), (8, _), (9, _), (10, _)]) (by repeat constructor) ?_
  refine SatC.block ?_
  refine SatC.merge (G := Nat) (V := fun k2 => [(9, .int .i64 (k2 : Int))]) (Cn := [(1, _), (4, _), (8, _), (10, _)]) (I := fun k2 w' => k2 = I2 ∧ k ≤ k2 ∧ k2 ≤ b ∧ St w X ((b4, C 107 [fnV lf lc, fnV sf sc]) :: (bl, C 22 [v]) :: B3) w') (by repeat constructor) ?_ ?_
  · skip
    refine SatC.block ?_
    refine SatC.loopK (G := Nat) (V := fun k2 => [(9, .int .i64 (k2 : Int))]) (Cn := [(1, _), (4, _), (8, _), (10, _)]) (I := fun k2 w' => k ≤ k2 ∧ k2 ≤ b ∧ scanUp (fun x => !firstI d2[a]! x) d2 m k2 = I2 ∧ St w X ((b4, C 107 [fnV lf lc, fnV sf sc]) :: (bl, C 22 [v]) :: B3) w') (μ := fun k2 => b - k2) k ?_ (by repeat constructor) ?_
    · exact ⟨by omega, by omega, hI3, hS⟩
    clear hS
    rintro k2 w4 ⟨hk3, hk4, hI4, hS⟩
    refine SatC.weak (e' := [(1, _), (4, _), (8, _), (9, _), (10, _)]) (by repeat constructor) ?_
    refine SatC.seq ?_
    refine SatC.seq ?_
    refine SatC.region ?_
    refine SatL.pu (RunV.move rfl) rfl ?_
    refine SatL.pu (RunV.move rfl) rfl ?_
    refine SatL.pu (RunV.leq rfl rfl) rfl ?_
    refine SatL.pu (RunV.move rfl) rfl ?_
    refine SatL.guard rfl rfl rfl (fun h1 => ?_) (fun h1 => ?_)
    · (try simp only [cx, ne_eq] at h1)
      try (exfalso; (first | omega | exact h1 trivial | contradiction | (first | omega | (simp at h1; done))); done)
      all_goals
      first | refine SatL.pu (RunV.fieldAddrL rfl rfl rfl) rfl ?_ | refine SatL.pu (RunV.fieldAddr rfl rfl rfl) rfl ?_
      refine SatL.guard_y rfl rfl ?_
      refine SatL.pu (RunV.load1 hS rfl rfl (by repeat constructor) rfl) rfl ?_
      refine SatL.guard_y rfl rfl ?_
      refine SatL.pu (RunV.move rfl) rfl ?_
      refine SatL.guard_y rfl rfl ?_
      refine SatL.pu (RunV.move rfl) rfl ?_
      refine SatL.guard_y rfl rfl ?_
      refine SatL.op rfl (OpW.enterF (fs := []) (cap := lc) rfl rfl rfl (hsw.el) (hsw.less _ B3 d2 a k2 _ _ rfl rfl (by omega) (by omega) hn3 hsl3 (hS.ownT (A := (bl, C 22 [v]) :: B3) (by repeat constructor))) ?_)
      rintro r5 w5 ⟨rfl, h⟩
      replace hS := St.callN hS h
      refine SatL.guard_y rfl rfl ?_
      refine SatL.pu (RunV.not rfl) rfl ?_
      refine SatL.pu (RunV.pick_t rfl rfl) rfl ?_
      refine SatL.nil (SatE.thenC ?_)
      refine SatC.cond rfl (fun h2 => ?_) (fun h2 => ?_)
      · (try simp only [cx, ne_eq] at h2)
        try (exfalso; (first | omega | exact h2 trivial | contradiction | (first | omega | (simp at h2; done))); done)
        all_goals
        refine SatC.skip (SatE.thenC ?_)
        refine SatC.block ?_
        refine SatC.region ?_
        refine SatL.pu (RunV.move rfl) rfl ?_
        refine SatL.pu (RunV.add rfl rfl (by first | exact wrapI64 (by omega) | rfl)) rfl ?_
        refine SatL.pu (RunV.assign rfl) rfl ?_
        refine SatL.nil (SatE.blk_normal ?_)
        refine SatE.again (k2 + 1) ?_ (by first | omega | (dsimp only; omega)) (by repeat constructor)
        exact ⟨by omega, by omega, by rw [← hI4]; exact su_go (by omega) (by simp [*]), hS⟩
      · (try simp only [cx, ne_eq] at h2)
        try (exfalso; (first | omega | exact h2 trivial | contradiction | (first | omega | (simp at h2; done))); done)
        all_goals
        refine SatC.exit (SatE.then_exit (SatE.then_exit (SatE.blk_exit ?_)))
        refine SatE.met (k2) ?_ (by repeat constructor)
        exact ⟨by rw [← hI4]; exact (su_stop (.inr (by simp [*]))).symm, hk3, hk4, hS⟩
    · (try simp only [cx, ne_eq] at h1)
      try (exfalso; (first | omega | exact h1 trivial | contradiction | (first | omega | (simp at h1; done))); done)
      all_goals
      refine SatL.guard_n rfl rfl rfl rfl ?_
      refine SatL.guard_n rfl rfl rfl rfl ?_
      refine SatL.guard_n rfl rfl rfl rfl ?_
      refine SatL.guard_n rfl rfl rfl rfl ?_
      refine SatL.guard_n rfl rfl rfl rfl ?_
      refine SatL.pu (RunV.pick_f rfl rfl) rfl ?_
      refine SatL.nil (SatE.thenC ?_)
      refine SatC.cond_f rfl ?_
      refine SatC.exit (SatE.then_exit (SatE.then_exit (SatE.blk_exit ?_)))
      refine SatE.met (k2) ?_ (by repeat constructor)
      exact ⟨by rw [← hI4]; exact (su_stop (.inl (by omega))).symm, hk3, hk4, hS⟩
  · clear hS
    rintro k2 w64 ⟨hkI, hk3, hk4, hS⟩
    refine SatC.weak (e' := [(1, _), (4, _), (8, _), (9, _), (10, _)]) (by repeat constructor) ?_
    refine SatC.merge (G := Nat) (V := fun m2 => [(10, .int .i64 (m2 : Int))]) (Cn := [(1, _), (4, _), (8, _), (9, _)]) (I := fun m2 w' => m2 = J2 ∧ m2 ≤ m ∧ St w X ((b4, C 107 [fnV lf lc, fnV sf sc]) :: (bl, C 22 [v]) :: B3) w') (by repeat constructor) ?_ ?_
    · skip
      refine SatC.block ?_
      refine SatC.loopK (G := Nat) (V := fun m2 => [(10, .int .i64 (m2 : Int))]) (Cn := [(1, _), (4, _), (8, _), (9, _)]) (I := fun m2 w' => m2 ≤ m ∧ scanDown (fun x => firstI d2[a]! x) d2 k2 m2 = J2 ∧ St w X ((b4, C 107 [fnV lf lc, fnV sf sc]) :: (bl, C 22 [v]) :: B3) w') (μ := fun m2 => m2) m ?_ (by repeat constructor) ?_
      · exact ⟨by omega, by rw [hkI]; exact hJ3, hS⟩
      clear hS
      rintro m2 w65 ⟨hm2, hJ4, hS⟩
      refine SatC.weak (e' := [(1, _), (4, _), (8, _), (9, _), (10, _)]) (by repeat constructor) ?_
      refine SatC.seq ?_
      refine SatC.seq ?_
      refine SatC.region ?_
      refine SatL.pu (RunV.move rfl) rfl ?_
      refine SatL.pu (RunV.move rfl) rfl ?_
      refine SatL.pu (RunV.leq rfl rfl) rfl ?_
      refine SatL.pu (RunV.move rfl) rfl ?_
      refine SatL.guard rfl rfl rfl (fun h1 => ?_) (fun h1 => ?_)
      · (try simp only [cx, ne_eq] at h1)
        try (exfalso; (first | omega | exact h1 trivial | contradiction | (first | omega | (simp at h1; done))); done)
        all_goals
        first | refine SatL.pu (RunV.fieldAddrL rfl rfl rfl) rfl ?_ | refine SatL.pu (RunV.fieldAddr rfl rfl rfl) rfl ?_
        refine SatL.guard_y rfl rfl ?_
        refine SatL.pu (RunV.load1 hS rfl rfl (by repeat constructor) rfl) rfl ?_
        refine SatL.guard_y rfl rfl ?_
        refine SatL.pu (RunV.move rfl) rfl ?_
        refine SatL.guard_y rfl rfl ?_
        refine SatL.pu (RunV.move rfl) rfl ?_
        refine SatL.guard_y rfl rfl ?_
        refine SatL.op rfl (OpW.enterF (fs := []) (cap := lc) rfl rfl rfl (hsw.el) (hsw.less _ B3 d2 a m2 _ _ rfl rfl (by omega) (by omega) hn3 hsl3 (hS.ownT (A := (bl, C 22 [v]) :: B3) (by repeat constructor))) ?_)
        rintro r66 w66 ⟨rfl, h⟩
        replace hS := St.callN hS h
        refine SatL.pu (RunV.pick_t rfl rfl) rfl ?_
        refine SatL.nil (SatE.thenC ?_)
        refine SatC.cond rfl (fun h2 => ?_) (fun h2 => ?_)
        · (try simp only [cx, ne_eq] at h2)
          try (exfalso; (first | omega | exact h2 trivial | contradiction | (first | omega | (simp at h2; done))); done)
          all_goals
          refine SatC.skip (SatE.thenC ?_)
          refine SatC.block ?_
          refine SatC.region ?_
          refine SatL.pu (RunV.move rfl) rfl ?_
          refine SatL.pu (RunV.sub (r := ((m2 - 1 : Nat) : Int)) rfl rfl (by rw [wrapI64 (by omega)]; omega)) rfl ?_
          refine SatL.pu (RunV.assign rfl) rfl ?_
          refine SatL.nil (SatE.blk_normal ?_)
          refine SatE.again (m2 - 1) ?_ (by first | omega | (dsimp only; omega)) (by repeat constructor)
          exact ⟨by omega, by rw [← hJ4]; exact sdn_go (by omega) (by omega) (by assumption), hS⟩
        · (try simp only [cx, ne_eq] at h2)
          try (exfalso; (first | omega | exact h2 trivial | contradiction | (first | omega | (simp at h2; done))); done)
          all_goals
          refine SatC.exit (SatE.then_exit (SatE.then_exit (SatE.blk_exit ?_)))
          refine SatE.met (m2) ?_ (by repeat constructor)
          exact ⟨by rw [← hJ4]; exact (sdn_stop (.inr (by simpa using ‹_ = false›))).symm, hm2, hS⟩
      · (try simp only [cx, ne_eq] at h1)
        try (exfalso; (first | omega | exact h1 trivial | contradiction | (first | omega | (simp at h1; done))); done)
        all_goals
        refine SatL.guard_n rfl rfl rfl rfl ?_
        refine SatL.guard_n rfl rfl rfl rfl ?_
        refine SatL.guard_n rfl rfl rfl rfl ?_
        refine SatL.guard_n rfl rfl rfl rfl ?_
        refine SatL.pu (RunV.pick_f rfl rfl) rfl ?_
        refine SatL.nil (SatE.thenC ?_)
        refine SatC.cond_f rfl ?_
        refine SatC.exit (SatE.then_exit (SatE.then_exit (SatE.blk_exit ?_)))
        refine SatE.met (m2) ?_ (by repeat constructor)
        exact ⟨by rw [← hJ4]; exact (sdn_stop (.inl (by omega))).symm, hm2, hS⟩
    · clear hS
      rintro m2 w125 ⟨hmJ, hm2, hS⟩
      subst hkI hmJ
      refine SatC.weak (e' := [(1, _), (4, _), (8, _), (9, _), (10, _)]) (by repeat constructor) ?_
      refine SatC.seq ?_
      refine SatC.seq ?_
      refine SatC.region ?_
      refine SatL.pu (RunV.move rfl) rfl ?_
      refine SatL.pu (RunV.move rfl) rfl ?_
      refine SatL.pu (RunV.gtr rfl rfl) rfl ?_
      refine SatL.nil (SatE.thenC ?_)
      refine SatC.cond rfl (fun h1 => ?_) (fun h1 => ?_)
      · (try simp only [cx, ne_eq] at h1)
        try (exfalso; (first | omega | exact h1 trivial | contradiction | (first | omega | (simp at h1; done))); done)
        all_goals
        refine SatC.exit (SatE.then_exit (SatE.blk_other rfl (SatE.then_exit (SatE.blk_exit (SatE.thenC ?_)))))
        refine SatC.seq ?_
        rw [if_pos (by omega)] at hR2
        subst hR2
        refine SatC.region ?_
        refine SatL.pu (RunV.move rfl) rfl ?_
        refine SatL.pu (RunV.assign rfl) rfl ?_
        refine SatL.nil (SatE.thenC ?_)
        refine SatC.ret ?_
        refine SatE.ret1 rfl rfl ?_
        exact ⟨B3, rfl, hsl3, hS.sel (by repeat constructor)⟩
      · (try simp only [cx, ne_eq] at h1)
        try (exfalso; (first | omega | exact h1 trivial | contradiction | (first | omega | (simp at h1; done))); done)
        all_goals
        refine SatC.skip (SatE.thenC ?_)
        refine SatC.seq ?_
        obtain ⟨B4, W4, hsl4, hrun4, hq4⟩ := hsw.swap _ B3 d2 k2 m2 (k2 : Int) (m2 : Int) rfl rfl (by omega) (by omega) hn3 hsl3 (hS.ownT (A := B3) (by repeat constructor))
        rw [if_neg (by omega)] at hR2
        refine SatC.region ?_
        first | refine SatL.pu (RunV.fieldAddrL rfl rfl rfl) rfl ?_ | refine SatL.pu (RunV.fieldAddr rfl rfl rfl) rfl ?_
        refine SatL.pu (RunV.load1 hS rfl rfl (by repeat constructor) rfl) rfl ?_
        refine SatL.pu (RunV.move rfl) rfl ?_
        refine SatL.pu (RunV.move rfl) rfl ?_
        refine SatL.op rfl (OpW.externF (fs := []) (cap := sc) rfl rfl rfl hrun4 ?_)
        replace hS := hS.callT (A := B3) (by repeat constructor) hq4
        refine SatL.nil (SatE.thenC ?_)
        refine SatC.seq ?_
        refine SatC.region ?_
        refine SatL.pu (RunV.move rfl) rfl ?_
        refine SatL.pu (RunV.add rfl rfl (by first | exact wrapI64 (by omega) | rfl)) rfl ?_
        refine SatL.pu (RunV.assign rfl) rfl ?_
        refine SatL.nil (SatE.thenC ?_)
        refine SatC.region ?_
        refine SatL.pu (RunV.move rfl) rfl ?_
        refine SatL.pu (RunV.sub (r := ((m2 - 1 : Nat) : Int)) rfl rfl (by rw [wrapI64 (by omega)]; omega)) rfl ?_
        refine SatL.pu (RunV.assign rfl) rfl ?_
        refine SatL.nil (SatE.blk_normal ?_)
        refine SatE.again ((k2 + 1, m2 - 1, swp d2 k2 m2, B4)) ?_ (by first | omega | (dsimp only; omega)) (by repeat constructor)
        exact ⟨by omega, by omega, by omega, hR2, by rw [swp_size]; exact hn3, hsl4, hS.sel (by repeat constructor)⟩
theorem scs_go {α : Type} [Inhabited α] {lt : α → α → Bool} {d : Array α} {b i : Nat} (h : i < b) (hl : lt d[i]! d[i - 1]! = false) : scanSorted lt d b (i + 1) = scanSorted lt d b i := by
  rw [scanSorted.eq_1 lt d b i, if_pos (by simp [h, hl])]
theorem scs_stop {α : Type} [Inhabited α] {lt : α → α → Bool} {d : Array α} {b i : Nat} (h : ¬ i < b ∨ lt d[i]! d[i - 1]! = true) : scanSorted lt d b i = i := by
  rw [scanSorted, if_neg (by rcases h with h | h <;> simp [h])]
theorem shd_go {α : Type} [Inhabited α] {lt : α → α → Bool} {d : Array α} {j : Nat} (h : 0 < j) (hl : lt d[j]! d[j - 1]! = true) : shiftDown lt (j - 1) (swp d j (j - 1)) = shiftDown lt j d := by
  obtain ⟨m, rfl⟩ : ∃ m, j = m + 1 := ⟨j - 1, by omega⟩
  rw [Nat.add_sub_cancel] at hl ⊢
  rw [shiftDown, if_neg (by simp [hl])]
theorem shd_stop {α : Type} [Inhabited α] {lt : α → α → Bool} {d : Array α} {j : Nat} (h : j = 0 ∨ lt d[j]! d[j - 1]! = false) : shiftDown lt j d = d := by
  cases j with
  | zero => rfl
  | succ m =>
    rcases h with h | h
    · cases h
    · rw [Nat.add_sub_cancel] at h
      rw [shiftDown, if_pos (by simp [h])]
theorem shu_go {α : Type} [Inhabited α] {lt : α → α → Bool} {d : Array α} {b j : Nat} (h : j < b) (hl : lt d[j]! d[j - 1]! = true) : shiftUp lt b (j + 1) (swp d j (j - 1)) = shiftUp lt b j d := by
  rw [shiftUp.eq_1 lt b j d, if_pos h, if_neg (by simp [hl])]
theorem shu_stop {α : Type} [Inhabited α] {lt : α → α → Bool} {d : Array α} {b j : Nat} (h : ¬ j < b ∨ lt d[j]! d[j - 1]! = false) : shiftUp lt b j d = d := by
  rw [shiftUp]
  rcases h with h | h <;> simp [h]
theorem pins_any (a b : Nat) (hsw : SW lf sf lc sc bl v n) (hsl : Rw v d B) (hn : d.size = n) (ha : a + 1 < b) (hb : b ≤ n) (hn2 : n ≤ 1000) (hown : Own w ((bl, C 22 [v]) :: B)) :
    Ret Try.prog 89 #[.agg #[fnV lf lc, fnV sf sc], .int .i64 (a : Int), .int .i64 (b : Int)] w fun u w' => ∃ B', u = .bool (partialInsertionSort firstI d a b).2 ∧ Rw v (partialInsertionSort firstI d a b).1 B' ∧ St w (((bl, C 22 [v]) :: B).map Prod.fst) ((bl, C 22 [v]) :: B') w' := by
  have hS := St.init hown
  generalize hX : ((bl, C 22 [v]) :: B).map Prod.fst = X at hS ⊢
  unfold partialInsertionSort
  generalize hR : partialIns firstI a b 5 (a + 1) d = R
  refine Ret.enter Try.func89 Try.ntmps89 rfl rfl ?_
  simp only [argEnv, Nat.reduceAdd]
  refine SatC.seq ?_
  refine SatC.region ?_
  refine SatL.op rfl (OpW.box hS rfl rfl (by repeat constructor) ?_)
  clear hS
  intro b3 w1 _ hS
  refine SatL.pu (RunV.assign rfl) rfl ?_
  refine SatL.nil (SatE.thenC ?_)
  refine SatC.seq ?_
  refine SatC.region ?_
  refine SatL.pu (RunV.move rfl) rfl ?_
  refine SatL.pu (RunV.add rfl rfl (by first | exact wrapI64 (by omega) | rfl)) rfl ?_
  refine SatL.pu (RunV.assign rfl) rfl ?_
  refine SatL.nil (SatE.thenC ?_)
  refine SatC.seq ?_
  refine SatC.seq ?_
  refine SatC.region ?_
  refine SatL.pu (RunV.assign rfl) rfl ?_
  refine SatL.nil (SatE.thenC ?_)
  refine SatC.block ?_
  refine SatC.loopK (G := Int × Nat × Nat × Array Itn × List (Nat × Obj)) (V := fun ⟨x, k, i, d1, B1⟩ => [(8, .int .i64 x), (7, .int .i64 (i : Int))]) (Cn := [(1, _), (2, _), (3, _), (6, _)]) (I := fun ⟨x, k, i, d1, B1⟩ w' => x = 5 - (k : Int) ∧ k ≤ 5 ∧ a + 1 ≤ i ∧ i ≤ b ∧ partialIns firstI a b k i d1 = R ∧ d1.size = n ∧ Rw v d1 B1 ∧ St w X ((b3, C 107 [fnV lf lc, fnV sf sc]) :: (bl, C 22 [v]) :: B1) w') (μ := fun ⟨x, k, i, d1, B1⟩ => k) (0, 5, a + 1, d, B) ?_ (by repeat constructor) ?_
  · exact ⟨by omega, by omega, by omega, by omega, hR, hn, hsl, hS⟩
  clear hS
  rintro ⟨x, k, i, d1, B1⟩ w2 ⟨hx, hk, hi1, hi2, hR1, hn1, hsl1, hS⟩
  refine SatC.weak (e' := [(1, _), (2, _), (3, _), (6, _), (7, _), (8, _)]) (by repeat constructor) ?_
  refine SatC.seq ?_
  refine SatC.seq ?_
  refine SatC.region ?_
  refine SatL.pu (RunV.move rfl) rfl ?_
  refine SatL.pu (RunV.lss rfl rfl) rfl ?_
  refine SatL.nil (SatE.thenC ?_)
  refine SatC.cond rfl (fun h1 => ?_) (fun h1 => ?_)
  · (try simp only [cx, ne_eq] at h1)
    try (exfalso; (first | omega | exact h1 trivial | contradiction | (first | omega | (simp at h1; done))); done)
    all_goals
    refine SatC.skip (SatE.thenC ?_)
    refine SatC.merge (G := Nat × Array Itn × List (Nat × Obj)) (V := fun ⟨i6, d6, B6⟩ => [(7, .int .i64 (i6 : Int)), (6, .bool false)]) (Cn := [(1, _), (2, _), (3, _), (8, _)]) (I := fun ⟨i6, d6, B6⟩ w' => a + 1 ≤ i6 ∧ i6 ≤ b ∧ 0 < k ∧ partialIns firstI a b (k - 1) i6 d6 = R ∧ d6.size = n ∧ Rw v d6 B6 ∧ St w X ((b3, C 107 [fnV lf lc, fnV sf sc]) :: (bl, C 22 [v]) :: B6) w') (by repeat constructor) ?_ ?_
    · skip
      refine SatC.block ?_
      refine SatC.merge (G := Nat) (V := fun i2 => [(7, .int .i64 (i2 : Int))]) (Cn := [(1, _), (2, _), (3, _), (6, _), (8, _)]) (I := fun i2 w' => i2 = scanSorted firstI d1 b i ∧ a + 1 ≤ i2 ∧ i2 ≤ b ∧ St w X ((b3, C 107 [fnV lf lc, fnV sf sc]) :: (bl, C 22 [v]) :: B1) w') (by repeat constructor) ?_ ?_
      · skip
        refine SatC.block ?_
        refine SatC.loopK (G := Nat) (V := fun i2 => [(7, .int .i64 (i2 : Int))]) (Cn := [(1, _), (2, _), (3, _), (6, _), (8, _)]) (I := fun i2 w' => a + 1 ≤ i2 ∧ i2 ≤ b ∧ scanSorted firstI d1 b i2 = scanSorted firstI d1 b i ∧ St w X ((b3, C 107 [fnV lf lc, fnV sf sc]) :: (bl, C 22 [v]) :: B1) w') (μ := fun i2 => b - i2) i ?_ (by repeat constructor) ?_
        · exact ⟨hi1, hi2, rfl, hS⟩
        clear hS
        rintro i2 w3 ⟨hi3, hi4, hI2, hS⟩
        refine SatC.weak (e' := [(1, _), (2, _), (3, _), (6, _), (7, _), (8, _)]) (by repeat constructor) ?_
        refine SatC.seq ?_
        refine SatC.seq ?_
        refine SatC.region ?_
        refine SatL.pu (RunV.move rfl) rfl ?_
        refine SatL.pu (RunV.move rfl) rfl ?_
        refine SatL.pu (RunV.lss rfl rfl) rfl ?_
        refine SatL.pu (RunV.move rfl) rfl ?_
        refine SatL.guard rfl rfl rfl (fun h2 => ?_) (fun h2 => ?_)
        · (try simp only [cx, ne_eq] at h2)
          try (exfalso; (first | omega | exact h2 trivial | contradiction | (first | omega | (simp at h2; done))); done)
          all_goals
          first | refine SatL.pu (RunV.fieldAddrL rfl rfl rfl) rfl ?_ | refine SatL.pu (RunV.fieldAddr rfl rfl rfl) rfl ?_
          refine SatL.guard_y rfl rfl ?_
          refine SatL.pu (RunV.load1 hS rfl rfl (by repeat constructor) rfl) rfl ?_
          refine SatL.guard_y rfl rfl ?_
          refine SatL.pu (RunV.move rfl) rfl ?_
          refine SatL.guard_y rfl rfl ?_
          refine SatL.pu (RunV.move rfl) rfl ?_
          refine SatL.guard_y rfl rfl ?_
          refine SatL.pu (RunV.sub rfl rfl (by first | exact wrapI64 (by omega) | rfl)) rfl ?_
          refine SatL.guard_y rfl rfl ?_
          refine SatL.op rfl (OpW.enterF (fs := []) (cap := lc) rfl rfl rfl (hsw.el) (hsw.less _ B1 d1 i2 (i2 - 1) _ ((i2 : Int) - 1) rfl (by omega) (by omega) (by omega) hn1 hsl1 (hS.ownT (A := (bl, C 22 [v]) :: B1) (by repeat constructor))) ?_)
          rintro r4 w4 ⟨rfl, h⟩
          replace hS := St.callN hS h
          refine SatL.guard_y rfl rfl ?_
          refine SatL.pu (RunV.not rfl) rfl ?_
          refine SatL.pu (RunV.pick_t rfl rfl) rfl ?_
          refine SatL.nil (SatE.thenC ?_)
          refine SatC.cond rfl (fun h3 => ?_) (fun h3 => ?_)
          · (try simp only [cx, ne_eq] at h3)
            try (exfalso; (first | omega | exact h3 trivial | contradiction | (first | omega | (simp at h3; done))); done)
            all_goals
            refine SatC.skip (SatE.thenC ?_)
            refine SatC.block ?_
            refine SatC.weak (e' := [(1, _), (2, _), (3, _), (6, _), (7, _), (8, _)]) (by repeat constructor) ?_
            refine SatC.region ?_
            refine SatL.pu (RunV.move rfl) rfl ?_
            refine SatL.pu (RunV.add rfl rfl (by first | exact wrapI64 (by omega) | rfl)) rfl ?_
            refine SatL.pu (RunV.assign rfl) rfl ?_
            refine SatL.nil (SatE.blk_normal ?_)
            refine SatE.again (i2 + 1) ?_ (by first | omega | (dsimp only; omega)) (by repeat constructor)
            exact ⟨by omega, by omega, by rw [← hI2]; exact scs_go (by omega) (by assumption), hS⟩
          · (try simp only [cx, ne_eq] at h3)
            try (exfalso; (first | omega | exact h3 trivial | contradiction | (first | omega | (simp at h3; done))); done)
            all_goals
            refine SatC.exit (SatE.then_exit (SatE.then_exit (SatE.blk_exit ?_)))
            refine SatE.met (i2) ?_ (by repeat constructor)
            exact ⟨by rw [← hI2]; exact (scs_stop (.inr (by simpa using ‹_ = true›))).symm, hi3, hi4, hS⟩
        · (try simp only [cx, ne_eq] at h2)
          try (exfalso; (first | omega | exact h2 trivial | contradiction | (first | omega | (simp at h2; done))); done)
          all_goals
          refine SatL.guard_n rfl rfl rfl rfl ?_
          refine SatL.guard_n rfl rfl rfl rfl ?_
          refine SatL.guard_n rfl rfl rfl rfl ?_
          refine SatL.guard_n rfl rfl rfl rfl ?_
          refine SatL.guard_n rfl rfl rfl rfl ?_
          refine SatL.guard_n rfl rfl rfl rfl ?_
          refine SatL.pu (RunV.pick_f rfl rfl) rfl ?_
          refine SatL.nil (SatE.thenC ?_)
          refine SatC.cond_f rfl ?_
          refine SatC.exit (SatE.then_exit (SatE.then_exit (SatE.blk_exit ?_)))
          refine SatE.met (i2) ?_ (by repeat constructor)
          exact ⟨by rw [← hI2]; exact (scs_stop (.inl (by omega))).symm, hi3, hi4, hS⟩
      · clear hS
        rintro i2 w63 ⟨hiI, hi3, hi4, hS⟩
        obtain ⟨k, rfl⟩ : ∃ k', k = k' + 1 := ⟨k - 1, by omega⟩
        rw [partialIns_succ, ← hiI] at hR1
        refine SatC.weak (e' := [(1, _), (2, _), (3, _), (6, _), (7, _), (8, _)]) (by repeat constructor) ?_
        refine SatC.seq ?_
        refine SatC.seq ?_
        refine SatC.region ?_
        refine SatL.pu (RunV.move rfl) rfl ?_
        refine SatL.pu (RunV.move rfl) rfl ?_
        refine SatL.pu (RunV.eql rfl rfl) rfl ?_
        refine SatL.nil (SatE.thenC ?_)
        refine SatC.cond rfl (fun h2 => ?_) (fun h2 => ?_)
        · (try simp only [cx, ne_eq] at h2)
          try (exfalso; (first | omega | exact h2 trivial | contradiction | (first | omega | (simp at h2; done))); done)
          all_goals
          refine SatC.seq ?_
          rw [if_pos (by omega)] at hR1
          subst hR1
          refine SatC.region ?_
          refine SatL.pu (RunV.assign rfl) rfl ?_
          refine SatL.nil (SatE.thenC ?_)
          refine SatC.ret (SatE.then_ret (SatE.blk_ret (SatE.then_ret (SatE.then_ret (SatE.blk_ret (SatE.then_ret ?_))))))
          refine SatE.ret1 rfl rfl ?_
          exact ⟨B1, rfl, hsl1, hS.sel (by repeat constructor)⟩
        · (try simp only [cx, ne_eq] at h2)
          try (exfalso; (first | omega | exact h2 trivial | contradiction | (first | omega | (simp at h2; done))); done)
          all_goals
          refine SatC.skip (SatE.thenC ?_)
          refine SatC.seq ?_
          refine SatC.seq ?_
          rw [if_neg (by omega)] at hR1
          refine SatC.region ?_
          refine SatL.pu (RunV.move rfl) rfl ?_
          refine SatL.pu (RunV.move rfl) rfl ?_
          refine SatL.pu (RunV.sub rfl rfl (by first | exact wrapI64 (by omega) | rfl)) rfl ?_
          refine SatL.pu (RunV.lss rfl rfl) rfl ?_
          refine SatL.nil (SatE.thenC ?_)
          refine SatC.cond rfl (fun h3 => ?_) (fun h3 => ?_)
          · (try simp only [cx, ne_eq] at h3)
            try (exfalso; (first | omega | exact h3 trivial | contradiction | (first | omega | (simp at h3; done))); done)
            all_goals
            refine SatC.seq ?_
            rw [if_pos (by omega)] at hR1
            subst hR1
            refine SatC.region ?_
            refine SatL.pu (RunV.assign rfl) rfl ?_
            refine SatL.nil (SatE.thenC ?_)
            refine SatC.ret (SatE.then_ret (SatE.blk_ret (SatE.then_ret (SatE.then_ret (SatE.blk_ret (SatE.then_ret ?_))))))
            refine SatE.ret1 rfl rfl ?_
            exact ⟨B1, rfl, hsl1, hS.sel (by repeat constructor)⟩
          · (try simp only [cx, ne_eq] at h3)
            try (exfalso; (first | omega | exact h3 trivial | contradiction | (first | omega | (simp at h3; done))); done)
            all_goals
            refine SatC.skip (SatE.thenC ?_)
            refine SatC.seq ?_
            rw [if_neg (by omega)] at hR1
            obtain ⟨B2, W2, hsl2, hrun2, hq2⟩ := hsw.swap _ B1 d1 i2 (i2 - 1) (i2 : Int) ((i2 : Int) - 1) rfl (by omega) (by omega) (by omega) hn1 hsl1 (hS.ownT (A := B1) (by repeat constructor))
            obtain ⟨d2, hd2⟩ : ∃ d2, swp d1 i2 (i2 - 1) = d2 := ⟨_, rfl⟩
            have hn2' : d2.size = n := by rw [← hd2, swp_size]; exact hn1
            rw [hd2] at hsl2 hR1
            obtain ⟨E1, hE1⟩ : ∃ E1, fixDown firstI a i2 d2 = E1 := ⟨_, rfl⟩
            rw [hE1] at hR1
            obtain ⟨E2, hE2⟩ : ∃ E2, fixUp firstI b i2 E1 = E2 := ⟨_, rfl⟩
            rw [hE2] at hR1
            refine SatC.region ?_
            first | refine SatL.pu (RunV.fieldAddrL rfl rfl rfl) rfl ?_ | refine SatL.pu (RunV.fieldAddr rfl rfl rfl) rfl ?_
            refine SatL.pu (RunV.load1 hS rfl rfl (by repeat constructor) rfl) rfl ?_
            refine SatL.pu (RunV.move rfl) rfl ?_
            refine SatL.pu (RunV.move rfl) rfl ?_
            refine SatL.pu (RunV.sub rfl rfl (by first | exact wrapI64 (by omega) | rfl)) rfl ?_
            refine SatL.op rfl (OpW.externF (fs := []) (cap := sc) rfl rfl rfl hrun2 ?_)
            replace hS := hS.callT (A := B1) (by repeat constructor) hq2
            refine SatL.nil (SatE.thenC ?_)
            refine SatC.merge (G := Array Itn × List (Nat × Obj)) (V := fun ⟨d4, B4⟩ => []) (Cn := [(1, _), (2, _), (3, _), (6, _), (7, _), (8, _)]) (I := fun ⟨d4, B4⟩ w' => d4 = E1 ∧ d4.size = n ∧ Rw v d4 B4 ∧ St w X ((b3, C 107 [fnV lf lc, fnV sf sc]) :: (bl, C 22 [v]) :: B4) w') (by repeat constructor) ?_ ?_
            · skip
              refine SatC.seq ?_
              refine SatC.weak (e' := [(1, _), (2, _), (3, _), (6, _), (7, _), (8, _)]) (by repeat constructor) ?_
              refine SatC.region ?_
              refine SatL.pu (RunV.move rfl) rfl ?_
              refine SatL.pu (RunV.move rfl) rfl ?_
              refine SatL.pu (RunV.sub rfl rfl (by first | exact wrapI64 (by omega) | rfl)) rfl ?_
              refine SatL.pu (RunV.geq rfl rfl) rfl ?_
              refine SatL.nil (SatE.thenC ?_)
              refine SatC.cond rfl (fun h4 => ?_) (fun h4 => ?_)
              · (try simp only [cx, ne_eq] at h4)
                try (exfalso; (first | omega | exact h4 trivial | contradiction | (first | omega | (simp at h4; done))); done)
                all_goals
                refine SatC.seq ?_
                unfold fixDown at hE1
                rw [if_pos (by omega)] at hE1
                refine SatC.region ?_
                refine SatL.pu (RunV.move rfl) rfl ?_
                refine SatL.pu (RunV.sub (r := ((i2 - 1 : Nat) : Int)) rfl rfl (by rw [wrapI64 (by omega)]; omega)) rfl ?_
                refine SatL.pu (RunV.assign rfl) rfl ?_
                refine SatL.nil (SatE.thenC ?_)
                refine SatC.block ?_
                refine SatC.loopK (G := Nat × Array Itn × List (Nat × Obj)) (V := fun ⟨j, d3, B3⟩ => [(9, .int .i64 (j : Int))]) (Cn := [(1, _), (2, _), (3, _), (6, _), (7, _), (8, _)]) (I := fun ⟨j, d3, B3⟩ w' => j < n ∧ shiftDown firstI j d3 = E1 ∧ d3.size = n ∧ Rw v d3 B3 ∧ St w X ((b3, C 107 [fnV lf lc, fnV sf sc]) :: (bl, C 22 [v]) :: B3) w') (μ := fun ⟨j, d3, B3⟩ => j) (i2 - 1, d2, B2) ?_ (by repeat constructor) ?_
                · exact ⟨by omega, hE1, hn2', hsl2, hS.sel (by repeat constructor)⟩
                clear hS
                rintro ⟨j, d3, B3⟩ w65 ⟨hj, hE3, hn3, hsl3, hS⟩
                refine SatC.weak (e' := [(1, _), (2, _), (3, _), (6, _), (7, _), (8, _), (9, _)]) (by repeat constructor) ?_
                refine SatC.seq ?_
                refine SatC.seq ?_
                refine SatC.region ?_
                refine SatL.pu (RunV.move rfl) rfl ?_
                refine SatL.pu (RunV.geq rfl rfl) rfl ?_
                refine SatL.nil (SatE.thenC ?_)
                refine SatC.cond rfl (fun h5 => ?_) (fun h5 => ?_)
                · (try simp only [cx, ne_eq] at h5)
                  try (exfalso; (first | omega | exact h5 trivial | contradiction | (first | omega | (simp at h5; done))); done)
                  all_goals
                  refine SatC.skip (SatE.thenC ?_)
                  refine SatC.seq ?_
                  refine SatC.block ?_
                  refine SatC.seq ?_
                  refine SatC.seq ?_
                  refine SatC.region ?_
                  first | refine SatL.pu (RunV.fieldAddrL rfl rfl rfl) rfl ?_ | refine SatL.pu (RunV.fieldAddr rfl rfl rfl) rfl ?_
                  refine SatL.pu (RunV.load1 hS rfl rfl (by repeat constructor) rfl) rfl ?_
                  refine SatL.pu (RunV.move rfl) rfl ?_
                  refine SatL.pu (RunV.move rfl) rfl ?_
                  refine SatL.pu (RunV.sub rfl rfl (by first | exact wrapI64 (by omega) | rfl)) rfl ?_
                  refine SatL.op rfl (OpW.enterF (fs := []) (cap := lc) rfl rfl rfl (hsw.el) (hsw.less _ B3 d3 j (j - 1) _ ((j : Int) - 1) rfl (by omega) (by omega) (by omega) hn3 hsl3 (hS.ownT (A := (bl, C 22 [v]) :: B3) (by repeat constructor))) ?_)
                  rintro r66 w66 ⟨rfl, h⟩
                  replace hS := St.callN hS h
                  refine SatL.pu (RunV.not rfl) rfl ?_
                  refine SatL.nil (SatE.thenC ?_)
                  refine SatC.cond rfl (fun h6 => ?_) (fun h6 => ?_)
                  · (try simp only [cx, ne_eq] at h6)
                    try (exfalso; (first | omega | exact h6 trivial | contradiction | (first | omega | (simp at h6; done))); done)
                    all_goals
                    refine SatC.exit (SatE.then_exit (SatE.blk_other rfl (SatE.then_exit (SatE.then_exit (SatE.blk_exit ?_)))))
                    refine SatE.met ((d3, B3)) ?_ (by repeat constructor)
                    exact ⟨by rw [← hE3]; exact (shd_stop (.inr (by assumption))).symm, hn3, hsl3, hS⟩
                  · (try simp only [cx, ne_eq] at h6)
                    try (exfalso; (first | omega | exact h6 trivial | contradiction | (first | omega | (simp at h6; done))); done)
                    all_goals
                    refine SatC.skip (SatE.thenC ?_)
                    obtain ⟨B4, W4, hsl4, hrun4, hq4⟩ := hsw.swap _ B3 d3 j (j - 1) (j : Int) ((j : Int) - 1) rfl (by omega) (by omega) (by omega) hn3 hsl3 (hS.ownT (A := B3) (by repeat constructor))
                    refine SatC.region ?_
                    first | refine SatL.pu (RunV.fieldAddrL rfl rfl rfl) rfl ?_ | refine SatL.pu (RunV.fieldAddr rfl rfl rfl) rfl ?_
                    refine SatL.pu (RunV.load1 hS rfl rfl (by repeat constructor) rfl) rfl ?_
                    refine SatL.pu (RunV.move rfl) rfl ?_
                    refine SatL.pu (RunV.move rfl) rfl ?_
                    refine SatL.pu (RunV.sub rfl rfl (by first | exact wrapI64 (by omega) | rfl)) rfl ?_
                    refine SatL.op rfl (OpW.externF (fs := []) (cap := sc) rfl rfl rfl hrun4 ?_)
                    replace hS := hS.callT (A := B3) (by repeat constructor) hq4
                    refine SatL.nil (SatE.blk_normal (SatE.thenC ?_))
                    refine SatC.weak (e' := [(1, _), (2, _), (3, _), (6, _), (7, _), (8, _), (9, _)]) (by repeat constructor) ?_
                    refine SatC.region ?_
                    refine SatL.pu (RunV.move rfl) rfl ?_
                    refine SatL.pu (RunV.sub (r := ((j - 1 : Nat) : Int)) rfl rfl (by rw [wrapI64 (by omega)]; omega)) rfl ?_
                    refine SatL.pu (RunV.assign rfl) rfl ?_
                    refine SatL.nil ?_
                    refine SatE.again ((j - 1, swp d3 j (j - 1), B4)) ?_ (by first | omega | (dsimp only; omega)) (by repeat constructor)
                    exact ⟨by omega, by rw [← hE3]; exact shd_go (by omega) (by assumption), by rw [swp_size]; exact hn3, hsl4, hS.sel (by repeat constructor)⟩
                · (try simp only [cx, ne_eq] at h5)
                  try (exfalso; (first | omega | exact h5 trivial | contradiction | (first | omega | (simp at h5; done))); done)
                  all_goals
                  refine SatC.exit (SatE.then_exit (SatE.then_exit (SatE.blk_exit ?_)))
                  refine SatE.met ((d3, B3)) ?_ (by repeat constructor)
                  exact ⟨by rw [← hE3]; exact (shd_stop (.inl (by omega))).symm, hn3, hsl3, hS⟩
              · (try simp only [cx, ne_eq] at h4)
                try (exfalso; (first | omega | exact h4 trivial | contradiction | (first | omega | (simp at h4; done))); done)
                all_goals
                refine SatC.skip ?_
                refine SatE.met ((d2, B2)) ?_ (by repeat constructor)
                unfold fixDown at hE1; rw [if_neg (by omega)] at hE1; exact ⟨hE1, hn2', hsl2, hS.sel (by repeat constructor)⟩
            · clear hS
              rintro ⟨d4, B4⟩ w125 ⟨hdE, hn4, hsl4, hS⟩
              subst hdE
              refine SatC.weak (e' := [(1, _), (2, _), (3, _), (6, _), (7, _), (8, _)]) (by repeat constructor) ?_
              refine SatC.seq ?_
              refine SatC.region ?_
              refine SatL.pu (RunV.move rfl) rfl ?_
              refine SatL.pu (RunV.move rfl) rfl ?_
              refine SatL.pu (RunV.sub rfl rfl (by first | exact wrapI64 (by omega) | rfl)) rfl ?_
              refine SatL.pu (RunV.geq rfl rfl) rfl ?_
              refine SatL.nil (SatE.thenC ?_)
              refine SatC.cond rfl (fun h4 => ?_) (fun h4 => ?_)
              · (try simp only [cx, ne_eq] at h4)
                try (exfalso; (first | omega | exact h4 trivial | contradiction | (first | omega | (simp at h4; done))); done)
                all_goals
                refine SatC.seq ?_
                unfold fixUp at hE2
                rw [if_pos (by omega)] at hE2
                refine SatC.region ?_
                refine SatL.pu (RunV.move rfl) rfl ?_
                refine SatL.pu (RunV.add rfl rfl (by first | exact wrapI64 (by omega) | rfl)) rfl ?_
                refine SatL.pu (RunV.assign rfl) rfl ?_
                refine SatL.nil (SatE.thenC ?_)
                refine SatC.block ?_
                refine SatC.loopK (G := Nat × Array Itn × List (Nat × Obj)) (V := fun ⟨j, d5, B5⟩ => [(10, .int .i64 (j : Int))]) (Cn := [(1, _), (2, _), (3, _), (6, _), (7, _), (8, _)]) (I := fun ⟨j, d5, B5⟩ w' => 0 < j ∧ j ≤ b ∧ shiftUp firstI b j d5 = E2 ∧ d5.size = n ∧ Rw v d5 B5 ∧ St w X ((b3, C 107 [fnV lf lc, fnV sf sc]) :: (bl, C 22 [v]) :: B5) w') (μ := fun ⟨j, d5, B5⟩ => b - j) (i2 + 1, d4, B4) ?_ (by repeat constructor) ?_
                · exact ⟨by omega, by omega, hE2, hn4, hsl4, hS.sel (by repeat constructor)⟩
                clear hS
                rintro ⟨j, d5, B5⟩ w126 ⟨hj0, hj, hE3, hn3, hsl3, hS⟩
                refine SatC.weak (e' := [(1, _), (2, _), (3, _), (6, _), (7, _), (8, _), (10, _)]) (by repeat constructor) ?_
                refine SatC.seq ?_
                refine SatC.seq ?_
                refine SatC.region ?_
                refine SatL.pu (RunV.move rfl) rfl ?_
                refine SatL.pu (RunV.move rfl) rfl ?_
                refine SatL.pu (RunV.lss rfl rfl) rfl ?_
                refine SatL.nil (SatE.thenC ?_)
                refine SatC.cond rfl (fun h5 => ?_) (fun h5 => ?_)
                · (try simp only [cx, ne_eq] at h5)
                  try (exfalso; (first | omega | exact h5 trivial | contradiction | (first | omega | (simp at h5; done))); done)
                  all_goals
                  refine SatC.skip (SatE.thenC ?_)
                  refine SatC.seq ?_
                  refine SatC.block ?_
                  refine SatC.seq ?_
                  refine SatC.seq ?_
                  refine SatC.region ?_
                  first | refine SatL.pu (RunV.fieldAddrL rfl rfl rfl) rfl ?_ | refine SatL.pu (RunV.fieldAddr rfl rfl rfl) rfl ?_
                  refine SatL.pu (RunV.load1 hS rfl rfl (by repeat constructor) rfl) rfl ?_
                  refine SatL.pu (RunV.move rfl) rfl ?_
                  refine SatL.pu (RunV.move rfl) rfl ?_
                  refine SatL.pu (RunV.sub rfl rfl (by first | exact wrapI64 (by omega) | rfl)) rfl ?_
                  refine SatL.op rfl (OpW.enterF (fs := []) (cap := lc) rfl rfl rfl (hsw.el) (hsw.less _ B5 d5 j (j - 1) _ ((j : Int) - 1) rfl (by omega) (by omega) (by omega) hn3 hsl3 (hS.ownT (A := (bl, C 22 [v]) :: B5) (by repeat constructor))) ?_)
                  rintro r127 w127 ⟨rfl, h⟩
                  replace hS := St.callN hS h
                  refine SatL.pu (RunV.not rfl) rfl ?_
                  refine SatL.nil (SatE.thenC ?_)
                  refine SatC.cond rfl (fun h6 => ?_) (fun h6 => ?_)
                  · (try simp only [cx, ne_eq] at h6)
                    try (exfalso; (first | omega | exact h6 trivial | contradiction | (first | omega | (simp at h6; done))); done)
                    all_goals
                    refine SatC.exit (SatE.then_exit (SatE.blk_other rfl (SatE.then_exit (SatE.then_exit (SatE.blk_exit (SatE.blk_normal ?_))))))
                    refine SatE.met ((i2, d5, B5)) ?_ (by repeat constructor)
                    exact ⟨hi3, hi4, by omega, by rw [show d5 = E2 by rw [← hE3]; exact (shu_stop (.inr (by assumption))).symm]; exact hR1, hn3, hsl3, hS⟩
                  · (try simp only [cx, ne_eq] at h6)
                    try (exfalso; (first | omega | exact h6 trivial | contradiction | (first | omega | (simp at h6; done))); done)
                    all_goals
                    refine SatC.skip (SatE.thenC ?_)
                    obtain ⟨B6, W6, hsl6, hrun6, hq6⟩ := hsw.swap _ B5 d5 j (j - 1) (j : Int) ((j : Int) - 1) rfl (by omega) (by omega) (by omega) hn3 hsl3 (hS.ownT (A := B5) (by repeat constructor))
                    refine SatC.region ?_
                    first | refine SatL.pu (RunV.fieldAddrL rfl rfl rfl) rfl ?_ | refine SatL.pu (RunV.fieldAddr rfl rfl rfl) rfl ?_
                    refine SatL.pu (RunV.load1 hS rfl rfl (by repeat constructor) rfl) rfl ?_
                    refine SatL.pu (RunV.move rfl) rfl ?_
                    refine SatL.pu (RunV.move rfl) rfl ?_
                    refine SatL.pu (RunV.sub rfl rfl (by first | exact wrapI64 (by omega) | rfl)) rfl ?_
                    refine SatL.op rfl (OpW.externF (fs := []) (cap := sc) rfl rfl rfl hrun6 ?_)
                    replace hS := hS.callT (A := B5) (by repeat constructor) hq6
                    refine SatL.nil (SatE.blk_normal (SatE.thenC ?_))
                    refine SatC.weak (e' := [(1, _), (2, _), (3, _), (6, _), (7, _), (8, _), (10, _)]) (by repeat constructor) ?_
                    refine SatC.region ?_
                    refine SatL.pu (RunV.move rfl) rfl ?_
                    refine SatL.pu (RunV.add rfl rfl (by first | exact wrapI64 (by omega) | rfl)) rfl ?_
                    refine SatL.pu (RunV.assign rfl) rfl ?_
                    refine SatL.nil ?_
                    refine SatE.again ((j + 1, swp d5 j (j - 1), B6)) ?_ (by first | omega | (dsimp only; omega)) (by repeat constructor)
                    exact ⟨by omega, by omega, by rw [← hE3]; exact shu_go (by omega) (by assumption), by rw [swp_size]; exact hn3, hsl6, hS.sel (by repeat constructor)⟩
                · (try simp only [cx, ne_eq] at h5)
                  try (exfalso; (first | omega | exact h5 trivial | contradiction | (first | omega | (simp at h5; done))); done)
                  all_goals
                  refine SatC.exit (SatE.then_exit (SatE.then_exit (SatE.blk_exit (SatE.blk_normal ?_))))
                  refine SatE.met ((i2, d5, B5)) ?_ (by repeat constructor)
                  exact ⟨hi3, hi4, by omega, by rw [show d5 = E2 by rw [← hE3]; exact (shu_stop (.inl (by omega))).symm]; exact hR1, hn3, hsl3, hS⟩
              · (try simp only [cx, ne_eq] at h4)
                try (exfalso; (first | omega | exact h4 trivial | contradiction | (first | omega | (simp at h4; done))); done)
                all_goals
                refine SatC.skip (SatE.blk_normal ?_)
                refine SatE.met ((i2, d4, B4)) ?_ (by repeat constructor)
                unfold fixUp at hE2; rw [if_neg (by omega)] at hE2; exact ⟨hi3, hi4, by omega, by rw [hE2]; exact hR1, hn4, hsl4, hS.sel (by repeat constructor)⟩
    · clear hS
      rintro ⟨i6, d6, B6⟩ w63 ⟨hi5, hi6, hk6, hR6, hn6, hsl6, hS⟩
      refine SatC.weak (e' := [(1, _), (2, _), (3, _), (6, _), (7, _), (8, _)]) (by repeat constructor) ?_
      refine SatC.region ?_
      refine SatL.pu (RunV.move rfl) rfl ?_
      refine SatL.pu (RunV.add rfl rfl (by first | exact wrapI64 (by omega) | rfl)) rfl ?_
      refine SatL.pu (RunV.assign rfl) rfl ?_
      refine SatL.nil ?_
      refine SatE.again ((x + 1, k - 1, i6, d6, B6)) ?_ (by first | omega | (dsimp only; omega)) (by repeat constructor)
      exact ⟨by omega, by omega, by omega, by omega, hR6, hn6, hsl6, hS⟩
  · (try simp only [cx, ne_eq] at h1)
    try (exfalso; (first | omega | exact h1 trivial | contradiction | (first | omega | (simp at h1; done))); done)
    all_goals
    refine SatC.exit (SatE.then_exit (SatE.then_exit (SatE.blk_exit (SatE.thenC ?_))))
    refine SatC.seq ?_
    refine SatC.region ?_
    refine SatL.pu (RunV.assign rfl) rfl ?_
    refine SatL.nil (SatE.thenC ?_)
    refine SatC.ret ?_
    refine SatE.ret1 rfl rfl ?_
    obtain rfl : k = 0 := by omega
    rw [partialIns] at hR1
    subst hR1
    exact ⟨B1, rfl, hsl1, hS.sel (by repeat constructor)⟩
end
end Go.Proofs.Ytogohendjjgbiaa
