/- sort.insertionSort_func over rows of one's own. -/
import Derived.Test.YtogohendjjgbiaaIc
import Derived.Sort.Defs
set_option linter.unusedSimpArgs false
set_option linter.unusedVariables false
set_option maxRecDepth 100000
set_option maxHeartbeats 4000000
namespace Go.Proofs.Ytogohendjjgbiaa
open Go.RowKit Go.Sort
instance : Inhabited Itn := ⟨⟨[], [], false, 0, 0⟩⟩
/-- The rows of an array. -/
def Rw (v : Value) (d : Array Itn) (B : List (Nat × Obj)) : Prop := Sl 28 5 v (d.toList.map ic) B
/-- What is asked of the two functions that the sort is handed. -/
structure SW (lf sf : Nat) (lc sc : List Value) (bl : Nat) (v : Value) (n : Nat) : Prop where
  el : enters Try.prog lf = true
  less : ∀ (W : World) (B : List (Nat × Obj)) (d : Array Itn) (i j : Nat) (i' j' : Int), i' = i → j' = j → i < n → j < n → d.size = n → Rw v d B → Own W ((bl, C 22 [v]) :: B) →
    Ret Try.prog lf ([Value.int .i64 i', Value.int .i64 j'] ++ lc).toArray W fun u w' => u = .bool (firstI d[i]! d[j]!) ∧ St W [] [] w'
  swap : ∀ (W : World) (B : List (Nat × Obj)) (d : Array Itn) (i j : Nat) (i' j' : Int), i' = i → j' = j → i < n → j < n → d.size = n → Rw v d B → Own W B →
    ∃ B2 W2, Rw v (swp d i j) B2 ∧ (callFunc sf ([] ++ [Value.int .i64 i', Value.int .i64 j'] ++ sc).toArray).run Try.prog W = .ok (.value (.tuple #[])) W2 ∧ St W (B.map Prod.fst) B2 W2
abbrev fnV (f : Nat) (c : List Value) : Value := .func (.func f) #[] c.toArray
theorem swp_size (d : Array Itn) (i j : Nat) : (swp d i j).size = d.size := by simp [swp]
section
variable {α : Type} [Inhabited α] (lt : α → α → Bool)
theorem insI_go (a j : Nat) (d : Array α) (hj : a < j) (hl : lt d[j]! d[j - 1]! = true) : insInner lt a (j - 1) (swp d j (j - 1)) = insInner lt a j d := by
  obtain ⟨m, rfl⟩ : ∃ m, j = m + 1 := ⟨j - 1, by omega⟩
  rw [Nat.add_sub_cancel] at hl ⊢
  rw [insInner, if_pos (by simp [hl, hj])]
theorem insI_stop (a j : Nat) (d : Array α) (h : j ≤ a ∨ lt d[j]! d[j - 1]! = false) : insInner lt a j d = d := by
  cases j with
  | zero => rfl
  | succ m =>
    rw [Nat.add_sub_cancel] at h
    rw [insInner, if_neg]
    rcases h with h | h <;> simp [h]
    omega
end
theorem ins_any {bl lf sf n : Nat} {lc sc : List Value} {v : Value} {B : List (Nat × Obj)} {d : Array Itn} {w : World} (a b : Nat) (hsw : SW lf sf lc sc bl v n) (hsl : Rw v d B) (hn : d.size = n) (hb : b ≤ n) (hn2 : n ≤ 1000) (hab : a ≤ 1000) (hown : Own w ((bl, C 22 [v]) :: B)) :
    Ret Try.prog 84 #[.agg #[fnV lf lc, fnV sf sc], .int .i64 (a : Int), .int .i64 (b : Int)] w fun u w' => ∃ B', Rw v (insertionSort firstI d a b) B' ∧ St w (((bl, C 22 [v]) :: B).map Prod.fst) ((bl, C 22 [v]) :: B') w' := by
  have hS := St.init hown
  generalize hX : ((bl, C 22 [v]) :: B).map Prod.fst = X at hS ⊢
  unfold insertionSort
  generalize hR : insOuter firstI a b (a + 1) d = R
  refine Ret.enter Try.func84 Try.ntmps84 rfl rfl ?_
  simp only [argEnv, Nat.reduceAdd]
  refine SatC.seq ?_
  refine SatC.region ?_
  refine SatL.op rfl (OpW.box hS rfl rfl (by repeat constructor) ?_)
  clear hS
  intro b3 w1 _ hS
  refine SatL.nil (SatE.thenC ?_)
  refine SatC.seq ?_
  refine SatC.region ?_
  refine SatL.pu (RunV.move rfl) rfl ?_
  refine SatL.pu (RunV.add rfl rfl (by first | exact wrapI64 (by omega) | rfl)) rfl ?_
  refine SatL.pu (RunV.assign rfl) rfl ?_
  refine SatL.nil (SatE.thenC ?_)
  refine SatC.block ?_
  refine SatC.loopK (G := Nat × Array Itn × List (Nat × Obj)) (V := fun ⟨i, d1, B1⟩ => [(6, .int .i64 (i : Int))]) (Cn := [(1, _), (2, _), (3, _)]) (I := fun ⟨i, d1, B1⟩ w' => i ≤ 1002 ∧ a + 1 ≤ i ∧ insOuter firstI a b i d1 = R ∧ d1.size = n ∧ Rw v d1 B1 ∧ St w X ((b3, C 107 [fnV lf lc, fnV sf sc]) :: (bl, C 22 [v]) :: B1) w') (μ := fun ⟨i, d1, B1⟩ => b - i) (a + 1, d, B) ?_ (by repeat constructor) ?_
  · exact ⟨by omega, by omega, hR, hn, hsl, hS⟩
  clear hS
  rintro ⟨i, d1, B1⟩ w2 ⟨hi, hai, hR1, hn1, hsl1, hS⟩
  refine SatC.weak (e' := [(1, _), (2, _), (3, _), (6, _)]) (by repeat constructor) ?_
  refine SatC.seq ?_
  refine SatC.seq ?_
  refine SatC.region ?_
  refine SatL.pu (RunV.move rfl) rfl ?_
  refine SatL.pu (RunV.move rfl) rfl ?_
  refine SatL.pu (RunV.lss rfl rfl) rfl ?_
  refine SatL.nil (SatE.thenC ?_)
  refine SatC.cond rfl (fun h1 => ?_) (fun h1 => ?_)
  · (try simp only [cx, ne_eq] at h1)
    try (exfalso; (first | omega | exact h1 trivial | contradiction | (first | omega | (simp at h1; done))); done)
    all_goals
    refine SatC.skip (SatE.thenC ?_)
    refine SatC.seq ?_
    refine SatC.block ?_
    refine SatC.seq ?_
    have hib : i < b := by omega
    rw [insOuter, if_pos hib] at hR1
    generalize hR2 : insInner firstI a i d1 = R2 at hR1
    refine SatC.region ?_
    refine SatL.pu (RunV.move rfl) rfl ?_
    refine SatL.pu (RunV.assign rfl) rfl ?_
    refine SatL.nil (SatE.thenC ?_)
    refine SatC.block ?_
    refine SatC.loopK (G := Nat × Array Itn × List (Nat × Obj)) (V := fun ⟨j, d2, B2⟩ => [(7, .int .i64 (j : Int))]) (Cn := [(1, _), (2, _), (3, _), (6, _)]) (I := fun ⟨j, d2, B2⟩ w' => j ≤ i ∧ insInner firstI a j d2 = R2 ∧ d2.size = n ∧ Rw v d2 B2 ∧ St w X ((b3, C 107 [fnV lf lc, fnV sf sc]) :: (bl, C 22 [v]) :: B2) w') (μ := fun ⟨j, d2, B2⟩ => j) (i, d1, B1) ?_ (by repeat constructor) ?_
    · exact ⟨by omega, hR2, hn1, hsl1, hS⟩
    clear hS
    rintro ⟨j, d2, B2⟩ w3 ⟨hj, hR3, hn3, hsl2, hS⟩
    refine SatC.weak (e' := [(1, _), (2, _), (3, _), (6, _), (7, _)]) (by repeat constructor) ?_
    refine SatC.seq ?_
    refine SatC.seq ?_
    refine SatC.region ?_
    refine SatL.pu (RunV.move rfl) rfl ?_
    refine SatL.pu (RunV.move rfl) rfl ?_
    refine SatL.pu (RunV.gtr rfl rfl) rfl ?_
    refine SatL.pu (RunV.move rfl) rfl ?_
    refine SatL.guard rfl rfl rfl (fun h2 => ?_) (fun h2 => ?_)
    · (try simp only [cx, ne_eq] at h2)
      try (exfalso; (first | omega | exact h2 trivial | contradiction | (first | omega | (simp at h2; done))); done)
      all_goals
      first | refine SatL.pu (RunV.fieldAddrL rfl rfl rfl) rfl ?_ | refine SatL.pu (RunV.fieldAddr rfl rfl rfl) rfl ?_
      refine SatL.guard_y rfl rfl ?_
      refine SatL.pu (RunV.load1 hS rfl rfl (by repeat constructor) rfl) rfl ?_
      refine SatL.guard_y rfl rfl ?_
      refine SatL.pu (RunV.move rfl) rfl ?_
      refine SatL.guard_y rfl rfl ?_
      refine SatL.pu (RunV.move rfl) rfl ?_
      refine SatL.guard_y rfl rfl ?_
      refine SatL.pu (RunV.sub rfl rfl (by first | exact wrapI64 (by omega) | rfl)) rfl ?_
      refine SatL.guard_y rfl rfl ?_
      refine SatL.op rfl (OpW.enterF (fs := []) (cap := lc) rfl rfl rfl (hsw.el) (hsw.less _ B2 d2 j (j - 1) _ _ rfl (by omega) (by omega) (by omega) hn3 hsl2 (hS.ownT (A := (bl, C 22 [v]) :: B2) (by repeat constructor))) ?_)
      rintro r4 w4 ⟨rfl, h⟩
      replace hS := St.callN hS h
      refine SatL.pu (RunV.pick_t rfl rfl) rfl ?_
      refine SatL.nil (SatE.thenC ?_)
      refine SatC.cond rfl (fun h3 => ?_) (fun h3 => ?_)
      · (try simp only [cx, ne_eq] at h3)
        try (exfalso; (first | omega | exact h3 trivial | contradiction | (first | omega | (simp at h3; done))); done)
        all_goals
        refine SatC.skip (SatE.thenC ?_)
        refine SatC.seq ?_
        refine SatC.block ?_
        obtain ⟨B3, W3, hsl3, hrun, hq⟩ := hsw.swap _ B2 d2 j (j - 1) (j : Int) ((j : Int) - 1) rfl (by omega) (by omega) (by omega) hn3 hsl2 (hS.ownT (A := B2) (by repeat constructor))
        refine SatC.region ?_
        first | refine SatL.pu (RunV.fieldAddrL rfl rfl rfl) rfl ?_ | refine SatL.pu (RunV.fieldAddr rfl rfl rfl) rfl ?_
        refine SatL.pu (RunV.load1 hS rfl rfl (by repeat constructor) rfl) rfl ?_
        refine SatL.pu (RunV.move rfl) rfl ?_
        refine SatL.pu (RunV.move rfl) rfl ?_
        refine SatL.pu (RunV.sub rfl rfl (by first | exact wrapI64 (by omega) | rfl)) rfl ?_
        refine SatL.op rfl (OpW.externF (fs := []) (cap := sc) rfl rfl rfl hrun ?_)
        replace hS := hS.callR (A := B2) (by repeat constructor) hq
        refine SatL.nil (SatE.blk_normal (SatE.thenC ?_))
        refine SatC.weak (e' := [(1, _), (2, _), (3, _), (6, _), (7, _)]) (by repeat constructor) ?_
        refine SatC.region ?_
        refine SatL.pu (RunV.move rfl) rfl ?_
        refine SatL.pu (RunV.sub (r := ((j - 1 : Nat) : Int)) rfl rfl (by rw [wrapI64 (by omega)]; omega)) rfl ?_
        refine SatL.pu (RunV.assign rfl) rfl ?_
        refine SatL.nil ?_
        refine SatE.again ((j - 1, swp d2 j (j - 1), B3)) ?_ (by first | omega | (dsimp only; omega)) (by repeat constructor)
        exact ⟨by omega, by rw [← hR3]; exact insI_go firstI a j d2 (by omega) h3, by rw [swp_size]; exact hn3, hsl3, hS.sel (by repeat constructor)⟩
      · (try simp only [cx, ne_eq] at h3)
        try (exfalso; (first | omega | exact h3 trivial | contradiction | (first | omega | (simp at h3; done))); done)
        all_goals
        refine SatC.exit (SatE.then_exit (SatE.then_exit (SatE.blk_exit (SatE.blk_normal (SatE.thenC ?_)))))
        refine SatC.weak (e' := [(1, _), (2, _), (3, _), (6, _)]) (by repeat constructor) ?_
        refine SatC.region ?_
        refine SatL.pu (RunV.move rfl) rfl ?_
        refine SatL.pu (RunV.add rfl rfl (by first | exact wrapI64 (by omega) | rfl)) rfl ?_
        refine SatL.pu (RunV.assign rfl) rfl ?_
        refine SatL.nil ?_
        refine SatE.again ((i + 1, d2, B2)) ?_ (by first | omega | (dsimp only; omega)) (by repeat constructor)
        exact ⟨by omega, by omega, by rw [← hR1, ← hR3, insI_stop firstI a j d2 (.inr (by simpa using h3))], hn3, hsl2, hS.sel (by repeat constructor)⟩
    · (try simp only [cx, ne_eq] at h2)
      try (exfalso; (first | omega | exact h2 trivial | contradiction | (first | omega | (simp at h2; done))); done)
      all_goals
      refine SatL.guard_n rfl rfl rfl rfl ?_
      refine SatL.guard_n rfl rfl rfl rfl ?_
      refine SatL.guard_n rfl rfl rfl rfl ?_
      refine SatL.guard_n rfl rfl rfl rfl ?_
      refine SatL.guard_n rfl rfl rfl rfl ?_
      refine SatL.pu (RunV.pick_f rfl rfl) rfl ?_
      refine SatL.nil (SatE.thenC ?_)
      refine SatC.cond_f rfl ?_
      refine SatC.exit (SatE.then_exit (SatE.then_exit (SatE.blk_exit (SatE.blk_normal (SatE.thenC ?_)))))
      refine SatC.weak (e' := [(1, _), (2, _), (3, _), (6, _)]) (by repeat constructor) ?_
      refine SatC.region ?_
      refine SatL.pu (RunV.move rfl) rfl ?_
      refine SatL.pu (RunV.add rfl rfl (by first | exact wrapI64 (by omega) | rfl)) rfl ?_
      refine SatL.pu (RunV.assign rfl) rfl ?_
      refine SatL.nil ?_
      refine SatE.again ((i + 1, d2, B2)) ?_ (by first | omega | (dsimp only; omega)) (by repeat constructor)
      exact ⟨by omega, by omega, by rw [← hR1, ← hR3, insI_stop firstI a j d2 (.inl (by omega))], hn3, hsl2, hS.sel (by repeat constructor)⟩
  · (try simp only [cx, ne_eq] at h1)
    try (exfalso; (first | omega | exact h1 trivial | contradiction | (first | omega | (simp at h1; done))); done)
    all_goals
    refine SatC.exit (SatE.then_exit (SatE.then_exit (SatE.blk_exit ?_)))
    refine SatE.fin0 rfl ?_
    exact ⟨B1, by rw [← hR1, insOuter, if_neg (by omega)]; exact hsl1, hS.sel (by repeat constructor)⟩
end Go.Proofs.Ytogohendjjgbiaa
