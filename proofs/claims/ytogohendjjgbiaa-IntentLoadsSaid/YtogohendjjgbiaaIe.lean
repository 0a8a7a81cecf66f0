/- The sort's small functions over own rows: siftDown, heapSort, reverseRange, order2, median. -/
import Derived.Test.YtogohendjjgbiaaId
import Derived.Sort.AssemblyPlain
set_option linter.unusedSimpArgs false
set_option linter.unusedVariables false
set_option maxRecDepth 100000
set_option maxHeartbeats 4000000
namespace Go.Proofs.Ytogohendjjgbiaa
open Go.RowKit Go.Sort
section
variable {α : Type} [Inhabited α] (lt : α → α → Bool)
theorem sd_end {hi first root : Nat} {d : Array α} (h : 2 * root + 1 ≥ hi) : siftDown lt hi first root d = d := by
  rw [siftDown, dif_pos h]
theorem sd_R {hi first root : Nat} {d : Array α} (h : 2 * root + 2 < hi) (hl : lt d[first + (2 * root + 1)]! d[first + (2 * root + 1) + 1]! = true) :
    siftDown lt hi first root d = if lt d[first + root]! d[first + (2 * root + 2)]! = true then siftDown lt hi first (2 * root + 2) (swp d (first + root) (first + (2 * root + 2))) else d := by
  rw [siftDown, dif_neg (by omega), if_pos (by simp [hl, h])]
  cases lt d[first + root]! d[first + (2 * root + 2)]! <;> simp [h]
theorem sd_L {hi first root : Nat} {d : Array α} (h : ¬ 2 * root + 1 ≥ hi) (hl : ¬ 2 * root + 2 < hi ∨ lt d[first + (2 * root + 1)]! d[first + (2 * root + 1) + 1]! = false) :
    siftDown lt hi first root d = if lt d[first + root]! d[first + (2 * root + 1)]! = true then siftDown lt hi first (2 * root + 1) (swp d (first + root) (first + (2 * root + 1))) else d := by
  rw [siftDown, dif_neg h, if_neg (by rcases hl with hl | hl <;> simp [hl])]
  cases lt d[first + root]! d[first + (2 * root + 1)]! <;> simp
end
/-- As St.roL, beside blocks that turn. -/
theorem St.roX {w0 w : World} {Y X : List Nat} {A L L' : List (Nat × Obj)} (hown : Own w0 A) (hX : X = Y ++ A.map Prod.fst) (hS : St w0 X L w) (hr : RemB A L L') : St w0 Y L' w := by
  subst hX
  have hR := hS.rem hr
  have hnd := hR.nd
  rw [List.map_append, List.nodup_append] at hnd
  refine ⟨hS.os, hS.tape, hS.output, hS.size, fun k hk hy => ?_, fun c hc => hR.own c (List.mem_append_right _ hc), hnd.2.1, fun c hc => ?_⟩
  · by_cases hm : k ∈ A.map Prod.fst
    · obtain ⟨c, hc, rfl⟩ := List.mem_map.1 hm
      rw [hown.1 c hc]
      exact hR.own c (List.mem_append_left _ hc)
    · exact hS.old k hk (fun h => by rcases List.mem_append.1 h with h | h; exact hy h; exact hm h)
  · rcases hR.wr c (List.mem_append_right _ hc) with h | h
    · rcases List.mem_append.1 h with h | h
      · exact .inl h
      · exact absurd rfl (hnd.2.2 _ h _ (List.mem_map_of_mem hc))
    · exact .inr h
theorem own_tail {w : World} {c : Nat × Obj} {A : List (Nat × Obj)} (h : Own w (c :: A)) : Own w A := ⟨fun d hd => h.1 d (List.mem_cons_of_mem _ hd), (List.nodup_cons.1 h.2).2⟩
section
variable {bl lf sf n : Nat} {lc sc : List Value} {v : Value} {B : List (Nat × Obj)} {d : Array Itn} {w : World}
theorem sift_any (root hi first : Nat) (hsw : SW lf sf lc sc bl v n) (hsl : Rw v d B) (hn : d.size = n) (hb : first + hi ≤ n) (hn2 : n ≤ 1000) (hr : root ≤ 1000) (hown : Own w ((bl, C 22 [v]) :: B)) :
    Ret Try.prog 94 #[.agg #[fnV lf lc, fnV sf sc], .int .i64 (root : Int), .int .i64 (hi : Int), .int .i64 (first : Int)] w fun u w' => ∃ B', Rw v (siftDown firstI hi first root d) B' ∧ (siftDown firstI hi first root d).size = n ∧ St w (((bl, C 22 [v]) :: B).map Prod.fst) ((bl, C 22 [v]) :: B') w' := by
  have hS := St.init hown
  generalize hX : ((bl, C 22 [v]) :: B).map Prod.fst = X at hS ⊢
  generalize hR : siftDown firstI hi first root d = R
  refine Ret.enter Try.func94 Try.ntmps94 rfl rfl ?_
  simp only [argEnv, Nat.reduceAdd]
  refine SatC.seq ?_
  refine SatC.region ?_
  refine SatL.op rfl (OpW.box hS rfl rfl (by repeat constructor) ?_)
  clear hS
  intro b4 w1 _ hS
  refine SatL.nil (SatE.thenC ?_)
  refine SatC.seq ?_
  refine SatC.region ?_
  refine SatL.pu (RunV.move rfl) rfl ?_
  refine SatL.pu (RunV.assign rfl) rfl ?_
  refine SatL.nil (SatE.thenC ?_)
  refine SatC.block ?_
  refine SatC.loopK (G := Nat × Array Itn × List (Nat × Obj)) (V := fun ⟨r, d1, B1⟩ => [(8, .int .i64 (r : Int))]) (Cn := [(2, _), (3, _), (4, _)]) (I := fun ⟨r, d1, B1⟩ w' => r ≤ 1000 ∧ siftDown firstI hi first r d1 = R ∧ d1.size = n ∧ Rw v d1 B1 ∧ St w X ((b4, C 107 [fnV lf lc, fnV sf sc]) :: (bl, C 22 [v]) :: B1) w') (μ := fun ⟨r, d1, B1⟩ => hi - r) (root, d, B) ?_ (by repeat constructor) ?_
  · exact ⟨by omega, hR, hn, hsl, hS⟩
  clear hS
  rintro ⟨r, d1, B1⟩ w2 ⟨hr1, hR1, hn1, hsl1, hS⟩
  refine SatC.weak (e' := [(2, _), (3, _), (4, _), (8, _)]) (by repeat constructor) ?_
  refine SatC.block ?_
  refine SatC.seq ?_
  refine SatC.region ?_
  refine SatL.pu (RunV.move rfl) rfl ?_
  refine SatL.pu (RunV.mul rfl rfl (by first | exact wrapI64 (by omega) | rfl)) rfl ?_
  refine SatL.pu (RunV.add rfl rfl (by first | exact wrapI64 (by omega) | rfl)) rfl ?_
  refine SatL.pu (RunV.assign rfl) rfl ?_
  refine SatL.nil (SatE.thenC ?_)
  refine SatC.seq ?_
  refine SatC.seq ?_
  refine SatC.region ?_
  refine SatL.pu (RunV.move rfl) rfl ?_
  refine SatL.pu (RunV.move rfl) rfl ?_
  refine SatL.pu (RunV.geq rfl rfl) rfl ?_
  refine SatL.nil (SatE.thenC ?_)
  refine SatC.cond rfl (fun h1 => ?_) (fun h1 => ?_)
  · (try simp only [cx, ne_eq] at h1)
    try (exfalso; (first | omega | exact h1 trivial | contradiction | (first | omega | (simp at h1; done))); done)
    all_goals
    refine SatC.exit (SatE.then_exit (SatE.blk_other rfl (SatE.then_exit (SatE.blk_exit ?_))))
    refine SatE.fin0 rfl ?_
    exact ⟨B1, by rw [← hR1, sd_end firstI (by omega)]; exact hsl1, by rw [← hR1, sd_end firstI (by omega)]; exact hn1, hS.sel (by repeat constructor)⟩
  · (try simp only [cx, ne_eq] at h1)
    try (exfalso; (first | omega | exact h1 trivial | contradiction | (first | omega | (simp at h1; done))); done)
    all_goals
    refine SatC.skip (SatE.thenC ?_)
    refine SatC.seq ?_
    refine SatC.seq ?_
    refine SatC.region ?_
    refine SatL.pu (RunV.move rfl) rfl ?_
    refine SatL.pu (RunV.add rfl rfl (by first | exact wrapI64 (by omega) | rfl)) rfl ?_
    refine SatL.pu (RunV.move rfl) rfl ?_
    refine SatL.pu (RunV.lss rfl rfl) rfl ?_
    refine SatL.pu (RunV.move rfl) rfl ?_
    refine SatL.guard rfl rfl rfl (fun h2 => ?_) (fun h2 => ?_)
    · (try simp only [cx, ne_eq] at h2)
      try (exfalso; (first | omega | exact h2 trivial | contradiction | (first | omega | (simp at h2; done))); done)
      all_goals
      first | refine SatL.pu (RunV.fieldAddrL rfl rfl rfl) rfl ?_ | refine SatL.pu (RunV.fieldAddr rfl rfl rfl) rfl ?_
      refine SatL.guard_y rfl rfl ?_
      refine SatL.pu (RunV.load1 hS rfl rfl (by repeat constructor) rfl) rfl ?_
      refine SatL.guard_y rfl rfl ?_
      refine SatL.pu (RunV.move rfl) rfl ?_
      refine SatL.guard_y rfl rfl ?_
      refine SatL.pu (RunV.move rfl) rfl ?_
      refine SatL.guard_y rfl rfl ?_
      refine SatL.pu (RunV.add rfl rfl (by first | exact wrapI64 (by omega) | rfl)) rfl ?_
      refine SatL.guard_y rfl rfl ?_
      refine SatL.pu (RunV.move rfl) rfl ?_
      refine SatL.guard_y rfl rfl ?_
      refine SatL.pu (RunV.move rfl) rfl ?_
      refine SatL.guard_y rfl rfl ?_
      refine SatL.pu (RunV.add rfl rfl (by first | exact wrapI64 (by omega) | rfl)) rfl ?_
      refine SatL.guard_y rfl rfl ?_
      refine SatL.pu (RunV.add rfl rfl (by first | exact wrapI64 (by omega) | rfl)) rfl ?_
      refine SatL.guard_y rfl rfl ?_
      refine SatL.op rfl (OpW.enterF (fs := []) (cap := lc) rfl rfl rfl (hsw.el) (hsw.less _ B1 d1 (first + (2 * r + 1)) (first + (2 * r + 1) + 1) ((first : Int) + (2 * (r : Int) + 1)) ((first : Int) + (2 * (r : Int) + 1) + 1) (by omega) (by omega) (by omega) (by omega) hn1 hsl1 (hS.ownT (A := (bl, C 22 [v]) :: B1) (by repeat constructor))) ?_)
      rintro r3 w3 ⟨rfl, h⟩
      replace hS := St.callN hS h
      refine SatL.pu (RunV.pick_t rfl rfl) rfl ?_
      refine SatL.nil (SatE.thenC ?_)
      refine SatC.weak (e' := [(2, _), (3, _), (4, _), (8, _), (9, _), (32, _)]) (by repeat constructor) ?_
      refine SatC.cond rfl (fun h3 => ?_) (fun h3 => ?_)
      · (try simp only [cx, ne_eq] at h3)
        try (exfalso; (first | omega | exact h3 trivial | contradiction | (first | omega | (simp at h3; done))); done)
        all_goals
        refine SatC.region ?_
        refine SatL.pu (RunV.move rfl) rfl ?_
        refine SatL.pu (RunV.add rfl rfl (by first | exact wrapI64 (by omega) | rfl)) rfl ?_
        refine SatL.pu (RunV.assign rfl) rfl ?_
        refine SatL.nil (SatE.thenC ?_)
        refine SatC.seq ?_
        refine SatC.seq ?_
        refine SatC.region ?_
        first | refine SatL.pu (RunV.fieldAddrL rfl rfl rfl) rfl ?_ | refine SatL.pu (RunV.fieldAddr rfl rfl rfl) rfl ?_
        refine SatL.pu (RunV.load1 hS rfl rfl (by repeat constructor) rfl) rfl ?_
        refine SatL.pu (RunV.move rfl) rfl ?_
        refine SatL.pu (RunV.move rfl) rfl ?_
        refine SatL.pu (RunV.add rfl rfl (by first | exact wrapI64 (by omega) | rfl)) rfl ?_
        refine SatL.pu (RunV.move rfl) rfl ?_
        refine SatL.pu (RunV.move rfl) rfl ?_
        refine SatL.pu (RunV.add rfl rfl (by first | exact wrapI64 (by omega) | rfl)) rfl ?_
        refine SatL.op rfl (OpW.enterF (fs := []) (cap := lc) rfl rfl rfl (hsw.el) (hsw.less _ B1 d1 (first + r) (first + (2 * r + 2)) ((first : Int) + (r : Int)) ((first : Int) + (2 * (r : Int) + 1 + 1)) (by omega) (by omega) (by omega) (by omega) hn1 hsl1 (hS.ownT (A := (bl, C 22 [v]) :: B1) (by repeat constructor))) ?_)
        rintro r4 w4 ⟨rfl, h⟩
        replace hS := St.callN hS h
        refine SatL.pu (RunV.not rfl) rfl ?_
        refine SatL.nil (SatE.thenC ?_)
        refine SatC.weak (e' := [(2, _), (3, _), (4, _), (8, _), (9, _), (44, _)]) (by repeat constructor) ?_
        refine SatC.cond rfl (fun h4 => ?_) (fun h4 => ?_)
        · (try simp only [cx, ne_eq] at h4)
          try (exfalso; (first | omega | exact h4 trivial | contradiction | (first | omega | (simp at h4; done))); done)
          all_goals
          refine SatC.ret (SatE.then_ret (SatE.blk_ret (SatE.then_ret (SatE.blk_ret ?_))))
          refine SatE.ret0 rfl ?_
          have e := sd_R (hi := hi) (first := first) (root := r) (d := d1) firstI (by omega) (by assumption)
          rw [if_neg (c := firstI d1[first + r]! d1[first + (2 * r + 2)]! = true) (by simp [*])] at e
          exact ⟨B1, by rw [← hR1, e]; exact hsl1, by rw [← hR1, e]; exact hn1, hS.sel (by repeat constructor)⟩
        · (try simp only [cx, ne_eq] at h4)
          try (exfalso; (first | omega | exact h4 trivial | contradiction | (first | omega | (simp at h4; done))); done)
          all_goals
          refine SatC.skip (SatE.thenC ?_)
          refine SatC.seq ?_
          obtain ⟨B3, W3, hsl3, hrun, hq⟩ := hsw.swap _ B1 d1 (first + r) (first + (2 * r + 2)) ((first : Int) + (r : Int)) ((first : Int) + (2 * (r : Int) + 1 + 1)) (by omega) (by omega) (by omega) (by omega) hn1 hsl1 (hS.ownT (A := B1) (by repeat constructor))
          refine SatC.region ?_
          first | refine SatL.pu (RunV.fieldAddrL rfl rfl rfl) rfl ?_ | refine SatL.pu (RunV.fieldAddr rfl rfl rfl) rfl ?_
          refine SatL.pu (RunV.load1 hS rfl rfl (by repeat constructor) rfl) rfl ?_
          refine SatL.pu (RunV.move rfl) rfl ?_
          refine SatL.pu (RunV.move rfl) rfl ?_
          refine SatL.pu (RunV.add rfl rfl (by first | exact wrapI64 (by omega) | rfl)) rfl ?_
          refine SatL.pu (RunV.move rfl) rfl ?_
          refine SatL.pu (RunV.move rfl) rfl ?_
          refine SatL.pu (RunV.add rfl rfl (by first | exact wrapI64 (by omega) | rfl)) rfl ?_
          refine SatL.op rfl (OpW.externF (fs := []) (cap := sc) rfl rfl rfl hrun ?_)
          replace hS := hS.callR (A := B1) (by repeat constructor) hq
          refine SatL.nil (SatE.thenC ?_)
          refine SatC.region ?_
          refine SatL.pu (RunV.move rfl) rfl ?_
          refine SatL.pu (RunV.assign rfl) rfl ?_
          refine SatL.nil (SatE.blk_normal ?_)
          refine SatE.again ((2 * r + 2, swp d1 (first + r) (first + (2 * r + 2)), B3)) ?_ (by first | omega | (dsimp only; omega)) (by repeat constructor)
          exact ⟨by omega, by rw [← hR1, sd_R (hi := hi) (first := first) (root := r) (d := d1) firstI (by omega) (by assumption), if_pos (c := firstI d1[first + r]! d1[first + (2 * r + 2)]! = true) (by assumption)], by rw [swp_size]; exact hn1, hsl3, hS.sel (by repeat constructor)⟩
      · (try simp only [cx, ne_eq] at h3)
        try (exfalso; (first | omega | exact h3 trivial | contradiction | (first | omega | (simp at h3; done))); done)
        all_goals
        refine SatC.skip (SatE.thenC ?_)
        refine SatC.seq ?_
        refine SatC.seq ?_
        refine SatC.region ?_
        first | refine SatL.pu (RunV.fieldAddrL rfl rfl rfl) rfl ?_ | refine SatL.pu (RunV.fieldAddr rfl rfl rfl) rfl ?_
        refine SatL.pu (RunV.load1 hS rfl rfl (by repeat constructor) rfl) rfl ?_
        refine SatL.pu (RunV.move rfl) rfl ?_
        refine SatL.pu (RunV.move rfl) rfl ?_
        refine SatL.pu (RunV.add rfl rfl (by first | exact wrapI64 (by omega) | rfl)) rfl ?_
        refine SatL.pu (RunV.move rfl) rfl ?_
        refine SatL.pu (RunV.move rfl) rfl ?_
        refine SatL.pu (RunV.add rfl rfl (by first | exact wrapI64 (by omega) | rfl)) rfl ?_
        refine SatL.op rfl (OpW.enterF (fs := []) (cap := lc) rfl rfl rfl (hsw.el) (hsw.less _ B1 d1 (first + r) (first + (2 * r + 1)) ((first : Int) + (r : Int)) ((first : Int) + (2 * (r : Int) + 1)) (by omega) (by omega) (by omega) (by omega) hn1 hsl1 (hS.ownT (A := (bl, C 22 [v]) :: B1) (by repeat constructor))) ?_)
        rintro r4 w4 ⟨rfl, h⟩
        replace hS := St.callN hS h
        refine SatL.pu (RunV.not rfl) rfl ?_
        refine SatL.nil (SatE.thenC ?_)
        refine SatC.cond rfl (fun h4 => ?_) (fun h4 => ?_)
        · (try simp only [cx, ne_eq] at h4)
          try (exfalso; (first | omega | exact h4 trivial | contradiction | (first | omega | (simp at h4; done))); done)
          all_goals
          refine SatC.ret (SatE.then_ret (SatE.blk_ret (SatE.then_ret (SatE.blk_ret ?_))))
          refine SatE.ret0 rfl ?_
          have e := sd_L (hi := hi) (first := first) (root := r) (d := d1) firstI (by omega) (by first | exact .inl (by omega) | exact .inr (by assumption))
          rw [if_neg (c := firstI d1[first + r]! d1[first + (2 * r + 1)]! = true) (by simp [*])] at e
          exact ⟨B1, by rw [← hR1, e]; exact hsl1, by rw [← hR1, e]; exact hn1, hS.sel (by repeat constructor)⟩
        · (try simp only [cx, ne_eq] at h4)
          try (exfalso; (first | omega | exact h4 trivial | contradiction | (first | omega | (simp at h4; done))); done)
          all_goals
          refine SatC.skip (SatE.thenC ?_)
          refine SatC.seq ?_
          obtain ⟨B3, W3, hsl3, hrun, hq⟩ := hsw.swap _ B1 d1 (first + r) (first + (2 * r + 1)) ((first : Int) + (r : Int)) ((first : Int) + (2 * (r : Int) + 1)) (by omega) (by omega) (by omega) (by omega) hn1 hsl1 (hS.ownT (A := B1) (by repeat constructor))
          refine SatC.region ?_
          first | refine SatL.pu (RunV.fieldAddrL rfl rfl rfl) rfl ?_ | refine SatL.pu (RunV.fieldAddr rfl rfl rfl) rfl ?_
          refine SatL.pu (RunV.load1 hS rfl rfl (by repeat constructor) rfl) rfl ?_
          refine SatL.pu (RunV.move rfl) rfl ?_
          refine SatL.pu (RunV.move rfl) rfl ?_
          refine SatL.pu (RunV.add rfl rfl (by first | exact wrapI64 (by omega) | rfl)) rfl ?_
          refine SatL.pu (RunV.move rfl) rfl ?_
          refine SatL.pu (RunV.move rfl) rfl ?_
          refine SatL.pu (RunV.add rfl rfl (by first | exact wrapI64 (by omega) | rfl)) rfl ?_
          refine SatL.op rfl (OpW.externF (fs := []) (cap := sc) rfl rfl rfl hrun ?_)
          replace hS := hS.callR (A := B1) (by repeat constructor) hq
          refine SatL.nil (SatE.thenC ?_)
          refine SatC.weak (e' := [(2, _), (3, _), (4, _), (8, _), (9, _)]) (by repeat constructor) ?_
          refine SatC.region ?_
          refine SatL.pu (RunV.move rfl) rfl ?_
          refine SatL.pu (RunV.assign rfl) rfl ?_
          refine SatL.nil (SatE.blk_normal ?_)
          refine SatE.again ((2 * r + 1, swp d1 (first + r) (first + (2 * r + 1)), B3)) ?_ (by first | omega | (dsimp only; omega)) (by repeat constructor)
          exact ⟨by omega, by rw [← hR1, sd_L (hi := hi) (first := first) (root := r) (d := d1) firstI (by omega) (by first | exact .inl (by omega) | exact .inr (by assumption)), if_pos (c := firstI d1[first + r]! d1[first + (2 * r + 1)]! = true) (by assumption)], by rw [swp_size]; exact hn1, hsl3, hS.sel (by repeat constructor)⟩
    · (try simp only [cx, ne_eq] at h2)
      try (exfalso; (first | omega | exact h2 trivial | contradiction | (first | omega | (simp at h2; done))); done)
      all_goals
      refine SatL.guard_n rfl rfl rfl rfl ?_
      refine SatL.guard_n rfl rfl rfl rfl ?_
      refine SatL.guard_n rfl rfl rfl rfl ?_
      refine SatL.guard_n rfl rfl rfl rfl ?_
      refine SatL.guard_n rfl rfl rfl rfl ?_
      refine SatL.guard_n rfl rfl rfl rfl ?_
      refine SatL.guard_n rfl rfl rfl rfl ?_
      refine SatL.guard_n rfl rfl rfl rfl ?_
      refine SatL.guard_n rfl rfl rfl rfl ?_
      refine SatL.pu (RunV.pick_f rfl rfl) rfl ?_
      refine SatL.nil (SatE.thenC ?_)
      refine SatC.weak (e' := [(2, _), (3, _), (4, _), (8, _), (9, _), (32, _)]) (by repeat constructor) ?_
      refine SatC.cond_f rfl ?_
      refine SatC.skip (SatE.thenC ?_)
      refine SatC.seq ?_
      refine SatC.seq ?_
      refine SatC.region ?_
      first | refine SatL.pu (RunV.fieldAddrL rfl rfl rfl) rfl ?_ | refine SatL.pu (RunV.fieldAddr rfl rfl rfl) rfl ?_
      refine SatL.pu (RunV.load1 hS rfl rfl (by repeat constructor) rfl) rfl ?_
      refine SatL.pu (RunV.move rfl) rfl ?_
      refine SatL.pu (RunV.move rfl) rfl ?_
      refine SatL.pu (RunV.add rfl rfl (by first | exact wrapI64 (by omega) | rfl)) rfl ?_
      refine SatL.pu (RunV.move rfl) rfl ?_
      refine SatL.pu (RunV.move rfl) rfl ?_
      refine SatL.pu (RunV.add rfl rfl (by first | exact wrapI64 (by omega) | rfl)) rfl ?_
      refine SatL.op rfl (OpW.enterF (fs := []) (cap := lc) rfl rfl rfl (hsw.el) (hsw.less _ B1 d1 (first + r) (first + (2 * r + 1)) ((first : Int) + (r : Int)) ((first : Int) + (2 * (r : Int) + 1)) (by omega) (by omega) (by omega) (by omega) hn1 hsl1 (hS.ownT (A := (bl, C 22 [v]) :: B1) (by repeat constructor))) ?_)
      rintro r3 w3 ⟨rfl, h⟩
      replace hS := St.callN hS h
      refine SatL.pu (RunV.not rfl) rfl ?_
      refine SatL.nil (SatE.thenC ?_)
      refine SatC.cond rfl (fun h3 => ?_) (fun h3 => ?_)
      · (try simp only [cx, ne_eq] at h3)
        try (exfalso; (first | omega | exact h3 trivial | contradiction | (first | omega | (simp at h3; done))); done)
        all_goals
        refine SatC.ret (SatE.then_ret (SatE.blk_ret (SatE.then_ret (SatE.blk_ret ?_))))
        refine SatE.ret0 rfl ?_
        have e := sd_L (hi := hi) (first := first) (root := r) (d := d1) firstI (by omega) (by first | exact .inl (by omega) | exact .inr (by assumption))
        rw [if_neg (c := firstI d1[first + r]! d1[first + (2 * r + 1)]! = true) (by simp [*])] at e
        exact ⟨B1, by rw [← hR1, e]; exact hsl1, by rw [← hR1, e]; exact hn1, hS.sel (by repeat constructor)⟩
      · (try simp only [cx, ne_eq] at h3)
        try (exfalso; (first | omega | exact h3 trivial | contradiction | (first | omega | (simp at h3; done))); done)
        all_goals
        refine SatC.skip (SatE.thenC ?_)
        refine SatC.seq ?_
        obtain ⟨B3, W3, hsl3, hrun, hq⟩ := hsw.swap _ B1 d1 (first + r) (first + (2 * r + 1)) ((first : Int) + (r : Int)) ((first : Int) + (2 * (r : Int) + 1)) (by omega) (by omega) (by omega) (by omega) hn1 hsl1 (hS.ownT (A := B1) (by repeat constructor))
        refine SatC.region ?_
        first | refine SatL.pu (RunV.fieldAddrL rfl rfl rfl) rfl ?_ | refine SatL.pu (RunV.fieldAddr rfl rfl rfl) rfl ?_
        refine SatL.pu (RunV.load1 hS rfl rfl (by repeat constructor) rfl) rfl ?_
        refine SatL.pu (RunV.move rfl) rfl ?_
        refine SatL.pu (RunV.move rfl) rfl ?_
        refine SatL.pu (RunV.add rfl rfl (by first | exact wrapI64 (by omega) | rfl)) rfl ?_
        refine SatL.pu (RunV.move rfl) rfl ?_
        refine SatL.pu (RunV.move rfl) rfl ?_
        refine SatL.pu (RunV.add rfl rfl (by first | exact wrapI64 (by omega) | rfl)) rfl ?_
        refine SatL.op rfl (OpW.externF (fs := []) (cap := sc) rfl rfl rfl hrun ?_)
        replace hS := hS.callR (A := B1) (by repeat constructor) hq
        refine SatL.nil (SatE.thenC ?_)
        refine SatC.weak (e' := [(2, _), (3, _), (4, _), (8, _), (9, _)]) (by repeat constructor) ?_
        refine SatC.region ?_
        refine SatL.pu (RunV.move rfl) rfl ?_
        refine SatL.pu (RunV.assign rfl) rfl ?_
        refine SatL.nil (SatE.blk_normal ?_)
        refine SatE.again ((2 * r + 1, swp d1 (first + r) (first + (2 * r + 1)), B3)) ?_ (by first | omega | (dsimp only; omega)) (by repeat constructor)
        exact ⟨by omega, by rw [← hR1, sd_L (hi := hi) (first := first) (root := r) (d := d1) firstI (by omega) (by first | exact .inl (by omega) | exact .inr (by assumption)), if_pos (c := firstI d1[first + r]! d1[first + (2 * r + 1)]! = true) (by assumption)], by rw [swp_size]; exact hn1, hsl3, hS.sel (by repeat constructor)⟩
theorem heap_any (a b : Nat) (hsw : SW lf sf lc sc bl v n) (hsl : Rw v d B) (hn : d.size = n) (ha : a < b) (hb : b ≤ n) (hn2 : n ≤ 1000) (hown : Own w ((bl, C 22 [v]) :: B)) :
    Ret Try.prog 85 #[.agg #[fnV lf lc, fnV sf sc], .int .i64 (a : Int), .int .i64 (b : Int)] w fun u w' => ∃ B', Rw v (heapSort firstI d a b) B' ∧ St w (((bl, C 22 [v]) :: B).map Prod.fst) ((bl, C 22 [v]) :: B') w' := by
  have hS := St.init hown
  generalize hX : ((bl, C 22 [v]) :: B).map Prod.fst = X at hS ⊢
  unfold heapSort
  generalize hR : heapBuild firstI (b - a) a ((b - a - 1) / 2 + 1) d = R1
  generalize hR2 : heapPop firstI a (b - a) R1 = R2
  refine Ret.enter Try.func85 Try.ntmps85 rfl rfl ?_
  simp only [argEnv, Nat.reduceAdd]
  refine SatC.seq ?_
  refine SatC.region ?_
  refine SatL.op rfl (OpW.box hS rfl rfl (by repeat constructor) ?_)
  clear hS
  intro b3 w1 _ hS
  refine SatL.nil (SatE.thenC ?_)
  refine SatC.seq ?_
  refine SatC.region ?_
  refine SatL.pu (RunV.move rfl) rfl ?_
  refine SatL.pu (RunV.assign rfl) rfl ?_
  refine SatL.nil (SatE.thenC ?_)
  refine SatC.seq ?_
  refine SatC.region ?_
  refine SatL.pu (RunV.assign rfl) rfl ?_
  refine SatL.nil (SatE.thenC ?_)
  refine SatC.seq ?_
  refine SatC.region ?_
  refine SatL.pu (RunV.move rfl) rfl ?_
  refine SatL.pu (RunV.move rfl) rfl ?_
  refine SatL.pu (RunV.sub (r := ((b - a : Nat) : Int)) rfl rfl (by rw [wrapI64 (by omega)]; omega)) rfl ?_
  refine SatL.pu (RunV.assign rfl) rfl ?_
  refine SatL.nil (SatE.thenC ?_)
  refine SatC.seq ?_
  refine SatC.seq ?_
  refine SatC.region ?_
  refine SatL.pu (RunV.move rfl) rfl ?_
  refine SatL.pu (RunV.sub (r := ((b - a - 1 : Nat) : Int)) rfl rfl (by rw [wrapI64 (by omega)]; omega)) rfl ?_
  refine SatL.pu (RunV.quo (r := (((b - a - 1) / 2 : Nat) : Int)) rfl rfl (by decide) (by rw [show ((b - a - 1 : Nat) : Int).tdiv 2 = (((b - a - 1) / 2 : Nat) : Int) from rfl, wrapI64 (by omega)])) rfl ?_
  refine SatL.pu (RunV.assign rfl) rfl ?_
  refine SatL.nil (SatE.thenC ?_)
  refine SatC.block ?_
  refine SatC.loopK (G := Int × Nat × Array Itn × List (Nat × Obj)) (V := fun ⟨x, k, d1, B1⟩ => [(9, .int .i64 x)]) (Cn := [(3, _), (6, _), (7, _), (8, _)]) (I := fun ⟨x, k, d1, B1⟩ w' => x = (k : Int) - 1 ∧ k ≤ 1000 ∧ heapBuild firstI (b - a) a k d1 = R1 ∧ d1.size = n ∧ Rw v d1 B1 ∧ St w X ((b3, C 107 [fnV lf lc, fnV sf sc]) :: (bl, C 22 [v]) :: B1) w') (μ := fun ⟨x, k, d1, B1⟩ => k) ((((b - a - 1) / 2 : Nat) : Int), (b - a - 1) / 2 + 1, d, B) ?_ (by repeat constructor) ?_
  · exact ⟨by omega, by omega, hR, hn, hsl, hS⟩
  clear hS
  rintro ⟨x, k, d1, B1⟩ w2 ⟨hx, hk, hR3, hn1, hsl1, hS⟩
  refine SatC.weak (e' := [(3, _), (6, _), (7, _), (8, _), (9, _)]) (by repeat constructor) ?_
  refine SatC.seq ?_
  refine SatC.seq ?_
  refine SatC.region ?_
  refine SatL.pu (RunV.move rfl) rfl ?_
  refine SatL.pu (RunV.geq rfl rfl) rfl ?_
  refine SatL.nil (SatE.thenC ?_)
  refine SatC.cond rfl (fun h1 => ?_) (fun h1 => ?_)
  · (try simp only [cx, ne_eq] at h1)
    try (exfalso; (first | omega | exact h1 trivial | contradiction | (first | omega | (simp at h1; done))); done)
    all_goals
    refine SatC.skip (SatE.thenC ?_)
    refine SatC.seq ?_
    refine SatC.block ?_
    obtain ⟨k, rfl⟩ : ∃ k', k = k' + 1 := ⟨k - 1, by omega⟩
    obtain rfl : x = (k : Int) := by omega
    refine SatC.region ?_
    refine SatL.pu (RunV.loadN hS rfl rfl (by repeat constructor) (by repeat constructor)) rfl ?_
    refine SatL.pu (RunV.move rfl) rfl ?_
    refine SatL.pu (RunV.move rfl) rfl ?_
    refine SatL.pu (RunV.move rfl) rfl ?_
    refine SatL.op rfl (OpW.enter rfl rfl rfl (rfl) (sift_any k (b - a) a hsw hsl1 hn1 (by omega) hn2 (by omega) (hS.ownT (A := (bl, C 22 [v]) :: B1) (by repeat constructor))) ?_)
    rintro r3 w3 ⟨B3, hsl3, hn3, h⟩
    replace hS := hS.callR (A := (bl, C 22 [v]) :: B1) (by repeat constructor) h
    refine SatL.nil (SatE.blk_normal (SatE.thenC ?_))
    refine SatC.region ?_
    refine SatL.pu (RunV.move rfl) rfl ?_
    refine SatL.pu (RunV.sub rfl rfl (by first | exact wrapI64 (by omega) | rfl)) rfl ?_
    refine SatL.pu (RunV.assign rfl) rfl ?_
    refine SatL.nil ?_
    refine SatE.again (((k : Int) - 1, k, siftDown firstI (b - a) a k d1, B3)) ?_ (by first | omega | (dsimp only; omega)) (by repeat constructor)
    exact ⟨rfl, by omega, by rw [← hR3, heapBuild], hn3, hsl3, hS.sel (by repeat constructor)⟩
  · (try simp only [cx, ne_eq] at h1)
    try (exfalso; (first | omega | exact h1 trivial | contradiction | (first | omega | (simp at h1; done))); done)
    all_goals
    refine SatC.exit (SatE.then_exit (SatE.then_exit (SatE.blk_exit (SatE.thenC ?_))))
    refine SatC.seq ?_
    refine SatC.region ?_
    refine SatL.pu (RunV.move rfl) rfl ?_
    refine SatL.pu (RunV.sub (r := ((b - a - 1 : Nat) : Int)) rfl rfl (by rw [wrapI64 (by omega)]; omega)) rfl ?_
    refine SatL.pu (RunV.assign rfl) rfl ?_
    refine SatL.nil (SatE.thenC ?_)
    refine SatC.block ?_
    refine SatC.loopK (G := Int × Nat × Array Itn × List (Nat × Obj)) (V := fun ⟨y, m, d2, B2⟩ => [(10, .int .i64 y)]) (Cn := [(3, _), (6, _), (7, _)]) (I := fun ⟨y, m, d2, B2⟩ w' => y = (m : Int) - 1 ∧ m ≤ b - a ∧ heapPop firstI a m d2 = R2 ∧ d2.size = n ∧ Rw v d2 B2 ∧ St w X ((b3, C 107 [fnV lf lc, fnV sf sc]) :: (bl, C 22 [v]) :: B2) w') (μ := fun ⟨y, m, d2, B2⟩ => m) (((b - a - 1 : Nat) : Int), b - a, d1, B1) ?_ (by repeat constructor) ?_
    · exact ⟨by omega, Nat.le_refl _, (by rw [show d1 = R1 by rw [← hR3, show k = 0 by omega]; rfl]; exact hR2), hn1, hsl1, hS⟩
    clear hS
    rintro ⟨y, m, d2, B2⟩ w3 ⟨hy, hm, hR4, hn4, hsl4, hS⟩
    refine SatC.weak (e' := [(3, _), (6, _), (7, _), (10, _)]) (by repeat constructor) ?_
    refine SatC.seq ?_
    refine SatC.seq ?_
    refine SatC.region ?_
    refine SatL.pu (RunV.move rfl) rfl ?_
    refine SatL.pu (RunV.geq rfl rfl) rfl ?_
    refine SatL.nil (SatE.thenC ?_)
    refine SatC.cond rfl (fun h2 => ?_) (fun h2 => ?_)
    · (try simp only [cx, ne_eq] at h2)
      try (exfalso; (first | omega | exact h2 trivial | contradiction | (first | omega | (simp at h2; done))); done)
      all_goals
      refine SatC.skip (SatE.thenC ?_)
      refine SatC.seq ?_
      refine SatC.block ?_
      refine SatC.seq ?_
      obtain ⟨m, rfl⟩ : ∃ k', m = k' + 1 := ⟨m - 1, by omega⟩
      obtain rfl : y = (m : Int) := by omega
      obtain ⟨B5, W5, hsl5, hrun, hq⟩ := hsw.swap _ B2 d2 a (a + m) (a : Int) ((a : Int) + (m : Int)) rfl (by omega) (by omega) (by omega) hn4 hsl4 (hS.ownT (A := B2) (by repeat constructor))
      refine SatC.region ?_
      first | refine SatL.pu (RunV.fieldAddrL rfl rfl rfl) rfl ?_ | refine SatL.pu (RunV.fieldAddr rfl rfl rfl) rfl ?_
      refine SatL.pu (RunV.load1 hS rfl rfl (by repeat constructor) rfl) rfl ?_
      refine SatL.pu (RunV.move rfl) rfl ?_
      refine SatL.pu (RunV.move rfl) rfl ?_
      refine SatL.pu (RunV.move rfl) rfl ?_
      refine SatL.pu (RunV.add rfl rfl (by first | exact wrapI64 (by omega) | rfl)) rfl ?_
      refine SatL.op rfl (OpW.externF (fs := []) (cap := sc) rfl rfl rfl hrun ?_)
      replace hS := hS.callR (A := B2) (by repeat constructor) hq
      refine SatL.nil (SatE.thenC ?_)
      refine SatC.region ?_
      refine SatL.pu (RunV.loadN hS rfl rfl (by repeat constructor) (by repeat constructor)) rfl ?_
      refine SatL.pu (RunV.move rfl) rfl ?_
      refine SatL.pu (RunV.move rfl) rfl ?_
      refine SatL.pu (RunV.move rfl) rfl ?_
      refine SatL.op rfl (OpW.enter rfl rfl rfl (rfl) (sift_any 0 m a hsw hsl5 (by rw [swp_size]; exact hn4) (by omega) hn2 (by omega) (hS.ownT (A := (bl, C 22 [v]) :: B5) (by repeat constructor))) ?_)
      rintro r5 w5 ⟨B6, hsl6, hn6, h⟩
      replace hS := hS.callT (A := (bl, C 22 [v]) :: B5) (by repeat constructor) h
      refine SatL.nil (SatE.blk_normal (SatE.thenC ?_))
      refine SatC.weak (e' := [(3, _), (6, _), (7, _), (10, _)]) (by repeat constructor) ?_
      refine SatC.region ?_
      refine SatL.pu (RunV.move rfl) rfl ?_
      refine SatL.pu (RunV.sub rfl rfl (by first | exact wrapI64 (by omega) | rfl)) rfl ?_
      refine SatL.pu (RunV.assign rfl) rfl ?_
      refine SatL.nil ?_
      refine SatE.again (((m : Int) - 1, m, siftDown firstI m a 0 (swp d2 a (a + m)), B6)) ?_ (by first | omega | (dsimp only; omega)) (by repeat constructor)
      exact ⟨rfl, by omega, by rw [← hR4, heapPop], hn6, hsl6, hS.sel (by repeat constructor)⟩
    · (try simp only [cx, ne_eq] at h2)
      try (exfalso; (first | omega | exact h2 trivial | contradiction | (first | omega | (simp at h2; done))); done)
      all_goals
      refine SatC.exit (SatE.then_exit (SatE.then_exit (SatE.blk_exit ?_)))
      refine SatE.fin0 rfl ?_
      obtain rfl : m = 0 := by omega
      rw [heapPop] at hR4
      subst hR4
      exact ⟨B2, hsl4, hS.sel (by repeat constructor)⟩
theorem rev_any (a b : Nat) (hsw : SW lf sf lc sc bl v n) (hsl : Rw v d B) (hn : d.size = n) (ha : a < b) (hb : b ≤ n) (hn2 : n ≤ 1000) (hown : Own w ((bl, C 22 [v]) :: B)) :
    Ret Try.prog 88 #[.agg #[fnV lf lc, fnV sf sc], .int .i64 (a : Int), .int .i64 (b : Int)] w fun u w' => ∃ B', Rw v (reverseRange d a b) B' ∧ St w (((bl, C 22 [v]) :: B).map Prod.fst) ((bl, C 22 [v]) :: B') w' := by
  have hS := St.init hown
  generalize hX : ((bl, C 22 [v]) :: B).map Prod.fst = X at hS ⊢
  unfold reverseRange
  generalize hR : reverseLoop a (b - 1) d = R
  refine Ret.enter Try.func88 Try.ntmps88 rfl rfl ?_
  simp only [argEnv, Nat.reduceAdd]
  refine SatC.seq ?_
  refine SatC.region ?_
  refine SatL.op rfl (OpW.box hS rfl rfl (by repeat constructor) ?_)
  clear hS
  intro b3 w1 _ hS
  refine SatL.nil (SatE.thenC ?_)
  refine SatC.seq ?_
  refine SatC.region ?_
  refine SatL.pu (RunV.move rfl) rfl ?_
  refine SatL.pu (RunV.assign rfl) rfl ?_
  refine SatL.nil (SatE.thenC ?_)
  refine SatC.seq ?_
  refine SatC.region ?_
  refine SatL.pu (RunV.move rfl) rfl ?_
  refine SatL.pu (RunV.sub (r := ((b - 1 : Nat) : Int)) rfl rfl (by rw [wrapI64 (by omega)]; omega)) rfl ?_
  refine SatL.pu (RunV.assign rfl) rfl ?_
  refine SatL.nil (SatE.thenC ?_)
  refine SatC.block ?_
  refine SatC.loopK (G := Nat × Nat × Array Itn × List (Nat × Obj)) (V := fun ⟨i, j, d1, B1⟩ => [(6, .int .i64 (i : Int)), (7, .int .i64 (j : Int))]) (Cn := [(3, _)]) (I := fun ⟨i, j, d1, B1⟩ w' => i ≤ 1000 ∧ j < n ∧ reverseLoop i j d1 = R ∧ d1.size = n ∧ Rw v d1 B1 ∧ St w X ((b3, C 107 [fnV lf lc, fnV sf sc]) :: (bl, C 22 [v]) :: B1) w') (μ := fun ⟨i, j, d1, B1⟩ => j - i) (a, b - 1, d, B) ?_ (by repeat constructor) ?_
  · exact ⟨by omega, by omega, hR, hn, hsl, hS⟩
  clear hS
  rintro ⟨i, j, d1, B1⟩ w2 ⟨hi, hj, hR1, hn1, hsl1, hS⟩
  refine SatC.weak (e' := [(3, _), (6, _), (7, _)]) (by repeat constructor) ?_
  refine SatC.seq ?_
  refine SatC.seq ?_
  refine SatC.region ?_
  refine SatL.pu (RunV.move rfl) rfl ?_
  refine SatL.pu (RunV.move rfl) rfl ?_
  refine SatL.pu (RunV.lss rfl rfl) rfl ?_
  refine SatL.nil (SatE.thenC ?_)
  refine SatC.cond rfl (fun h1 => ?_) (fun h1 => ?_)
  · (try simp only [cx, ne_eq] at h1)
    try (exfalso; (first | omega | exact h1 trivial | contradiction | (first | omega | (simp at h1; done))); done)
    all_goals
    refine SatC.skip (SatE.thenC ?_)
    refine SatC.block ?_
    refine SatC.seq ?_
    obtain ⟨B5, W5, hsl5, hrun, hq⟩ := hsw.swap _ B1 d1 i j (i : Int) (j : Int) rfl rfl (by omega) (by omega) hn1 hsl1 (hS.ownT (A := B1) (by repeat constructor))
    refine SatC.region ?_
    first | refine SatL.pu (RunV.fieldAddrL rfl rfl rfl) rfl ?_ | refine SatL.pu (RunV.fieldAddr rfl rfl rfl) rfl ?_
    refine SatL.pu (RunV.load1 hS rfl rfl (by repeat constructor) rfl) rfl ?_
    refine SatL.pu (RunV.move rfl) rfl ?_
    refine SatL.pu (RunV.move rfl) rfl ?_
    refine SatL.op rfl (OpW.externF (fs := []) (cap := sc) rfl rfl rfl hrun ?_)
    replace hS := hS.callR (A := B1) (by repeat constructor) hq
    refine SatL.nil (SatE.thenC ?_)
    refine SatC.seq ?_
    refine SatC.region ?_
    refine SatL.pu (RunV.move rfl) rfl ?_
    refine SatL.pu (RunV.add rfl rfl (by first | exact wrapI64 (by omega) | rfl)) rfl ?_
    refine SatL.pu (RunV.assign rfl) rfl ?_
    refine SatL.nil (SatE.thenC ?_)
    refine SatC.region ?_
    refine SatL.pu (RunV.move rfl) rfl ?_
    refine SatL.pu (RunV.sub (r := ((j - 1 : Nat) : Int)) rfl rfl (by rw [wrapI64 (by omega)]; omega)) rfl ?_
    refine SatL.pu (RunV.assign rfl) rfl ?_
    refine SatL.nil (SatE.blk_normal ?_)
    refine SatE.again ((i + 1, j - 1, swp d1 i j, B5)) ?_ (by first | omega | (dsimp only; omega)) (by repeat constructor)
    exact ⟨by omega, by omega, by rw [← hR1, reverseLoop.eq_1 i j d1, if_pos (by omega)], by rw [swp_size]; exact hn1, hsl5, hS.sel (by repeat constructor)⟩
  · (try simp only [cx, ne_eq] at h1)
    try (exfalso; (first | omega | exact h1 trivial | contradiction | (first | omega | (simp at h1; done))); done)
    all_goals
    refine SatC.exit (SatE.then_exit (SatE.then_exit (SatE.blk_exit ?_)))
    refine SatE.fin0 rfl ?_
    rw [reverseLoop, if_neg (by omega)] at hR1
    subst hR1
    exact ⟨B1, hsl1, hS.sel (by repeat constructor)⟩
/-- Two places' order: a permutation of the two; what is counted goes up by one at most. -/
theorem ord2_any (a b bs : Nat) (s : Int) (hs : 0 ≤ s ∧ s ≤ 1000) (hsw : SW lf sf lc sc bl v n) (hsl : Rw v d B) (hn : d.size = n) (ha : a < n) (hb : b < n) (hown : Own w ((bs, C 3 [.int .i64 s]) :: (bl, C 22 [v]) :: B)) :
    Ret Try.prog 99 #[.agg #[fnV lf lc, fnV sf sc], .int .i64 (a : Int), .int .i64 (b : Int), .pointer (some ⟨bs, 0, none⟩)] w fun u w' => ∃ (x y : Nat) (s' : Int), u = .tuple #[.int .i64 (x : Int), .int .i64 (y : Int)] ∧ (x = a ∧ y = b ∨ x = b ∧ y = a) ∧ s ≤ s' ∧ s' ≤ s + 1 ∧ St w [bs] [(bs, C 3 [.int .i64 s'])] w' := by
  have hS := St.init hown
  generalize hX : ((bs, C 3 [.int .i64 s]) :: (bl, C 22 [v]) :: B).map Prod.fst = X at hS
  refine Ret.enter Try.func99 Try.ntmps99 rfl rfl ?_
  simp only [argEnv, Nat.reduceAdd]
  refine SatC.seq ?_
  refine SatC.region ?_
  refine SatL.op rfl (OpW.box hS rfl rfl (by repeat constructor) ?_)
  clear hS
  intro b4 w1 _ hS
  refine SatL.pu (RunV.assign rfl) rfl ?_
  refine SatL.pu (RunV.assign rfl) rfl ?_
  refine SatL.nil (SatE.thenC ?_)
  refine SatC.seq ?_
  refine SatC.seq ?_
  refine SatC.region ?_
  first | refine SatL.pu (RunV.fieldAddrL rfl rfl rfl) rfl ?_ | refine SatL.pu (RunV.fieldAddr rfl rfl rfl) rfl ?_
  refine SatL.pu (RunV.load1 hS rfl rfl (by repeat constructor) rfl) rfl ?_
  refine SatL.pu (RunV.move rfl) rfl ?_
  refine SatL.pu (RunV.move rfl) rfl ?_
  refine SatL.op rfl (OpW.enterF (fs := []) (cap := lc) rfl rfl rfl (hsw.el) (hsw.less _ B d b a _ _ rfl rfl (by omega) (by omega) hn hsl (hS.ownT (A := (bl, C 22 [v]) :: B) (by repeat constructor))) ?_)
  rintro r2 w2 ⟨rfl, h⟩
  replace hS := St.callN hS h
  refine SatL.nil (SatE.thenC ?_)
  refine SatC.cond rfl (fun h1 => ?_) (fun h1 => ?_)
  · (try simp only [cx, ne_eq] at h1)
    try (exfalso; (first | omega | exact h1 trivial | contradiction | (first | omega | (simp at h1; done))); done)
    all_goals
    refine SatC.seq ?_
    refine SatC.region ?_
    refine SatL.pu (RunV.move rfl) rfl ?_
    first | refine SatL.pu (RunV.nil_ptr rfl) rfl ?_ | refine SatL.pu (RunV.nil_func rfl) rfl ?_ | refine SatL.pu (RunV.nil_yield rfl) rfl ?_
    refine SatL.pu (RunV.load1 hS rfl rfl (by repeat constructor) rfl) rfl ?_
    refine SatL.pu (RunV.add rfl rfl (by first | exact wrapI64 (by omega) | rfl)) rfl ?_
    first | refine SatL.pu (RunV.nil_ptr rfl) rfl ?_ | refine SatL.pu (RunV.nil_func rfl) rfl ?_ | refine SatL.pu (RunV.nil_yield rfl) rfl ?_
    refine SatL.op rfl (OpW.store hS rfl rfl (by repeat constructor) (by repeat constructor) (by repeat constructor) rfl rfl ?_)
    clear hS
    intro w3 hS
    refine SatL.nil (SatE.thenC ?_)
    refine SatC.seq ?_
    refine SatC.weak (e' := [(1, _), (2, _), (8, _), (9, _)]) (by repeat constructor) ?_
    refine SatC.region ?_
    refine SatL.pu (RunV.move rfl) rfl ?_
    refine SatL.pu (RunV.move rfl) rfl ?_
    refine SatL.pu (RunV.assign rfl) rfl ?_
    refine SatL.pu (RunV.assign rfl) rfl ?_
    refine SatL.nil (SatE.thenC ?_)
    refine SatC.ret (SatE.then_ret ?_)
    refine SatE.ret2 rfl rfl rfl ?_
    exact ⟨b, a, s + 1, rfl, .inr ⟨rfl, rfl⟩, by omega, by omega, St.roX (own_tail hown) hX.symm (hS.sel (R := ((bl, C 22 [v]) :: B) ++ [(bs, C 3 [.int .i64 (s + 1)])]) (by repeat constructor)) .here⟩
  · (try simp only [cx, ne_eq] at h1)
    try (exfalso; (first | omega | exact h1 trivial | contradiction | (first | omega | (simp at h1; done))); done)
    all_goals
    refine SatC.skip (SatE.thenC ?_)
    refine SatC.seq ?_
    refine SatC.region ?_
    refine SatL.pu (RunV.move rfl) rfl ?_
    refine SatL.pu (RunV.move rfl) rfl ?_
    refine SatL.pu (RunV.assign rfl) rfl ?_
    refine SatL.pu (RunV.assign rfl) rfl ?_
    refine SatL.nil (SatE.thenC ?_)
    refine SatC.ret ?_
    refine SatE.ret2 rfl rfl rfl ?_
    exact ⟨a, b, s, rfl, .inl ⟨rfl, rfl⟩, by omega, by omega, St.roX (own_tail hown) hX.symm (hS.sel (R := ((bl, C 22 [v]) :: B) ++ [(bs, C 3 [.int .i64 s])]) (by repeat constructor)) .here⟩
theorem med_any (a b c bs : Nat) (s : Int) (hs : 0 ≤ s ∧ s ≤ 900) (hsw : SW lf sf lc sc bl v n) (hsl : Rw v d B) (hn : d.size = n) (ha : a < n) (hb : b < n) (hc : c < n) (hown : Own w ((bs, C 3 [.int .i64 s]) :: (bl, C 22 [v]) :: B)) :
    Ret Try.prog 98 #[.agg #[fnV lf lc, fnV sf sc], .int .i64 (a : Int), .int .i64 (b : Int), .int .i64 (c : Int), .pointer (some ⟨bs, 0, none⟩)] w fun u w' => ∃ (x : Nat) (s' : Int), u = .int .i64 (x : Int) ∧ (x = a ∨ x = b ∨ x = c) ∧ s ≤ s' ∧ s' ≤ s + 3 ∧ St w [bs] [(bs, C 3 [.int .i64 s'])] w' := by
  have hS := St.init hown
  generalize hX : ((bs, C 3 [.int .i64 s]) :: (bl, C 22 [v]) :: B).map Prod.fst = X at hS
  refine Ret.enter Try.func98 Try.ntmps98 rfl rfl ?_
  simp only [argEnv, Nat.reduceAdd]
  refine SatC.seq ?_
  refine SatC.region ?_
  refine SatL.op rfl (OpW.box hS rfl rfl (by repeat constructor) ?_)
  clear hS
  intro b5 w1 _ hS
  refine SatL.pu (RunV.assign rfl) rfl ?_
  refine SatL.nil (SatE.thenC ?_)
  refine SatC.seq ?_
  refine SatC.region ?_
  refine SatL.pu (RunV.loadN hS rfl rfl (by repeat constructor) (by repeat constructor)) rfl ?_
  refine SatL.pu (RunV.move rfl) rfl ?_
  refine SatL.pu (RunV.move rfl) rfl ?_
  refine SatL.pu (RunV.move rfl) rfl ?_
  refine SatL.op rfl (OpW.enter rfl rfl rfl (rfl) (ord2_any a b bs s (by omega) hsw hsl hn ha hb (hS.ownT (A := (bs, C 3 [.int .i64 s]) :: (bl, C 22 [v]) :: B) (by repeat constructor))) ?_)
  rintro r2 w2 ⟨x1, y1, s1, rfl, hxy1, hs1, hs1', h⟩
  replace hS := hS.callT (A := [(bs, C 3 [.int .i64 s])]) (by repeat constructor) h
  refine SatL.pu (RunV.move rfl) rfl ?_
  refine SatL.pu (RunV.extract rfl rfl) rfl ?_
  refine SatL.pu (RunV.extract rfl rfl) rfl ?_
  refine SatL.pu (RunV.assign rfl) rfl ?_
  refine SatL.pu (RunV.assign rfl) rfl ?_
  refine SatL.nil (SatE.thenC ?_)
  refine SatC.seq ?_
  refine SatC.region ?_
  refine SatL.pu (RunV.loadN hS rfl rfl (by repeat constructor) (by repeat constructor)) rfl ?_
  refine SatL.pu (RunV.move rfl) rfl ?_
  refine SatL.pu (RunV.move rfl) rfl ?_
  refine SatL.pu (RunV.move rfl) rfl ?_
  refine SatL.op rfl (OpW.enter rfl rfl rfl (rfl) (ord2_any y1 c bs s1 (by omega) hsw hsl hn (by omega) hc (hS.ownT (A := (bs, C 3 [.int .i64 s1]) :: (bl, C 22 [v]) :: B) (by repeat constructor))) ?_)
  rintro r3 w3 ⟨x2, y2, s2, rfl, hxy2, hs2, hs2', h⟩
  replace hS := hS.callT (A := [(bs, C 3 [.int .i64 s1])]) (by repeat constructor) h
  refine SatL.pu (RunV.move rfl) rfl ?_
  refine SatL.pu (RunV.extract rfl rfl) rfl ?_
  refine SatL.pu (RunV.extract rfl rfl) rfl ?_
  refine SatL.pu (RunV.assign rfl) rfl ?_
  refine SatL.pu (RunV.assign rfl) rfl ?_
  refine SatL.nil (SatE.thenC ?_)
  refine SatC.seq ?_
  refine SatC.weak (e' := [(1, _), (2, _), (4, _), (5, _), (10, _)]) (by repeat constructor) ?_
  refine SatC.region ?_
  refine SatL.pu (RunV.loadN hS rfl rfl (by repeat constructor) (by repeat constructor)) rfl ?_
  refine SatL.pu (RunV.move rfl) rfl ?_
  refine SatL.pu (RunV.move rfl) rfl ?_
  refine SatL.pu (RunV.move rfl) rfl ?_
  refine SatL.op rfl (OpW.enter rfl rfl rfl (rfl) (ord2_any x1 x2 bs s2 (by omega) hsw hsl hn (by omega) (by omega) (hS.ownT (A := (bs, C 3 [.int .i64 s2]) :: (bl, C 22 [v]) :: B) (by repeat constructor))) ?_)
  rintro r4 w4 ⟨x3, y3, s3, rfl, hxy3, hs3, hs3', h⟩
  replace hS := hS.callT (A := [(bs, C 3 [.int .i64 s2])]) (by repeat constructor) h
  refine SatL.pu (RunV.move rfl) rfl ?_
  refine SatL.pu (RunV.extract rfl rfl) rfl ?_
  refine SatL.pu (RunV.extract rfl rfl) rfl ?_
  refine SatL.pu (RunV.assign rfl) rfl ?_
  refine SatL.pu (RunV.assign rfl) rfl ?_
  refine SatL.nil (SatE.thenC ?_)
  refine SatC.seq ?_
  refine SatC.region ?_
  refine SatL.pu (RunV.move rfl) rfl ?_
  refine SatL.pu (RunV.assign rfl) rfl ?_
  refine SatL.nil (SatE.thenC ?_)
  refine SatC.ret ?_
  refine SatE.ret1 rfl rfl ?_
  exact ⟨y3, s3, rfl, by omega, by omega, by omega, St.roX (own_tail hown) hX.symm (hS.sel (R := ((bl, C 22 [v]) :: B) ++ [(bs, C 3 [.int .i64 s3])]) (by repeat constructor)) .here⟩
theorem adj_any (a bs : Nat) (s : Int) (hs : 0 ≤ s ∧ s ≤ 900) (hsw : SW lf sf lc sc bl v n) (hsl : Rw v d B) (hn : d.size = n) (hn2 : n ≤ 1000) (ha : 0 < a ∧ a + 1 < n) (hown : Own w ((bs, C 3 [.int .i64 s]) :: (bl, C 22 [v]) :: B)) :
    Ret Try.prog 97 #[.agg #[fnV lf lc, fnV sf sc], .int .i64 (a : Int), .pointer (some ⟨bs, 0, none⟩)] w fun u w' => ∃ (x : Nat) (s' : Int), u = .int .i64 (x : Int) ∧ (x + 1 = a ∨ x = a ∨ x = a + 1) ∧ s ≤ s' ∧ s' ≤ s + 3 ∧ St w [bs] [(bs, C 3 [.int .i64 s'])] w' := by
  have hS := St.init hown
  generalize hX : ((bs, C 3 [.int .i64 s]) :: (bl, C 22 [v]) :: B).map Prod.fst = X at hS
  refine Ret.enter Try.func97 Try.ntmps97 rfl rfl ?_
  simp only [argEnv, Nat.reduceAdd]
  refine SatC.seq ?_
  refine SatC.region ?_
  refine SatL.op rfl (OpW.box hS rfl rfl (by repeat constructor) ?_)
  clear hS
  intro b3 w1 _ hS
  refine SatL.pu (RunV.assign rfl) rfl ?_
  refine SatL.nil (SatE.thenC ?_)
  refine SatC.seq ?_
  refine SatC.region ?_
  refine SatL.pu (RunV.loadN hS rfl rfl (by repeat constructor) (by repeat constructor)) rfl ?_
  refine SatL.pu (RunV.move rfl) rfl ?_
  refine SatL.pu (RunV.sub (r := ((a - 1 : Nat) : Int)) rfl rfl (by rw [wrapI64 (by omega)]; omega)) rfl ?_
  refine SatL.pu (RunV.move rfl) rfl ?_
  refine SatL.pu (RunV.move rfl) rfl ?_
  refine SatL.pu (RunV.add (r := ((a + 1 : Nat) : Int)) rfl rfl (by rw [wrapI64 (by omega)]; omega)) rfl ?_
  refine SatL.pu (RunV.move rfl) rfl ?_
  refine SatL.op rfl (OpW.enter rfl rfl rfl (rfl) (med_any (a - 1) a (a + 1) bs s hs hsw hsl hn (by omega) (by omega) (by omega) (hS.ownT (A := (bs, C 3 [.int .i64 s]) :: (bl, C 22 [v]) :: B) (by repeat constructor))) ?_)
  rintro r2 w2 ⟨x1, s1, rfl, hx1, hs1, hs1', h⟩
  replace hS := hS.callT (A := [(bs, C 3 [.int .i64 s])]) (by repeat constructor) h
  refine SatL.pu (RunV.assign rfl) rfl ?_
  refine SatL.nil (SatE.thenC ?_)
  refine SatC.ret ?_
  refine SatE.ret1 rfl rfl ?_
  exact ⟨x1, s1, rfl, by omega, by omega, by omega, St.roX (own_tail hown) hX.symm (hS.sel (R := ((bl, C 22 [v]) :: B) ++ [(bs, C 3 [.int .i64 s1])]) (by repeat constructor)) .here⟩
end
end Go.Proofs.Ytogohendjjgbiaa
