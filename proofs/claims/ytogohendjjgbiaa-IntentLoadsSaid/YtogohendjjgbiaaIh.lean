/- sort.pdqsort_func over own rows: they are a permutation of what they were, and sorted. -/
import Derived.Test.YtogohendjjgbiaaIg
set_option linter.unusedSimpArgs false
set_option linter.unusedVariables false
set_option maxRecDepth 100000
set_option maxHeartbeats 4000000
namespace Go.Proofs.Ytogohendjjgbiaa
open Go.RowKit Go.Sort
section
variable {bl lf sf n : Nat} {lc sc : List Value} {v : Value}
theorem pdq_any (hO : SWO firstI) (hsw : SW lf sf lc sc bl v n) (hn2 : n ≤ 1000) (m : Nat) : ∀ (a b lim : Nat) (d : Array Itn) (B : List (Nat × Obj)) (w : World), b - a ≤ m → a ≤ b → b ≤ n → lim ≤ 1000 → d.size = n → Go.Sort.Below firstI a b d → Rw v d B → Own w ((bl, C 22 [v]) :: B) →
    Ret Try.prog 64 #[.agg #[fnV lf lc, fnV sf sc], .int .i64 (a : Int), .int .i64 (b : Int), .int .i64 (lim : Int)] w fun u w' => u = .tuple #[] ∧ ∃ d' B', PermIn a b d d' ∧ SortedIn firstI a b d' ∧ Rw v d' B' ∧ St w (((bl, C 22 [v]) :: B).map Prod.fst) ((bl, C 22 [v]) :: B') w' := by
  induction m using Nat.strongRecOn with
  | ind m ih =>
  intro a b lim d B w hm hab hb hlim hn hB hsl hown
  have hS := St.init hown
  generalize hX : ((bl, C 22 [v]) :: B).map Prod.fst = X at hS ⊢
  refine Ret.enter Try.func64 Try.ntmps64 rfl rfl ?_
  simp only [argEnv, Nat.reduceAdd]
  refine SatC.seq ?_
  refine SatC.region ?_
  refine SatL.op rfl (OpW.box hS rfl rfl (by repeat constructor) ?_)
  clear hS
  intro b4 w1 _ hS
  refine SatL.nil (SatE.thenC ?_)
  refine SatC.seq ?_
  refine SatC.region ?_
  refine SatL.pu (RunV.assign rfl) rfl ?_
  refine SatL.nil (SatE.thenC ?_)
  refine SatC.seq ?_
  refine SatC.region ?_
  refine SatL.pu (RunV.assign rfl) rfl ?_
  refine SatL.nil (SatE.thenC ?_)
  refine SatC.block ?_
  refine SatC.loopK (G := Nat × Nat × Nat × Bool × Bool × Array Itn × List (Nat × Obj)) (V := fun ⟨a1, b1, lim, wb, wp, d1, B1⟩ => [(1, .int .i64 (a1 : Int)), (2, .int .i64 (b1 : Int)), (3, .int .i64 (lim : Int)), (8, .bool wb), (9, .bool wp)]) (Cn := [(4, _)]) (I := fun ⟨a1, b1, lim, wb, wp, d1, B1⟩ w' => b1 - a1 ≤ m ∧ a1 ≤ b1 ∧ b1 ≤ n ∧ lim ≤ 1000 ∧ d1.size = n ∧ Go.Sort.Below firstI a1 b1 d1 ∧ (∀ R, PermIn a1 b1 d1 R → SortedIn firstI a1 b1 R → PermIn a b d R ∧ SortedIn firstI a b R) ∧ Rw v d1 B1 ∧ St w X ((b4, C 107 [fnV lf lc, fnV sf sc]) :: (bl, C 22 [v]) :: B1) w') (μ := fun ⟨a1, b1, lim, wb, wp, d1, B1⟩ => b1 - a1) (a, b, lim, true, true, d, B) ?_ (by repeat constructor) ?_
  · exact ⟨hm, hab, hb, hlim, hn, hB, fun R h1 h2 => ⟨h1, h2⟩, hsl, hS⟩
  clear hS
  rintro ⟨a1, b1, lim, wb, wp, d1, B1⟩ w2 ⟨hm1, hab1, hb1, hlim1, hn1, hB1, hfin, hsl1, hS⟩
  clear hsl hB hn hm hab hb
  refine SatC.weak (e' := [(1, _), (2, _), (3, _), (4, _), (8, _), (9, _)]) (by repeat constructor) ?_
  refine SatC.block ?_
  refine SatC.seq ?_
  refine SatC.region ?_
  refine SatL.pu (RunV.move rfl) rfl ?_
  refine SatL.pu (RunV.move rfl) rfl ?_
  refine SatL.pu (RunV.sub (r := ((b1 - a1 : Nat) : Int)) rfl rfl (by rw [wrapI64 (by omega)]; omega)) rfl ?_
  refine SatL.pu (RunV.assign rfl) rfl ?_
  refine SatL.nil (SatE.thenC ?_)
  refine SatC.seq ?_
  refine SatC.seq ?_
  refine SatC.region ?_
  refine SatL.pu (RunV.move rfl) rfl ?_
  refine SatL.pu (RunV.leq rfl rfl) rfl ?_
  refine SatL.nil (SatE.thenC ?_)
  refine SatC.cond rfl (fun h1 => ?_) (fun h1 => ?_)
  · (try simp only [cx, ne_eq] at h1)
    try (exfalso; (first | omega | exact h1 trivial | contradiction | (first | omega | (simp at h1; done))); done)
    all_goals
    refine SatC.seq ?_
    refine SatC.region ?_
    refine SatL.pu (RunV.loadN hS rfl rfl (by repeat constructor) (by repeat constructor)) rfl ?_
    refine SatL.pu (RunV.move rfl) rfl ?_
    refine SatL.pu (RunV.move rfl) rfl ?_
    refine SatL.op rfl (OpW.enter rfl rfl rfl (rfl) (ins_any a1 b1 hsw hsl1 hn1 (by omega) hn2 (by omega) (hS.ownT (A := (bl, C 22 [v]) :: B1) (by repeat constructor))) ?_)
    rintro r3 w3 ⟨B2, hsl2, h⟩
    replace hS := hS.callT (A := (bl, C 22 [v]) :: B1) (by repeat constructor) h
    refine SatL.nil (SatE.thenC ?_)
    refine SatC.ret (SatE.then_ret (SatE.blk_ret (SatE.then_ret (SatE.blk_ret ?_))))
    refine SatE.ret0 rfl ?_
    have hi := insertionSort_holds (lt := firstI) hO d1 a1 b1 hab1 (by omega)
    obtain ⟨q1, q2⟩ := hfin _ hi.1 hi.2
    exact ⟨rfl, _, B2, q1, q2, hsl2, hS.sel (by repeat constructor)⟩
  · (try simp only [cx, ne_eq] at h1)
    try (exfalso; (first | omega | exact h1 trivial | contradiction | (first | omega | (simp at h1; done))); done)
    all_goals
    refine SatC.skip (SatE.thenC ?_)
    refine SatC.seq ?_
    refine SatC.seq ?_
    refine SatC.region ?_
    refine SatL.pu (RunV.move rfl) rfl ?_
    refine SatL.pu (RunV.eql rfl rfl) rfl ?_
    refine SatL.nil (SatE.thenC ?_)
    refine SatC.cond rfl (fun h2 => ?_) (fun h2 => ?_)
    · (try simp only [cx, ne_eq] at h2)
      try (exfalso; (first | omega | exact h2 trivial | contradiction | (first | omega | (simp at h2; done))); done)
      all_goals
      refine SatC.seq ?_
      refine SatC.region ?_
      refine SatL.pu (RunV.loadN hS rfl rfl (by repeat constructor) (by repeat constructor)) rfl ?_
      refine SatL.pu (RunV.move rfl) rfl ?_
      refine SatL.pu (RunV.move rfl) rfl ?_
      refine SatL.op rfl (OpW.enter rfl rfl rfl (rfl) (heap_any a1 b1 hsw hsl1 hn1 (by omega) (by omega) hn2 (hS.ownT (A := (bl, C 22 [v]) :: B1) (by repeat constructor))) ?_)
      rintro r3 w3 ⟨B2, hsl2, h⟩
      replace hS := hS.callT (A := (bl, C 22 [v]) :: B1) (by repeat constructor) h
      refine SatL.nil (SatE.thenC ?_)
      refine SatC.ret (SatE.then_ret (SatE.blk_ret (SatE.then_ret (SatE.blk_ret ?_))))
      refine SatE.ret0 rfl ?_
      have hi := heapSort_holds (lt := firstI) hO d1 a1 b1 hab1 (by omega)
      obtain ⟨q1, q2⟩ := hfin _ hi.1 hi.2
      exact ⟨rfl, _, B2, q1, q2, hsl2, hS.sel (by repeat constructor)⟩
    · (try simp only [cx, ne_eq] at h2)
      try (exfalso; (first | omega | exact h2 trivial | contradiction | (first | omega | (simp at h2; done))); done)
      all_goals
      refine SatC.skip (SatE.thenC ?_)
      refine SatC.merge (G := Nat × Array Itn × List (Nat × Obj)) (V := fun ⟨lim, d2, B2⟩ => [(3, .int .i64 (lim : Int))]) (Cn := [(1, _), (2, _), (4, _), (8, _), (9, _), (10, _)]) (I := fun ⟨lim, d2, B2⟩ w' => lim ≤ 1000 ∧ PermIn a1 b1 d1 d2 ∧ Rw v d2 B2 ∧ St w X ((b4, C 107 [fnV lf lc, fnV sf sc]) :: (bl, C 22 [v]) :: B2) w') (by repeat constructor) ?_ ?_
      · skip
        refine SatC.seq ?_
        refine SatC.region ?_
        refine SatL.pu (RunV.move rfl) rfl ?_
        refine SatL.pu (RunV.not rfl) rfl ?_
        refine SatL.nil (SatE.thenC ?_)
        refine SatC.cond rfl (fun h3 => ?_) (fun h3 => ?_)
        · (try simp only [cx, ne_eq] at h3)
          try (exfalso; (first | omega | exact h3 trivial | contradiction | (first | omega | (simp at h3; done))); done)
          all_goals
          refine SatC.seq ?_
          refine SatC.region ?_
          refine SatL.pu (RunV.loadN hS rfl rfl (by repeat constructor) (by repeat constructor)) rfl ?_
          refine SatL.pu (RunV.move rfl) rfl ?_
          refine SatL.pu (RunV.move rfl) rfl ?_
          refine SatL.op rfl (OpW.enter rfl rfl rfl (rfl) (break_any a1 b1 hsw hsl1 hn1 (by omega) (by omega) hn2 (hS.ownT (A := (bl, C 22 [v]) :: B1) (by repeat constructor))) ?_)
          rintro r3 w3 ⟨d2, B2, hp2, hsl2, h⟩
          replace hS := hS.callT (A := (bl, C 22 [v]) :: B1) (by repeat constructor) h
          refine SatL.nil (SatE.thenC ?_)
          refine SatC.weak (e' := [(1, _), (2, _), (3, _), (4, _), (8, _), (9, _), (10, _)]) (by repeat constructor) ?_
          refine SatC.region ?_
          refine SatL.pu (RunV.move rfl) rfl ?_
          refine SatL.pu (RunV.sub (r := ((lim - 1 : Nat) : Int)) rfl rfl (by rw [wrapI64 (by omega)]; omega)) rfl ?_
          refine SatL.pu (RunV.assign rfl) rfl ?_
          refine SatL.nil ?_
          refine SatE.met ((lim - 1, d2, B2)) ?_ (by repeat constructor)
          exact ⟨by omega, hp2, hsl2, hS.sel (by repeat constructor)⟩
        · (try simp only [cx, ne_eq] at h3)
          try (exfalso; (first | omega | exact h3 trivial | contradiction | (first | omega | (simp at h3; done))); done)
          all_goals
          refine SatC.skip ?_
          refine SatE.met ((lim, d1, B1)) ?_ (by repeat constructor)
          exact ⟨by omega, permIn_refl _ _ _, hsl1, hS⟩
      · clear hS
        rintro ⟨lim, d2, B2⟩ w63 ⟨hlim2, hp2, hsl2, hS⟩
        have hn3 : d2.size = n := by rw [hp2.1]; exact hn1
        refine SatC.weak (e' := [(1, _), (2, _), (3, _), (4, _), (8, _), (9, _), (10, _)]) (by repeat constructor) ?_
        refine SatC.seq ?_
        refine SatC.region ?_
        refine SatL.pu (RunV.loadN hS rfl rfl (by repeat constructor) (by repeat constructor)) rfl ?_
        refine SatL.pu (RunV.move rfl) rfl ?_
        refine SatL.pu (RunV.move rfl) rfl ?_
        refine SatL.op rfl (OpW.enter rfl rfl rfl (rfl) (choose_any a1 b1 hsw hsl2 hn3 (by omega) (by omega) hn2 (hS.ownT (A := (bl, C 22 [v]) :: B2) (by repeat constructor))) ?_)
        rintro r64 w64 ⟨pv, hi, rfl, hpv1, hpv2, h⟩
        replace hS := St.callN hS h
        refine SatL.pu (RunV.move rfl) rfl ?_
        refine SatL.pu (RunV.extract rfl rfl) rfl ?_
        refine SatL.pu (RunV.extract rfl rfl) rfl ?_
        refine SatL.pu (RunV.assign rfl) rfl ?_
        refine SatL.pu (RunV.assign rfl) rfl ?_
        refine SatL.nil (SatE.thenC ?_)
        refine SatC.merge (G := Nat × Int × Array Itn × List (Nat × Obj)) (V := fun ⟨pv, hi, d3, B3⟩ => [(11, .int .i64 (pv : Int)), (12, .int .i64 hi)]) (Cn := [(1, _), (2, _), (3, _), (4, _), (8, _), (9, _), (10, _)]) (I := fun ⟨pv, hi, d3, B3⟩ w' => a1 ≤ pv ∧ pv < b1 ∧ PermIn a1 b1 d1 d3 ∧ Rw v d3 B3 ∧ St w X ((b4, C 107 [fnV lf lc, fnV sf sc]) :: (bl, C 22 [v]) :: B3) w') (by repeat constructor) ?_ ?_
        · skip
          refine SatC.seq ?_
          refine SatC.region ?_
          refine SatL.pu (RunV.move rfl) rfl ?_
          refine SatL.pu (RunV.eql rfl rfl) rfl ?_
          refine SatL.nil (SatE.thenC ?_)
          refine SatC.cond rfl (fun h3 => ?_) (fun h3 => ?_)
          · (try simp only [cx, ne_eq] at h3)
            try (exfalso; (first | omega | exact h3 trivial | contradiction | (first | omega | (simp at h3; done))); done)
            all_goals
            refine SatC.seq ?_
            refine SatC.region ?_
            refine SatL.pu (RunV.loadN hS rfl rfl (by repeat constructor) (by repeat constructor)) rfl ?_
            refine SatL.pu (RunV.move rfl) rfl ?_
            refine SatL.pu (RunV.move rfl) rfl ?_
            refine SatL.op rfl (OpW.enter rfl rfl rfl (rfl) (rev_any a1 b1 hsw hsl2 hn3 (by omega) (by omega) hn2 (hS.ownT (A := (bl, C 22 [v]) :: B2) (by repeat constructor))) ?_)
            rintro r65 w65 ⟨B3, hsl3, h⟩
            replace hS := hS.callT (A := (bl, C 22 [v]) :: B2) (by repeat constructor) h
            refine SatL.nil (SatE.thenC ?_)
            refine SatC.seq ?_
            refine SatC.weak (e' := [(1, _), (2, _), (3, _), (4, _), (8, _), (9, _), (10, _), (11, _)]) (by repeat constructor) ?_
            refine SatC.region ?_
            refine SatL.pu (RunV.move rfl) rfl ?_
            refine SatL.pu (RunV.sub rfl rfl (by first | exact wrapI64 (by omega) | rfl)) rfl ?_
            refine SatL.pu (RunV.move rfl) rfl ?_
            refine SatL.pu (RunV.move rfl) rfl ?_
            refine SatL.pu (RunV.sub rfl rfl (by first | exact wrapI64 (by omega) | rfl)) rfl ?_
            refine SatL.pu (RunV.sub (r := ((b1 - 1 - (pv - a1) : Nat) : Int)) rfl rfl (by rw [wrapI64 (by omega)]; omega)) rfl ?_
            refine SatL.pu (RunV.assign rfl) rfl ?_
            refine SatL.nil (SatE.thenC ?_)
            refine SatC.region ?_
            refine SatL.pu (RunV.assign rfl) rfl ?_
            refine SatL.nil ?_
            refine SatE.met ((b1 - 1 - (pv - a1), 1, reverseRange d2 a1 b1, B3)) ?_ (by repeat constructor)
            exact ⟨by omega, by omega, permIn_trans _ _ _ _ _ hp2 (reverseRange_holds d2 a1 b1 hab1 (by omega)), hsl3, hS.sel (by repeat constructor)⟩
          · (try simp only [cx, ne_eq] at h3)
            try (exfalso; (first | omega | exact h3 trivial | contradiction | (first | omega | (simp at h3; done))); done)
            all_goals
            refine SatC.skip ?_
            refine SatE.met ((pv, hi, d2, B2)) ?_ (by repeat constructor)
            exact ⟨hpv1, hpv2, hp2, hsl2, hS⟩
        · clear hS
          rintro ⟨pv, hi, d3, B3⟩ w125 ⟨hpv1, hpv2, hp3, hsl3, hS⟩
          have hn4 : d3.size = n := by rw [hp3.1]; exact hn1
          have hB3 := hB1.perm (by omega) hp3
          refine SatC.weak (e' := [(1, _), (2, _), (3, _), (4, _), (8, _), (9, _), (10, _), (11, _), (12, _)]) (by repeat constructor) ?_
          refine SatC.merge (G := Array Itn × List (Nat × Obj)) (V := fun ⟨d4, B4⟩ => []) (Cn := [(1, _), (2, _), (3, _), (4, _), (8, _), (9, _), (10, _), (11, _)]) (I := fun ⟨d4, B4⟩ w' => PermIn a1 b1 d1 d4 ∧ Rw v d4 B4 ∧ St w X ((b4, C 107 [fnV lf lc, fnV sf sc]) :: (bl, C 22 [v]) :: B4) w') (by repeat constructor) ?_ ?_
          · skip
            refine SatC.seq ?_
            refine SatC.region ?_
            refine SatL.pu (RunV.move rfl) rfl ?_
            refine SatL.pu (RunV.move rfl) rfl ?_
            refine SatL.guard rfl rfl rfl (fun h3 => ?_) (fun h3 => ?_)
            · (try simp only [cx, ne_eq] at h3)
              try (exfalso; (first | omega | exact h3 trivial | contradiction | (first | omega | (simp at h3; done))); done)
              all_goals
              refine SatL.pu (RunV.move rfl) rfl ?_
              refine SatL.pu (RunV.pick_t rfl rfl) rfl ?_
              refine SatL.pu (RunV.move rfl) rfl ?_
              refine SatL.guard rfl rfl rfl (fun h4 => ?_) (fun h4 => ?_)
              · (try simp only [cx, ne_eq] at h4)
                try (exfalso; (first | omega | exact h4 trivial | contradiction | (first | omega | (simp at h4; done))); done)
                all_goals
                refine SatL.pu (RunV.move rfl) rfl ?_
                refine SatL.guard_y rfl rfl ?_
                refine SatL.pu (RunV.eql rfl rfl) rfl ?_
                refine SatL.pu (RunV.pick_t rfl rfl) rfl ?_
                refine SatL.nil (SatE.thenC ?_)
                refine SatC.cond rfl (fun h5 => ?_) (fun h5 => ?_)
                · (try simp only [cx, ne_eq] at h5)
                  try (exfalso; (first | omega | exact h5 trivial | contradiction | (first | omega | (simp at h5; done))); done)
                  all_goals
                  refine SatC.seq ?_
                  refine SatC.region ?_
                  refine SatL.pu (RunV.loadN hS rfl rfl (by repeat constructor) (by repeat constructor)) rfl ?_
                  refine SatL.pu (RunV.move rfl) rfl ?_
                  refine SatL.pu (RunV.move rfl) rfl ?_
                  refine SatL.op rfl (OpW.enter rfl rfl rfl (rfl) (pins_any a1 b1 hsw hsl3 hn4 (by omega) (by omega) hn2 (hS.ownT (A := (bl, C 22 [v]) :: B3) (by repeat constructor))) ?_)
                  rintro r126 w126 ⟨B4, rfl, hsl4, h⟩
                  replace hS := hS.callT (A := (bl, C 22 [v]) :: B3) (by repeat constructor) h
                  have hpi := partialInsertionSort_holds (lt := firstI) hO d3 a1 b1 (by omega) (by omega) hB3
                  refine SatL.nil (SatE.thenC ?_)
                  refine SatC.weak (e' := [(1, _), (2, _), (3, _), (4, _), (8, _), (9, _), (10, _), (11, _), (72, _)]) (by repeat constructor) ?_
                  refine SatC.cond rfl (fun h6 => ?_) (fun h6 => ?_)
                  · (try simp only [cx, ne_eq] at h6)
                    try (exfalso; (first | omega | exact h6 trivial | contradiction | (first | omega | (simp at h6; done))); done)
                    all_goals
                    refine SatC.ret (SatE.then_ret (SatE.blk_ret (SatE.then_ret (SatE.blk_ret ?_))))
                    refine SatE.ret0 rfl ?_
                    obtain ⟨q1, q2⟩ := hfin _ (permIn_trans _ _ _ _ _ hp3 hpi.1) (hpi.2 (by assumption))
                    exact ⟨rfl, _, B4, q1, q2, hsl4, hS.sel (by repeat constructor)⟩
                  · (try simp only [cx, ne_eq] at h6)
                    try (exfalso; (first | omega | exact h6 trivial | contradiction | (first | omega | (simp at h6; done))); done)
                    all_goals
                    refine SatC.skip ?_
                    refine SatE.met (((partialInsertionSort firstI d3 a1 b1).1, B4)) ?_ (by repeat constructor)
                    exact ⟨permIn_trans _ _ _ _ _ hp3 hpi.1, hsl4, hS.sel (by repeat constructor)⟩
                · (try simp only [cx, ne_eq] at h5)
                  try (exfalso; (first | omega | exact h5 trivial | contradiction | (first | omega | (simp at h5; done))); done)
                  all_goals
                  refine SatC.skip ?_
                  refine SatE.met ((d3, B3)) ?_ (by repeat constructor)
                  exact ⟨hp3, hsl3, hS⟩
              · (try simp only [cx, ne_eq] at h4)
                try (exfalso; (first | omega | exact h4 trivial | contradiction | (first | omega | (simp at h4; done))); done)
                all_goals
                refine SatL.guard_n rfl rfl rfl rfl ?_
                refine SatL.pu (RunV.pick_f rfl rfl) rfl ?_
                refine SatL.nil (SatE.thenC ?_)
                refine SatC.cond_f rfl ?_
                refine SatC.skip ?_
                refine SatE.met ((d3, B3)) ?_ (by repeat constructor)
                exact ⟨hp3, hsl3, hS⟩
            · (try simp only [cx, ne_eq] at h3)
              try (exfalso; (first | omega | exact h3 trivial | contradiction | (first | omega | (simp at h3; done))); done)
              all_goals
              refine SatL.pu (RunV.pick_f rfl rfl) rfl ?_
              refine SatL.pu (RunV.move rfl) rfl ?_
              refine SatL.guard_n rfl rfl rfl rfl ?_
              refine SatL.guard_n rfl rfl rfl rfl ?_
              refine SatL.pu (RunV.pick_f rfl rfl) rfl ?_
              refine SatL.nil (SatE.thenC ?_)
              refine SatC.cond_f rfl ?_
              refine SatC.skip ?_
              refine SatE.met ((d3, B3)) ?_ (by repeat constructor)
              exact ⟨hp3, hsl3, hS⟩
          · clear hS
            rintro ⟨d4, B4⟩ w186 ⟨hp4, hsl4, hS⟩
            have hn5 : d4.size = n := by rw [hp4.1]; exact hn1
            have hB4 := hB1.perm (by omega) hp4
            refine SatC.weak (e' := [(1, _), (2, _), (3, _), (4, _), (8, _), (9, _), (10, _), (11, _)]) (by repeat constructor) ?_
            refine SatC.seq ?_
            refine SatC.seq ?_
            refine SatC.region ?_
            refine SatL.pu (RunV.move rfl) rfl ?_
            refine SatL.pu (RunV.gtr rfl rfl) rfl ?_
            refine SatL.pu (RunV.move rfl) rfl ?_
            refine SatL.guard rfl rfl rfl (fun h3 => ?_) (fun h3 => ?_)
            · (try simp only [cx, ne_eq] at h3)
              try (exfalso; (first | omega | exact h3 trivial | contradiction | (first | omega | (simp at h3; done))); done)
              all_goals
              first | refine SatL.pu (RunV.fieldAddrL rfl rfl rfl) rfl ?_ | refine SatL.pu (RunV.fieldAddr rfl rfl rfl) rfl ?_
              refine SatL.guard_y rfl rfl ?_
              refine SatL.pu (RunV.load1 hS rfl rfl (by repeat constructor) rfl) rfl ?_
              refine SatL.guard_y rfl rfl ?_
              refine SatL.pu (RunV.move rfl) rfl ?_
              refine SatL.guard_y rfl rfl ?_
              refine SatL.pu (RunV.sub rfl rfl (by first | exact wrapI64 (by omega) | rfl)) rfl ?_
              refine SatL.guard_y rfl rfl ?_
              refine SatL.pu (RunV.move rfl) rfl ?_
              refine SatL.guard_y rfl rfl ?_
              refine SatL.op rfl (OpW.enterF (fs := []) (cap := lc) rfl rfl rfl (hsw.el) (hsw.less _ B4 d4 (a1 - 1) pv ((a1 : Int) - 1) _ (by omega) rfl (by omega) (by omega) hn5 hsl4 (hS.ownT (A := (bl, C 22 [v]) :: B4) (by repeat constructor))) ?_)
              rintro r187 w187 ⟨rfl, h⟩
              replace hS := St.callN hS h
              refine SatL.guard_y rfl rfl ?_
              refine SatL.pu (RunV.not rfl) rfl ?_
              refine SatL.pu (RunV.pick_t rfl rfl) rfl ?_
              refine SatL.nil (SatE.thenC ?_)
              refine SatC.cond rfl (fun h4 => ?_) (fun h4 => ?_)
              · (try simp only [cx, ne_eq] at h4)
                try (exfalso; (first | omega | exact h4 trivial | contradiction | (first | omega | (simp at h4; done))); done)
                all_goals
                refine SatC.seq ?_
                refine SatC.weak (e' := [(1, _), (2, _), (3, _), (4, _), (8, _), (9, _), (11, _)]) (by repeat constructor) ?_
                obtain ⟨mid, d5, hx⟩ : ∃ mid d5, partitionEqual firstI d4 a1 b1 pv = (mid, d5) := ⟨_, _, rfl⟩
                obtain ⟨g1, g2, g3, g4, g5⟩ := round_eq hO (partitionEqual_holds firstI) (by omega) hpv1 hpv2 (by omega) hB4 (by assumption) hx
                refine SatC.region ?_
                refine SatL.pu (RunV.loadN hS rfl rfl (by repeat constructor) (by repeat constructor)) rfl ?_
                refine SatL.pu (RunV.move rfl) rfl ?_
                refine SatL.pu (RunV.move rfl) rfl ?_
                refine SatL.pu (RunV.move rfl) rfl ?_
                refine SatL.op rfl (OpW.enter rfl rfl rfl (rfl) (parteq_any a1 b1 pv hsw hsl4 hn5 (by omega) (by omega) hn2 (by omega) (hS.ownT (A := (bl, C 22 [v]) :: B4) (by repeat constructor))) ?_)
                rintro r188 w188 ⟨B5, rfl, hsl5, h⟩
                replace hS := hS.callT (A := (bl, C 22 [v]) :: B4) (by repeat constructor) h
                rw [hx] at hsl5 ⊢
                refine SatL.pu (RunV.assign rfl) rfl ?_
                refine SatL.nil (SatE.thenC ?_)
                refine SatC.seq ?_
                refine SatC.region ?_
                refine SatL.pu (RunV.move rfl) rfl ?_
                refine SatL.pu (RunV.assign rfl) rfl ?_
                refine SatL.nil (SatE.thenC ?_)
                refine SatC.exit (SatE.then_exit (SatE.blk_exit ?_))
                refine SatE.again ((mid, b1, lim, wb, wp, d5, B5)) ?_ (by first | omega | (dsimp only; omega)) (by repeat constructor)
                exact ⟨by omega, g2, hb1, hlim2, by omega, g4, fun R h1 h2 => by
                  obtain ⟨q1, q2⟩ := g5 R h1 h2
                  exact hfin R (permIn_trans _ _ _ _ _ hp4 q1) q2, hsl5, hS.sel (by repeat constructor)⟩
              · (try simp only [cx, ne_eq] at h4)
                try (exfalso; (first | omega | exact h4 trivial | contradiction | (first | omega | (simp at h4; done))); done)
                all_goals
                refine SatC.skip (SatE.thenC ?_)
                refine SatC.seq ?_
                obtain ⟨mid, ap, d5, hx⟩ : ∃ mid ap d5, partition firstI d4 a1 b1 pv = (mid, ap, d5) := ⟨_, _, _, rfl⟩
                obtain ⟨g1, g2, g3, g4, g5, g6, g7⟩ := round_part hO (partition_holds firstI) hpv1 hpv2 (by omega) hB4 hx
                refine SatC.region ?_
                refine SatL.pu (RunV.loadN hS rfl rfl (by repeat constructor) (by repeat constructor)) rfl ?_
                refine SatL.pu (RunV.move rfl) rfl ?_
                refine SatL.pu (RunV.move rfl) rfl ?_
                refine SatL.pu (RunV.move rfl) rfl ?_
                refine SatL.op rfl (OpW.enter rfl rfl rfl (rfl) (part_any a1 b1 pv hsw hsl4 hn5 (by omega) (by omega) hn2 (by omega) (hS.ownT (A := (bl, C 22 [v]) :: B4) (by repeat constructor))) ?_)
                rintro r188 w188 ⟨B5, rfl, hsl5, h⟩
                replace hS := hS.callT (A := (bl, C 22 [v]) :: B4) (by repeat constructor) h
                rw [hx] at hsl5 ⊢
                refine SatL.pu (RunV.move rfl) rfl ?_
                refine SatL.pu (RunV.extract rfl rfl) rfl ?_
                refine SatL.pu (RunV.extract rfl rfl) rfl ?_
                refine SatL.pu (RunV.assign rfl) rfl ?_
                refine SatL.pu (RunV.assign rfl) rfl ?_
                refine SatL.nil (SatE.thenC ?_)
                refine SatC.seq ?_
                refine SatC.weak (e' := [(1, _), (2, _), (3, _), (4, _), (8, _), (9, _), (10, _), (14, _), (15, _)]) (by repeat constructor) ?_
                refine SatC.region ?_
                refine SatL.pu (RunV.move rfl) rfl ?_
                refine SatL.pu (RunV.assign rfl) rfl ?_
                refine SatL.nil (SatE.thenC ?_)
                refine SatC.seq ?_
                refine SatC.region ?_
                refine SatL.pu (RunV.move rfl) rfl ?_
                refine SatL.pu (RunV.move rfl) rfl ?_
                refine SatL.pu (RunV.sub (r := ((mid - a1 : Nat) : Int)) rfl rfl (by rw [wrapI64 (by omega)]; omega)) rfl ?_
                refine SatL.pu (RunV.move rfl) rfl ?_
                refine SatL.pu (RunV.move rfl) rfl ?_
                refine SatL.pu (RunV.sub (r := ((b1 - mid : Nat) : Int)) rfl rfl (by rw [wrapI64 (by omega)]; omega)) rfl ?_
                refine SatL.pu (RunV.assign rfl) rfl ?_
                refine SatL.pu (RunV.assign rfl) rfl ?_
                refine SatL.nil (SatE.thenC ?_)
                refine SatC.seq ?_
                refine SatC.region ?_
                refine SatL.pu (RunV.move rfl) rfl ?_
                refine SatL.pu (RunV.quo (r := (((b1 - a1) / 8 : Nat) : Int)) rfl rfl (by decide) (by rw [show ((b1 - a1 : Nat) : Int).tdiv 8 = (((b1 - a1) / 8 : Nat) : Int) from rfl, wrapI64 (by omega)])) rfl ?_
                refine SatL.pu (RunV.assign rfl) rfl ?_
                refine SatL.nil (SatE.thenC ?_)
                refine SatC.seq ?_
                refine SatC.region ?_
                refine SatL.pu (RunV.move rfl) rfl ?_
                refine SatL.pu (RunV.move rfl) rfl ?_
                refine SatL.pu (RunV.lss rfl rfl) rfl ?_
                refine SatL.nil (SatE.thenC ?_)
                refine SatC.weak (e' := [(1, _), (2, _), (3, _), (4, _), (8, _), (9, _), (14, _), (16, _), (17, _), (18, _), (109, _)]) (by repeat constructor) ?_
                refine SatC.cond rfl (fun h5 => ?_) (fun h5 => ?_)
                · (try simp only [cx, ne_eq] at h5)
                  try (exfalso; (first | omega | exact h5 trivial | contradiction | (first | omega | (simp at h5; done))); done)
                  all_goals
                  refine SatC.seq ?_
                  refine SatC.region ?_
                  refine SatL.pu (RunV.move rfl) rfl ?_
                  refine SatL.pu (RunV.move rfl) rfl ?_
                  refine SatL.pu (RunV.geq rfl rfl) rfl ?_
                  refine SatL.pu (RunV.assign rfl) rfl ?_
                  refine SatL.nil (SatE.thenC ?_)
                  refine SatC.seq ?_
                  refine SatC.region ?_
                  refine SatL.pu (RunV.loadN hS rfl rfl (by repeat constructor) (by repeat constructor)) rfl ?_
                  refine SatL.pu (RunV.move rfl) rfl ?_
                  refine SatL.pu (RunV.move rfl) rfl ?_
                  refine SatL.pu (RunV.move rfl) rfl ?_
                  refine SatL.op rfl (OpW.enter rfl rfl rfl (rfl) (ih (mid - a1) (by omega) a1 mid lim d5 B5 _ (Nat.le_refl _) g1 (by omega) hlim2 (by omega) g4 hsl5 (hS.ownT (A := (bl, C 22 [v]) :: B5) (by repeat constructor))) ?_)
                  rintro r189 w189 ⟨-, d6, B6, e1, e2, hsl6, h⟩
                  replace hS := hS.callT (A := (bl, C 22 [v]) :: B5) (by repeat constructor) h
                  obtain ⟨e3, e4⟩ := g6 _ e1 e2
                  have e5 := e1.1
                  refine SatL.nil (SatE.thenC ?_)
                  refine SatC.weak (e' := [(1, _), (2, _), (3, _), (4, _), (8, _), (9, _), (14, _)]) (by repeat constructor) ?_
                  refine SatC.region ?_
                  refine SatL.pu (RunV.move rfl) rfl ?_
                  refine SatL.pu (RunV.add rfl rfl (by first | exact wrapI64 (by omega) | rfl)) rfl ?_
                  refine SatL.pu (RunV.assign rfl) rfl ?_
                  refine SatL.nil (SatE.blk_normal ?_)
                  refine SatE.again ((mid + 1, b1, lim, _, ap, d6, B6)) ?_ (by first | omega | (dsimp only; omega)) (by repeat constructor)
                  exact ⟨by omega, by omega, hb1, hlim2, by omega, e3, fun R h1 h2 => by
                    obtain ⟨q1, q2⟩ := e4 R h1 h2
                    exact hfin R (permIn_trans _ _ _ _ _ hp4 q1) q2, hsl6, hS.sel (by repeat constructor)⟩
                · (try simp only [cx, ne_eq] at h5)
                  try (exfalso; (first | omega | exact h5 trivial | contradiction | (first | omega | (simp at h5; done))); done)
                  all_goals
                  refine SatC.seq ?_
                  refine SatC.region ?_
                  refine SatL.pu (RunV.move rfl) rfl ?_
                  refine SatL.pu (RunV.move rfl) rfl ?_
                  refine SatL.pu (RunV.geq rfl rfl) rfl ?_
                  refine SatL.pu (RunV.assign rfl) rfl ?_
                  refine SatL.nil (SatE.thenC ?_)
                  refine SatC.seq ?_
                  refine SatC.region ?_
                  refine SatL.pu (RunV.loadN hS rfl rfl (by repeat constructor) (by repeat constructor)) rfl ?_
                  refine SatL.pu (RunV.move rfl) rfl ?_
                  refine SatL.pu (RunV.add (r := ((mid + 1 : Nat) : Int)) rfl rfl (by rw [wrapI64 (by omega)]; omega)) rfl ?_
                  refine SatL.pu (RunV.move rfl) rfl ?_
                  refine SatL.pu (RunV.move rfl) rfl ?_
                  refine SatL.op rfl (OpW.enter rfl rfl rfl (rfl) (ih (b1 - (mid + 1)) (by omega) (mid + 1) b1 lim d5 B5 _ (Nat.le_refl _) (by omega) hb1 hlim2 (by omega) g5 hsl5 (hS.ownT (A := (bl, C 22 [v]) :: B5) (by repeat constructor))) ?_)
                  rintro r189 w189 ⟨-, d6, B6, e1, e2, hsl6, h⟩
                  replace hS := hS.callT (A := (bl, C 22 [v]) :: B5) (by repeat constructor) h
                  obtain ⟨e3, e4⟩ := g7 _ e1 e2
                  have e5 := e1.1
                  refine SatL.nil (SatE.thenC ?_)
                  refine SatC.weak (e' := [(1, _), (2, _), (3, _), (4, _), (8, _), (9, _), (14, _)]) (by repeat constructor) ?_
                  refine SatC.region ?_
                  refine SatL.pu (RunV.move rfl) rfl ?_
                  refine SatL.pu (RunV.assign rfl) rfl ?_
                  refine SatL.nil (SatE.blk_normal ?_)
                  refine SatE.again ((a1, mid, lim, _, ap, d6, B6)) ?_ (by first | omega | (dsimp only; omega)) (by repeat constructor)
                  exact ⟨by omega, g1, by omega, hlim2, by omega, e3, fun R h1 h2 => by
                    obtain ⟨q1, q2⟩ := e4 R h1 h2
                    exact hfin R (permIn_trans _ _ _ _ _ hp4 q1) q2, hsl6, hS.sel (by repeat constructor)⟩
            · (try simp only [cx, ne_eq] at h3)
              try (exfalso; (first | omega | exact h3 trivial | contradiction | (first | omega | (simp at h3; done))); done)
              all_goals
              refine SatL.guard_n rfl rfl rfl rfl ?_
              refine SatL.guard_n rfl rfl rfl rfl ?_
              refine SatL.guard_n rfl rfl rfl rfl ?_
              refine SatL.guard_n rfl rfl rfl rfl ?_
              refine SatL.guard_n rfl rfl rfl rfl ?_
              refine SatL.guard_n rfl rfl rfl rfl ?_
              refine SatL.pu (RunV.pick_f rfl rfl) rfl ?_
              refine SatL.nil (SatE.thenC ?_)
              refine SatC.cond_f rfl ?_
              refine SatC.skip (SatE.thenC ?_)
              refine SatC.seq ?_
              obtain ⟨mid, ap, d5, hx⟩ : ∃ mid ap d5, partition firstI d4 a1 b1 pv = (mid, ap, d5) := ⟨_, _, _, rfl⟩
              obtain ⟨g1, g2, g3, g4, g5, g6, g7⟩ := round_part hO (partition_holds firstI) hpv1 hpv2 (by omega) hB4 hx
              refine SatC.region ?_
              refine SatL.pu (RunV.loadN hS rfl rfl (by repeat constructor) (by repeat constructor)) rfl ?_
              refine SatL.pu (RunV.move rfl) rfl ?_
              refine SatL.pu (RunV.move rfl) rfl ?_
              refine SatL.pu (RunV.move rfl) rfl ?_
              refine SatL.op rfl (OpW.enter rfl rfl rfl (rfl) (part_any a1 b1 pv hsw hsl4 hn5 (by omega) (by omega) hn2 (by omega) (hS.ownT (A := (bl, C 22 [v]) :: B4) (by repeat constructor))) ?_)
              rintro r187 w187 ⟨B5, rfl, hsl5, h⟩
              replace hS := hS.callT (A := (bl, C 22 [v]) :: B4) (by repeat constructor) h
              rw [hx] at hsl5 ⊢
              refine SatL.pu (RunV.move rfl) rfl ?_
              refine SatL.pu (RunV.extract rfl rfl) rfl ?_
              refine SatL.pu (RunV.extract rfl rfl) rfl ?_
              refine SatL.pu (RunV.assign rfl) rfl ?_
              refine SatL.pu (RunV.assign rfl) rfl ?_
              refine SatL.nil (SatE.thenC ?_)
              refine SatC.seq ?_
              refine SatC.weak (e' := [(1, _), (2, _), (3, _), (4, _), (8, _), (9, _), (10, _), (14, _), (15, _)]) (by repeat constructor) ?_
              refine SatC.region ?_
              refine SatL.pu (RunV.move rfl) rfl ?_
              refine SatL.pu (RunV.assign rfl) rfl ?_
              refine SatL.nil (SatE.thenC ?_)
              refine SatC.seq ?_
              refine SatC.region ?_
              refine SatL.pu (RunV.move rfl) rfl ?_
              refine SatL.pu (RunV.move rfl) rfl ?_
              refine SatL.pu (RunV.sub (r := ((mid - a1 : Nat) : Int)) rfl rfl (by rw [wrapI64 (by omega)]; omega)) rfl ?_
              refine SatL.pu (RunV.move rfl) rfl ?_
              refine SatL.pu (RunV.move rfl) rfl ?_
              refine SatL.pu (RunV.sub (r := ((b1 - mid : Nat) : Int)) rfl rfl (by rw [wrapI64 (by omega)]; omega)) rfl ?_
              refine SatL.pu (RunV.assign rfl) rfl ?_
              refine SatL.pu (RunV.assign rfl) rfl ?_
              refine SatL.nil (SatE.thenC ?_)
              refine SatC.seq ?_
              refine SatC.region ?_
              refine SatL.pu (RunV.move rfl) rfl ?_
              refine SatL.pu (RunV.quo (r := (((b1 - a1) / 8 : Nat) : Int)) rfl rfl (by decide) (by rw [show ((b1 - a1 : Nat) : Int).tdiv 8 = (((b1 - a1) / 8 : Nat) : Int) from rfl, wrapI64 (by omega)])) rfl ?_
              refine SatL.pu (RunV.assign rfl) rfl ?_
              refine SatL.nil (SatE.thenC ?_)
              refine SatC.seq ?_
              refine SatC.region ?_
              refine SatL.pu (RunV.move rfl) rfl ?_
              refine SatL.pu (RunV.move rfl) rfl ?_
              refine SatL.pu (RunV.lss rfl rfl) rfl ?_
              refine SatL.nil (SatE.thenC ?_)
              refine SatC.weak (e' := [(1, _), (2, _), (3, _), (4, _), (8, _), (9, _), (14, _), (16, _), (17, _), (18, _), (109, _)]) (by repeat constructor) ?_
              refine SatC.cond rfl (fun h4 => ?_) (fun h4 => ?_)
              · (try simp only [cx, ne_eq] at h4)
                try (exfalso; (first | omega | exact h4 trivial | contradiction | (first | omega | (simp at h4; done))); done)
                all_goals
                refine SatC.seq ?_
                refine SatC.region ?_
                refine SatL.pu (RunV.move rfl) rfl ?_
                refine SatL.pu (RunV.move rfl) rfl ?_
                refine SatL.pu (RunV.geq rfl rfl) rfl ?_
                refine SatL.pu (RunV.assign rfl) rfl ?_
                refine SatL.nil (SatE.thenC ?_)
                refine SatC.seq ?_
                refine SatC.region ?_
                refine SatL.pu (RunV.loadN hS rfl rfl (by repeat constructor) (by repeat constructor)) rfl ?_
                refine SatL.pu (RunV.move rfl) rfl ?_
                refine SatL.pu (RunV.move rfl) rfl ?_
                refine SatL.pu (RunV.move rfl) rfl ?_
                refine SatL.op rfl (OpW.enter rfl rfl rfl (rfl) (ih (mid - a1) (by omega) a1 mid lim d5 B5 _ (Nat.le_refl _) g1 (by omega) hlim2 (by omega) g4 hsl5 (hS.ownT (A := (bl, C 22 [v]) :: B5) (by repeat constructor))) ?_)
                rintro r188 w188 ⟨-, d6, B6, e1, e2, hsl6, h⟩
                replace hS := hS.callT (A := (bl, C 22 [v]) :: B5) (by repeat constructor) h
                obtain ⟨e3, e4⟩ := g6 _ e1 e2
                have e5 := e1.1
                refine SatL.nil (SatE.thenC ?_)
                refine SatC.weak (e' := [(1, _), (2, _), (3, _), (4, _), (8, _), (9, _), (14, _)]) (by repeat constructor) ?_
                refine SatC.region ?_
                refine SatL.pu (RunV.move rfl) rfl ?_
                refine SatL.pu (RunV.add rfl rfl (by first | exact wrapI64 (by omega) | rfl)) rfl ?_
                refine SatL.pu (RunV.assign rfl) rfl ?_
                refine SatL.nil (SatE.blk_normal ?_)
                refine SatE.again ((mid + 1, b1, lim, _, ap, d6, B6)) ?_ (by first | omega | (dsimp only; omega)) (by repeat constructor)
                exact ⟨by omega, by omega, hb1, hlim2, by omega, e3, fun R h1 h2 => by
                  obtain ⟨q1, q2⟩ := e4 R h1 h2
                  exact hfin R (permIn_trans _ _ _ _ _ hp4 q1) q2, hsl6, hS.sel (by repeat constructor)⟩
              · (try simp only [cx, ne_eq] at h4)
                try (exfalso; (first | omega | exact h4 trivial | contradiction | (first | omega | (simp at h4; done))); done)
                all_goals
                refine SatC.seq ?_
                refine SatC.region ?_
                refine SatL.pu (RunV.move rfl) rfl ?_
                refine SatL.pu (RunV.move rfl) rfl ?_
                refine SatL.pu (RunV.geq rfl rfl) rfl ?_
                refine SatL.pu (RunV.assign rfl) rfl ?_
                refine SatL.nil (SatE.thenC ?_)
                refine SatC.seq ?_
                refine SatC.region ?_
                refine SatL.pu (RunV.loadN hS rfl rfl (by repeat constructor) (by repeat constructor)) rfl ?_
                refine SatL.pu (RunV.move rfl) rfl ?_
                refine SatL.pu (RunV.add (r := ((mid + 1 : Nat) : Int)) rfl rfl (by rw [wrapI64 (by omega)]; omega)) rfl ?_
                refine SatL.pu (RunV.move rfl) rfl ?_
                refine SatL.pu (RunV.move rfl) rfl ?_
                refine SatL.op rfl (OpW.enter rfl rfl rfl (rfl) (ih (b1 - (mid + 1)) (by omega) (mid + 1) b1 lim d5 B5 _ (Nat.le_refl _) (by omega) hb1 hlim2 (by omega) g5 hsl5 (hS.ownT (A := (bl, C 22 [v]) :: B5) (by repeat constructor))) ?_)
                rintro r188 w188 ⟨-, d6, B6, e1, e2, hsl6, h⟩
                replace hS := hS.callT (A := (bl, C 22 [v]) :: B5) (by repeat constructor) h
                obtain ⟨e3, e4⟩ := g7 _ e1 e2
                have e5 := e1.1
                refine SatL.nil (SatE.thenC ?_)
                refine SatC.weak (e' := [(1, _), (2, _), (3, _), (4, _), (8, _), (9, _), (14, _)]) (by repeat constructor) ?_
                refine SatC.region ?_
                refine SatL.pu (RunV.move rfl) rfl ?_
                refine SatL.pu (RunV.assign rfl) rfl ?_
                refine SatL.nil (SatE.blk_normal ?_)
                refine SatE.again ((a1, mid, lim, _, ap, d6, B6)) ?_ (by first | omega | (dsimp only; omega)) (by repeat constructor)
                exact ⟨by omega, g1, by omega, hlim2, by omega, e3, fun R h1 h2 => by
                  obtain ⟨q1, q2⟩ := e4 R h1 h2
                  exact hfin R (permIn_trans _ _ _ _ _ hp4 q1) q2, hsl6, hS.sel (by repeat constructor)⟩
end
end Go.Proofs.Ytogohendjjgbiaa
