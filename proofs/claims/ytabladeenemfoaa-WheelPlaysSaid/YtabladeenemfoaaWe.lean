/- A tick. -/
import Derived.Test.YtabladeenemfoaaWd
set_option linter.unusedSimpArgs false
set_option linter.unusedVariables false
set_option maxRecDepth 100000
set_option maxHeartbeats 4000000
namespace Go.Proofs.Ytabladeenemfoaa
open Go.RowKit
def aRim (W : Wl) (r : Nat) (acc : List Int) : Wl × List Int := if W.now % 2 ^ (6 * r) = 0 then aDown W (slot r (W.now / 2 ^ (6 * r) % 64)) acc else (W, acc)
def aRims : Nat → Wl × List Int → Wl × List Int
  | 0, q => q
  | r + 1, q => aRims r (aRim q.1 r q.2)
def aTick (W : Wl) : Wl × List Int := ((aRims 3 ({ W with now := W.now + 1 }, [])).1, srt (aRims 3 ({ W with now := W.now + 1 }, [])).2)
theorem rim_y {W : Wl} {r : Nat} {acc : List Int} (h : W.now % 2 ^ (6 * r) = 0) : aRim W r acc = aDown W (slot r (W.now / 2 ^ (6 * r) % 64)) acc := if_pos h
theorem rim_n {W : Wl} {r : Nat} {acc : List Int} (h : ¬ W.now % 2 ^ (6 * r) = 0) : aRim W r acc = (W, acc) := if_neg h
def kk (r : Nat) : Nat := if r = 3 then 64 else if r = 2 then 128 else if r = 1 then 256 else 512
theorem kk_step {q : Nat} (h : q < 3) : 2 * kk (q + 1) ≤ kk q ∧ kk (q + 1) ≤ 256 := by
  rcases (by omega : q = 0 ∨ q = 1 ∨ q = 2) with rfl | rfl | rfl <;> decide
theorem pow_q {q : Nat} (h : q < 3) : ∃ P, P = 2 ^ (6 * q) ∧ 1 ≤ P ∧ P ≤ 4096 := by
  rcases (by omega : q = 0 ∨ q = 1 ∨ q = 2) with rfl | rfl | rfl
  · exact ⟨1, rfl, by decide, by decide⟩
  · exact ⟨64, rfl, by decide, by decide⟩
  · exact ⟨4096, rfl, by decide, by decide⟩
section
variable {b m : Nat} {W : Wl} {L : List (Nat × Obj)} {w : World}
theorem down_i {bl bw : Nat} {av : Value} {acc : List Int} {AB : List (Nat × Obj)} {M k : Nat} {re ae : Int} (rim at_ : Nat) (hre : re = rim) (hae : ae = at_) (hr3 : rim < 3) (ha64 : at_ < 64) (hn : W.now ≤ 1000000000) (hM : M ≤ 1000000000) (hdue : DueB M W.ts) (hk : k ≤ 400) (hfew : LenB k W.ls) (hacc : Sl 3 1 av (acc.map ri) AB) (hal : acc.length ≤ 1000) (h : Whl b m W L)
    (hown : Own w ((bl, C 27 [av]) :: (bw, C 25 [.pointer (some ⟨b, 0, none⟩)]) :: (AB ++ L))) :
    Ret Try.prog 24 #[.pointer (some ⟨b, 0, none⟩), .agg #[.int .i64 re, .int .i64 ae], .func (.func 23) #[] #[.pointer (some ⟨bl, 0, none⟩), .pointer (some ⟨bw, 0, none⟩)]] w fun u w' => ∃ W' acc' av' AB' L', aDown W (slot rim at_) acc = (W', acc') ∧ W'.now = W.now ∧ DueB M W'.ts ∧ LenB (2 * k) W'.ls ∧ acc'.length ≤ acc.length + k ∧ Sl 3 1 av' (acc'.map ri) AB' ∧ Whl b m W' L' ∧
      St w (((bl, C 27 [av]) :: (bw, C 25 [.pointer (some ⟨b, 0, none⟩)]) :: (AB ++ L)).map Prod.fst) ((bl, C 27 [av']) :: (bw, C 25 [.pointer (some ⟨b, 0, none⟩)]) :: (AB' ++ L')) w' := by
  subst hre hae
  exact down_d rim at_ hr3 ha64 hn hM hdue hk hfew hacc hal h hown
theorem tick_d {M : Nat} (hn : W.now ≤ 900000000) (hM : M ≤ 1000000000) (hdue : DueB M W.ts) (hfew : LenB 64 W.ls) (h : Whl b m W L) (hown : Own w L) :
    Ret Try.prog 8 #[.pointer (some ⟨b, 0, none⟩)] w fun u w' => ∃ W' out AB L', aTick W = (W', out) ∧ out.length ≤ 1000 ∧ Sl 3 1 u (out.map ri) AB ∧ Whl b m W' L' ∧ St w (L.map Prod.fst) (AB ++ L') w' := by
  obtain ⟨now, ts, ls⟩ := W
  obtain ⟨hlen, hf1, mo, hs, hmp, hls, hsl, rfl⟩ := h
  dsimp only at *
  have hS := St.init hown
  have hl192 : hs.length = 192 := by rw [← hlen, ← hls, List.length_map]
  unfold aTick
  dsimp only
  generalize hR : aRims 3 (⟨now + 1, ts, ls⟩, []) = R
  generalize hX : (WO b m mo now hs).map Prod.fst = X at hS ⊢
  simp only [WO, hbl] at hS
  generalize hD : List.flatMap (fun x : Pl => x.B) hs = D0 at hS
  refine Ret.enter Try.func8 Try.ntmps8 rfl rfl ?_
  simp only [argEnv, Nat.reduceAdd]
  refine SatC.seq ?_
  refine SatC.region ?_
  refine SatL.op rfl (OpW.box hS rfl rfl (by repeat constructor) ?_)
  clear hS
  intro b1 w1 _ hS
  refine SatL.pu (RunV.assign rfl) rfl ?_
  refine SatL.nil (SatE.thenC ?_)
  refine SatC.seq ?_
  refine SatC.seq ?_
  refine SatC.region ?_
  refine SatL.pu (RunV.load1 hS rfl rfl (by repeat constructor) rfl) rfl ?_
  refine SatL.op rfl (OpW.enter rfl rfl rfl (rfl) (wnone_any (hS.ownT (A := [(b, C 48 (wcs now m hs))]) (by repeat constructor))) ?_)
  rintro r2 w2 ⟨rfl, h⟩
  replace hS := St.callN hS h
  refine SatL.nil (SatE.thenC ?_)
  refine SatC.cond rfl (fun h1 => ?_) (fun h1 => ?_)
  · (try simp only [cx, ne_eq] at h1)
    try (exfalso; (first | omega | exact h1 trivial | contradiction | (first | omega | (simp at h1; done))); done)
    all_goals
    refine SatC.seq ?_
    refine SatC.region ?_
    refine SatL.pu (RunV.assign rfl) rfl ?_
    refine SatL.nil (SatE.thenC ?_)
    refine SatC.ret (SatE.then_ret ?_)
    refine SatE.ret1 rfl rfl ?_
    rw [show aRims 0 (W1, acc1) = (W1, acc1) from rfl] at hR1
    refine ⟨W1, srt acc1, B5, L1, by rw [← hR1], ?_, hsl5, hw1, hS.sel (by repeat constructor)⟩
    unfold srt
    rw [List.length_mergeSort]
    omega
  · (try simp only [cx, ne_eq] at h1)
    try (exfalso; (first | omega | exact h1 trivial | contradiction | (first | omega | (simp at h1; done))); done)
    all_goals
    refine SatC.skip (SatE.thenC ?_)
    refine SatC.seq ?_
    refine SatC.region ?_
    refine SatL.pu (RunV.load1 hS rfl rfl (by repeat constructor) rfl) rfl ?_
    first | refine SatL.pu (RunV.nil_ptr rfl) rfl ?_ | refine SatL.pu (RunV.nil_func rfl) rfl ?_ | refine SatL.pu (RunV.nil_yield rfl) rfl ?_
    first | refine SatL.pu (RunV.fieldAddrL rfl rfl rfl) rfl ?_ | refine SatL.pu (RunV.fieldAddr rfl rfl rfl) rfl ?_
    refine SatL.pu (RunV.load1 hS rfl rfl (by repeat constructor) rfl) rfl ?_
    refine SatL.pu (RunV.add rfl rfl (by first | exact wrapI64 (by omega) | rfl)) rfl ?_
    first | refine SatL.pu (RunV.nil_ptr rfl) rfl ?_ | refine SatL.pu (RunV.nil_func rfl) rfl ?_ | refine SatL.pu (RunV.nil_yield rfl) rfl ?_
    first | refine SatL.pu (RunV.fieldAddrL rfl rfl rfl) rfl ?_ | refine SatL.pu (RunV.fieldAddr rfl rfl rfl) rfl ?_
    refine SatL.op rfl (OpW.storeAt (T := 48) (cs := wcs now m hs) (cs' := wcs (now + 1) m hs) hS rfl rfl (by rw [wcs_len hl192]; omega) rfl (by repeat constructor) rfl rfl ?_)
    clear hS
    intro w3 hS
    refine SatL.nil (SatE.thenC ?_)
    refine SatC.seq ?_
    refine SatC.region ?_
    refine SatL.op rfl (OpW.alloc hS rfl rfl (by repeat constructor) ?_)
    clear hS
    intro b3 w4 _ hS
    refine SatL.nil (SatE.thenC ?_)
    refine SatC.seq ?_
    refine SatC.region ?_
    refine SatL.pu (RunV.mkFunc rfl) rfl ?_
    refine SatL.pu (RunV.assign rfl) rfl ?_
    refine SatL.nil (SatE.thenC ?_)
    refine SatC.seq ?_
    refine SatC.seq ?_
    have hw0 : Whl b m ⟨now + 1, ts, ls⟩ ((b, C 48 (wcs (now + 1) m hs)) :: (m, mo) :: D0) := ⟨hlen, hf1, mo, hs, hmp, hls, hsl, by rw [← hD]⟩
    refine SatC.region ?_
    refine SatL.pu (RunV.assign rfl) rfl ?_
    refine SatL.nil (SatE.thenC ?_)
    refine SatC.block ?_
    refine SatC.loopK (G := Nat × Int × Wl × List Int × Value × List (Nat × Obj) × List (Nat × Obj)) (V := fun ⟨r, e, W1, acc1, av1, AB1, L1⟩ => [(5, .int .i64 e)]) (Cn := [(1, _), (2, _), (3, _), (4, _)]) (I := fun ⟨r, e, W1, acc1, av1, AB1, L1⟩ w' => e + 1 = r ∧ r ≤ 3 ∧ aRims r (W1, acc1) = R ∧ W1.now = now + 1 ∧ DueB M W1.ts ∧ LenB (kk r) W1.ls ∧ acc1.length ≤ kk r ∧ Sl 3 1 av1 (acc1.map ri) AB1 ∧ Whl b m W1 L1 ∧ St w X ((b3, C 27 [av1]) :: (b1, C 25 [.pointer (some ⟨b, 0, none⟩)]) :: (AB1 ++ L1)) w') (μ := fun ⟨r, e, W1, acc1, av1, AB1, L1⟩ => r) (3, 2, ⟨now + 1, ts, ls⟩, [], .slice none 0 0, [], (b, C 48 (wcs (now + 1) m hs)) :: (m, mo) :: D0) ?_ (by repeat constructor) ?_
    · exact ⟨by omega, by omega, hR, rfl, hdue, hfew, Nat.zero_le _, .nil, hw0, hS.sel (by repeat constructor)⟩
    clear hS
    rintro ⟨r, e, W1, acc1, av1, AB1, L1⟩ w5 ⟨her, hr3, hR1, hn1, hdue1, hl1, hal1, hsa1, hw1, hS⟩
    refine SatC.weak (e' := [(1, _), (2, _), (3, _), (4, _), (5, _)]) (by repeat constructor) ?_
    refine SatC.seq ?_
    refine SatC.seq ?_
    refine SatC.region ?_
    refine SatL.pu (RunV.move rfl) rfl ?_
    refine SatL.pu (RunV.geq rfl rfl) rfl ?_
    refine SatL.nil (SatE.thenC ?_)
    refine SatC.cond rfl (fun h2 => ?_) (fun h2 => ?_)
    · (try simp only [cx, ne_eq] at h2)
      try (exfalso; (first | omega | exact h2 trivial | contradiction | (first | omega | (simp at h2; done))); done)
      all_goals
      refine SatC.skip (SatE.thenC ?_)
      refine SatC.seq ?_
      refine SatC.block ?_
      refine SatC.seq ?_
      obtain ⟨q, rfl⟩ : ∃ q, r = q + 1 := ⟨r - 1, by omega⟩
      obtain ⟨hlen1, hfew1, mo1, hs1, hmp1, hls1, hsl1, rfl⟩ := id hw1
      simp only [WO, hbl] at hS hw1
      generalize hD1 : List.flatMap (fun x : Pl => x.B) hs1 = D at hS hw1
      obtain ⟨P, hP, hP1, hP2⟩ := pow_q (q := q) (by omega)
      have hks := kk_step (q := q) (by omega)
      rw [show aRims (q + 1) (W1, acc1) = aRims q (aRim W1 q acc1) from rfl] at hR1
      have hdv : W1.now / P ≤ W1.now := Nat.div_le_self _ _
      refine SatC.drawnT 10 hS (hS.sel (R := [(b1, C 25 [.pointer (some ⟨b, 0, none⟩)]), (b, C 48 (wcs W1.now m hs1))]) (by repeat constructor)) (by kernel_rfl) ?_
      clear hS
      intro w6 hh hS hD
      refine SatD.tk 0 rfl hD (fun _ hw => RunV.load1 hw rfl rfl (by repeat constructor) rfl) ?_
      first | refine SatD.tk 1 rfl hD (fun _ hw => RunV.nil_ptr rfl) ?_ | refine SatD.tk 1 rfl hD (fun _ hw => RunV.nil_func rfl) ?_ | refine SatD.tk 1 rfl hD (fun _ hw => RunV.nil_yield rfl) ?_
      first | refine SatD.tk 2 rfl hD (fun _ hw => RunV.fieldAddrL rfl rfl rfl) ?_ | refine SatD.tk 2 rfl hD (fun _ hw => RunV.fieldAddr rfl rfl rfl) ?_
      refine SatD.tk 3 rfl hD (fun _ hw => RunV.load1 hw rfl rfl (by repeat constructor) rfl) ?_
      refine SatD.tk 4 rfl hD (fun _ hw => RunV.move rfl) ?_
      refine SatD.tk 5 rfl hD (fun _ hw => RunV.mul rfl rfl (by first | exact wrapI64 (by omega) | rfl)) ?_
      refine SatD.tk 6 rfl hD (fun _ hw => RunV.cast (v' := .int .i64 (P : Int)) (RunV.shlOne (n := 6 * q) rfl rfl (by omega) (by omega)) (by rw [hP])) ?_
      refine SatD.tk 7 rfl hD (fun _ hw => RunV.sub rfl rfl (by first | exact wrapI64 (by omega) | rfl)) ?_
      refine SatD.tk 8 rfl hD (fun _ hw => RunV.cast (v' := .int .i64 ((W1.now % P : Nat) : Int)) (RunV.andN (n := 6 * q) rfl rfl (by rw [← hP]; omega) (by omega) (by omega)) (by rw [hP])) ?_
      refine SatD.tk 9 rfl hD (fun _ hw => RunV.eql rfl rfl) ?_
      refine SatD.done 0 (by kernel_rfl) (SatE.thenC ?_)
      clear hD
      refine SatC.cond rfl (fun h3 => ?_) (fun h3 => ?_)
      · (try simp only [cx, ne_eq] at h3)
        try (exfalso; (first | omega | exact h3 trivial | contradiction | (first | omega | (simp at h3; done))); done)
        all_goals
        refine SatC.weak (e' := [(1, _), (2, _), (3, _), (4, _), (5, _)]) (by repeat constructor) ?_
        refine SatC.drawnT 12 hS (hS.sel (R := [(b1, C 25 [.pointer (some ⟨b, 0, none⟩)]), (b, C 48 (wcs W1.now m hs1))]) (by repeat constructor)) (by kernel_rfl) ?_
        clear hS
        intro w7 hh hS hD
        refine SatD.tk 0 rfl hD (fun _ hw => RunV.load1 hw rfl rfl (by repeat constructor) rfl) ?_
        refine SatD.tkp 1 rfl [10] hD (fun _ hw => RunV.move rfl) ?_
        refine SatD.tkp 2 rfl [10, 9, 8, 5, 4, 3] hD (fun _ hw => RunV.load1 hw rfl rfl (by repeat constructor) rfl) ?_
        first | refine SatD.tkp 3 rfl [10, 9, 8, 5, 4] hD (fun _ hw => RunV.nil_ptr rfl) ?_ | refine SatD.tkp 3 rfl [10, 9, 8, 5, 4] hD (fun _ hw => RunV.nil_func rfl) ?_ | refine SatD.tkp 3 rfl [10, 9, 8, 5, 4] hD (fun _ hw => RunV.nil_yield rfl) ?_
        first | refine SatD.tkp 4 rfl [10, 9, 8, 5] hD (fun _ hw => RunV.fieldAddrL rfl rfl rfl) ?_ | refine SatD.tkp 4 rfl [10, 9, 8, 5] hD (fun _ hw => RunV.fieldAddr rfl rfl rfl) ?_
        refine SatD.tkp 5 rfl [10, 9, 8] hD (fun _ hw => RunV.load1 hw rfl rfl (by repeat constructor) rfl) ?_
        refine SatD.tkp 6 rfl [10, 9, 8, 7] hD (fun _ hw => RunV.move rfl) ?_
        refine SatD.tkp 7 rfl [10, 9, 8] hD (fun _ hw => RunV.mul rfl rfl (by first | exact wrapI64 (by omega) | rfl)) ?_
        refine SatD.tkp 8 rfl [10, 9] hD (fun _ hw => RunV.cast (v' := .int .i64 ((W1.now / P : Nat) : Int)) (RunV.shrN (n := 6 * q) rfl rfl (by omega) (by omega)) (by rw [hP])) ?_
        refine SatD.tkp 9 rfl [10] hD (fun _ hw => RunV.andN (n := 6) rfl rfl rfl (by omega) (by decide)) ?_
        refine SatD.tk 10 rfl hD (fun _ hw => RunV.build rfl (by simp [go_sem]; try rfl)) ?_
        refine SatD.tk 11 rfl hD (fun _ hw => RunV.move rfl) ?_
        refine SatD.effF (by kernel_rfl) rfl rfl (OpW.enter rfl rfl rfl (rfl) (down_i q (W1.now / P % 64) (by omega) rfl (by omega) (by omega) (by omega) hM hdue1 (by omega : kk (q + 1) ≤ 400) hl1 hsa1 (by omega) hw1 (hS.ownT (A := (b3, C 27 [av1]) :: (b1, C 25 [.pointer (some ⟨b, 0, none⟩)]) :: (AB1 ++ ((b, C 48 (wcs W1.now m hs1)) :: (m, mo1) :: D))) (by repeat constructor))) ?_)
        rintro r8 w8 ⟨W2, acc2, av2, AB2, L2, hd2, hn2, hdue2, hl2, hal2, hsa2, hw2, h⟩
        replace hS := hS.callT (A := (b3, C 27 [av1]) :: (b1, C 25 [.pointer (some ⟨b, 0, none⟩)]) :: (AB1 ++ ((b, C 48 (wcs W1.now m hs1)) :: (m, mo1) :: D))) (by repeat constructor) h
        simp only [List.cons_append, List.append_assoc, List.append_nil] at hS
        refine SatD.done 0 (by kernel_rfl) (SatE.blk_normal (SatE.thenC ?_))
        clear hD
        refine SatC.weak (e' := [(1, _), (2, _), (3, _), (4, _), (5, _)]) (by repeat constructor) ?_
        refine SatC.region ?_
        refine SatL.pu (RunV.move rfl) rfl ?_
        refine SatL.pu (RunV.sub rfl rfl (by first | exact wrapI64 (by omega) | rfl)) rfl ?_
        refine SatL.pu (RunV.assign rfl) rfl ?_
        refine SatL.nil ?_
        refine SatE.again ((q, e - 1, W2, acc2, av2, AB2, L2)) ?_ (by first | omega | (dsimp only; omega)) (by repeat constructor)
        rw [rim_y (by rw [← hP]; omega), ← hP, hd2] at hR1
        exact ⟨by omega, by omega, hR1, by omega, hdue2, lenb_mono hl2 (by omega), by omega, hsa2, hw2, hS.sel (by repeat constructor)⟩
      · (try simp only [cx, ne_eq] at h3)
        try (exfalso; (first | omega | exact h3 trivial | contradiction | (first | omega | (simp at h3; done))); done)
        all_goals
        refine SatC.skip (SatE.blk_normal (SatE.thenC ?_))
        refine SatC.weak (e' := [(1, _), (2, _), (3, _), (4, _), (5, _)]) (by repeat constructor) ?_
        refine SatC.region ?_
        refine SatL.pu (RunV.move rfl) rfl ?_
        refine SatL.pu (RunV.sub rfl rfl (by first | exact wrapI64 (by omega) | rfl)) rfl ?_
        refine SatL.pu (RunV.assign rfl) rfl ?_
        refine SatL.nil ?_
        refine SatE.again ((q, e - 1, W1, acc1, av1, AB1, (b, C 48 (wcs W1.now m hs1)) :: (m, mo1) :: D)) ?_ (by first | omega | (dsimp only; omega)) (by repeat constructor)
        rw [rim_n (by rw [← hP]; omega)] at hR1
        exact ⟨by omega, by omega, hR1, by omega, hdue1, lenb_mono hl1 (by omega), by omega, hsa1, hw1, hS.sel (by repeat constructor)⟩
    · (try simp only [cx, ne_eq] at h2)
      try (exfalso; (first | omega | exact h2 trivial | contradiction | (first | omega | (simp at h2; done))); done)
      all_goals
      refine SatC.exit (SatE.then_exit (SatE.then_exit (SatE.blk_exit (SatE.thenC ?_))))
      refine SatC.seq ?_
      obtain rfl : r = 0 := by omega
      rw [show kk 0 = 512 from rfl] at hal1
      refine SatC.region ?_
      refine SatL.pu (RunV.load1 hS rfl rfl (by repeat constructor) rfl) rfl ?_
      refine SatL.op rfl (OpW.enter rfl rfl rfl (rfl) (sort_any acc1 hsa1 (hS.ownT (A := AB1) (by repeat constructor)) (by omega)) ?_)
      rintro r6 w6 ⟨rfl, B5, hsl5, h⟩
      replace hS := hS.callT (A := AB1) (by repeat constructor) h
      refine SatL.nil (SatE.thenC ?_)
      refine SatC.seq ?_
      refine SatC.region ?_
      refine SatL.pu (RunV.load1 hS rfl rfl (by repeat constructor) rfl) rfl ?_
      refine SatL.pu (RunV.assign rfl) rfl ?_
      refine SatL.nil (SatE.thenC ?_)
      refine SatC.ret ?_
      refine SatE.ret1 rfl rfl ?_
      rw [show aRims 0 (W1, acc1) = (W1, acc1) from rfl] at hR1
      refine ⟨W1, srt acc1, B5, L1, by rw [← hR1], ?_, hsl5, hw1, hS.sel (by repeat constructor)⟩
      unfold srt
      rw [List.length_mergeSort]
      omega
end
end Go.Proofs.Ytabladeenemfoaa
