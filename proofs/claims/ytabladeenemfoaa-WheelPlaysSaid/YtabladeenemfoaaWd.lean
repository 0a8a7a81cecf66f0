/- A place comes down. -/
import Derived.Test.YtabladeenemfoaaWc
import Derived.Test.YtabladeenemfoaaK15
set_option linter.unusedSimpArgs false
set_option linter.unusedVariables false
set_option maxRecDepth 100000
set_option maxHeartbeats 4000000
namespace Go.Proofs.Ytabladeenemfoaa
open Go.RowKit
def aStep (q : Wl × List Int) (id : Int) : Wl × List Int := if (tof q.1.ts id).due = q.1.now then (aDel q.1 id, q.2 ++ [id]) else (aHang q.1 id (tof q.1.ts id).due, q.2)
theorem step_y {W : Wl} {a : List Int} {y : Int} (h : (tof W.ts y).due = W.now) : aStep (W, a) y = (aDel W y, a ++ [y]) := if_pos h
theorem step_n {W : Wl} {a : List Int} {y : Int} (h : ¬ (tof W.ts y).due = W.now) : aStep (W, a) y = (aHang W y (tof W.ts y).due, a) := if_neg h
def aDown (W : Wl) (q : Nat) (acc : List Int) : Wl × List Int := (W.ls[q]?.getD []).foldl aStep ({ W with ls := upd (fun _ => []) q W.ls }, acc)
def DueB (M : Nat) (ts : List Tm) : Prop := ∀ t ∈ ts, t.due ≤ M
def LenB (k : Nat) (ls : List (List Int)) : Prop := ∀ l ∈ ls, l.length ≤ k
theorem tput_mem {ts : List Tm} {t x : Tm} (h : x ∈ tput ts t) : x = t ∨ x ∈ ts := by
  induction ts with
  | nil => exact .inl (by simpa [tput] using h)
  | cons y l ih =>
    unfold tput at h
    split at h
    · rcases List.mem_cons.1 h with rfl | h
      · exact .inl rfl
      · exact .inr (List.mem_cons_of_mem _ h)
    · rcases List.mem_cons.1 h with rfl | h
      · exact .inr List.mem_cons_self
      · rcases ih h with h | h
        · exact .inl h
        · exact .inr (List.mem_cons_of_mem _ h)
theorem tdel_mem {ts : List Tm} {k : Int} {x : Tm} (h : x ∈ tdel ts k) : x ∈ ts := by
  induction ts with
  | nil => cases h
  | cons y l ih =>
    unfold tdel at h
    split at h
    · exact List.mem_cons_of_mem _ h
    · rcases List.mem_cons.1 h with rfl | h
      · exact List.mem_cons_self
      · exact List.mem_cons_of_mem _ (ih h)
theorem tget_mem {ts : List Tm} {k : Int} {t : Tm} (h : tget ts k = some t) : t ∈ ts ∧ t.id = k := by
  induction ts with
  | nil => cases h
  | cons y l ih =>
    unfold tget at h
    split at h
    · rename_i e
      cases h
      exact ⟨List.mem_cons_self, e.symm⟩
    · exact ⟨List.mem_cons_of_mem _ (ih h).1, (ih h).2⟩
theorem tof_due {M : Nat} {ts : List Tm} (h : DueB M ts) (id : Int) : (tof ts id).due ≤ M := by
  unfold tof
  cases e : tget ts id with
  | none => exact Nat.zero_le _
  | some t => exact h t (tget_mem e).1
theorem del_due {M : Nat} {ts : List Tm} (h : DueB M ts) (id : Int) : DueB M (tdel ts id) := fun t ht => h t (tdel_mem ht)
theorem put_due {M : Nat} {ts : List Tm} (h : DueB M ts) {t : Tm} (ht : t.due ≤ M) : DueB M (tput ts t) := fun x hx => by
  rcases tput_mem hx with rfl | hx
  · exact ht
  · exact h x hx
theorem lenb_mono {k k' : Nat} {ls : List (List Int)} (h : LenB k ls) (hk : k ≤ k') : LenB k' ls := fun l hl => Nat.le_trans (h l hl) hk
theorem upd_lenb {k k' : Nat} {ls : List (List Int)} {g : List Int → List Int} {q : Nat} (h : LenB k ls) (hk : k ≤ k') (hg : ∀ l, l.length ≤ k → (g l).length ≤ k') : LenB k' (upd g q ls) := fun l hl => by
  rcases upd_mem hl with hl | ⟨y, hy, rfl⟩
  · exact Nat.le_trans (h l hl) hk
  · exact hg y (h y (List.mem_of_getElem? hy))
theorem hang_lenb {k : Nat} {W : Wl} (h : LenB k W.ls) (id : Int) (due : Nat) : LenB (k + 1) (aHang W id due).ls := upd_lenb h (Nat.le_succ _) fun l hl => by
  rw [List.length_append]
  show l.length + 1 ≤ _
  omega
section
variable {b m : Nat} {W : Wl} {L : List (Nat × Obj)} {w : World}
theorem down_d {bl bw : Nat} {av : Value} {acc : List Int} {AB : List (Nat × Obj)} {M k : Nat} (rim at_ : Nat) (hr3 : rim < 3) (ha64 : at_ < 64) (hn : W.now ≤ 1000000000) (hM : M ≤ 1000000000) (hdue : DueB M W.ts) (hk : k ≤ 400) (hfew : LenB k W.ls) (hacc : Sl 3 1 av (acc.map ri) AB) (hal : acc.length ≤ 1000) (h : Whl b m W L)
    (hown : Own w ((bl, C 27 [av]) :: (bw, C 25 [.pointer (some ⟨b, 0, none⟩)]) :: (AB ++ L))) :
    Ret Try.prog 24 #[.pointer (some ⟨b, 0, none⟩), .agg #[.int .i64 (rim : Int), .int .i64 (at_ : Int)], .func (.func 23) #[] #[.pointer (some ⟨bl, 0, none⟩), .pointer (some ⟨bw, 0, none⟩)]] w fun u w' => ∃ W' acc' av' AB' L', aDown W (slot rim at_) acc = (W', acc') ∧ W'.now = W.now ∧ DueB M W'.ts ∧ LenB (2 * k) W'.ls ∧ acc'.length ≤ acc.length + k ∧ Sl 3 1 av' (acc'.map ri) AB' ∧ Whl b m W' L' ∧
      St w (((bl, C 27 [av]) :: (bw, C 25 [.pointer (some ⟨b, 0, none⟩)]) :: (AB ++ L)).map Prod.fst) ((bl, C 27 [av']) :: (bw, C 25 [.pointer (some ⟨b, 0, none⟩)]) :: (AB' ++ L')) w' := by
  obtain ⟨now, ts, ls⟩ := W
  obtain ⟨hlen, _, mo, hs, hmp, hls, hsl, rfl⟩ := h
  dsimp only at *
  have hS := St.init hown
  have hl192 : hs.length = 192 := by rw [← hlen, ← hls, List.length_map]
  obtain ⟨p, x, s, hhs, hp⟩ := split_at (l := hs) (n := slot rim at_) (by unfold slot; omega)
  subst hhs
  have hxsl := hsl x (by simp)
  have hxl : x.l.length ≤ k := hfew x.l (by rw [← hls]; exact List.mem_map_of_mem (by simp))
  have hgx : ls[slot rim at_]?.getD [] = x.l := by rw [← hls, ← hp, List.map_append, List.map_cons, List.getElem?_append_right (by simp), List.length_map, Nat.sub_self]; rfl
  unfold aDown
  dsimp only
  rw [hgx]
  generalize hR : x.l.foldl aStep (⟨now, ts, upd (fun _ => []) (slot rim at_) ls⟩, acc) = R
  obtain ⟨xc, hxv⟩ := hxsl.slv
  rw [List.length_map] at hxv
  generalize hX : ((bl, C 27 [av]) :: (bw, C 25 [.pointer (some ⟨b, 0, none⟩)]) :: (AB ++ WO b m mo now (p ++ x :: s))).map Prod.fst = X at hS ⊢
  simp only [WO, hbl, List.flatMap_append, List.flatMap_cons, List.append_assoc, List.cons_append, List.nil_append] at hS
  generalize hDp : List.flatMap (fun x : Pl => x.B) p = Dp at hS
  generalize hDs : List.flatMap (fun x : Pl => x.B) s = Ds at hS
  unfold slot at hp
  refine Ret.enter Try.func24 Try.ntmps24 rfl rfl ?_
  simp only [argEnv, Nat.reduceAdd]
  refine SatC.seq ?_
  refine SatC.region ?_
  refine SatL.op rfl (OpW.box hS rfl rfl (by repeat constructor) ?_)
  clear hS
  intro b4 w1 _ hS
  refine SatL.nil (SatE.thenC ?_)
  refine SatC.seq ?_
  refine SatC.drawnT 11 hS (hS.sel (R := [(b4, C 57 [.int .i64 (rim : Int), .int .i64 (at_ : Int)]), (b, C 48 (wcs now m (p ++ x :: s)))]) (by repeat constructor)) (by kernel_rfl) ?_
  clear hS
  intro w2 hh hS hD
  refine SatD.tk 0 rfl hD (fun _ hw => RunV.move rfl) ?_
  first | refine SatD.tk 1 rfl hD (fun _ hw => RunV.fieldAddrL rfl rfl rfl) ?_ | refine SatD.tk 1 rfl hD (fun _ hw => RunV.fieldAddr rfl rfl rfl) ?_
  refine SatD.tk 2 rfl hD (fun _ hw => RunV.load1 hw rfl rfl (by repeat constructor) rfl) ?_
  first | refine SatD.tk 3 rfl hD (fun _ hw => RunV.fieldAddrL rfl rfl rfl) ?_ | refine SatD.tk 3 rfl hD (fun _ hw => RunV.fieldAddr rfl rfl rfl) ?_
  refine SatD.tk 4 rfl hD (fun _ hw => RunV.load1 hw rfl rfl (by repeat constructor) rfl) ?_
  first | refine SatD.tk 5 rfl hD (fun _ hw => RunV.nil_ptr rfl) ?_ | refine SatD.tk 5 rfl hD (fun _ hw => RunV.nil_func rfl) ?_ | refine SatD.tk 5 rfl hD (fun _ hw => RunV.nil_yield rfl) ?_
  first | refine SatD.tk 6 rfl hD (fun _ hw => RunV.fieldAddrL rfl rfl rfl) ?_ | refine SatD.tk 6 rfl hD (fun _ hw => RunV.fieldAddr rfl rfl rfl) ?_
  refine SatD.tk 7 rfl hD (fun _ hw => RunV.indexA rfl rfl rfl (by omega) (by omega) rfl) ?_
  refine SatD.tk 8 rfl hD (fun _ hw => RunV.indexA rfl rfl rfl (by omega) (by omega) rfl) ?_
  refine SatD.tk 9 rfl hD (fun _ hw => RunV.load1 hw rfl rfl (by repeat constructor) (wget (by omega))) ?_
  refine SatD.tk 10 rfl hD (fun _ hw => RunV.assign rfl) ?_
  refine SatD.done 0 (by kernel_rfl) (SatE.thenC ?_)
  clear hD
  refine SatC.seq ?_
  refine SatC.drawnT 9 hS (hS.sel (R := [(b4, C 57 [.int .i64 (rim : Int), .int .i64 (at_ : Int)]), (b, C 48 (wcs now m (p ++ x :: s)))]) (by repeat constructor)) (by kernel_rfl) ?_
  clear hS
  intro w3 hh hS hD
  refine SatD.tk 0 rfl hD (fun _ hw => RunV.move rfl) ?_
  first | refine SatD.tk 1 rfl hD (fun _ hw => RunV.fieldAddrL rfl rfl rfl) ?_ | refine SatD.tk 1 rfl hD (fun _ hw => RunV.fieldAddr rfl rfl rfl) ?_
  refine SatD.tk 2 rfl hD (fun _ hw => RunV.load1 hw rfl rfl (by repeat constructor) rfl) ?_
  first | refine SatD.tk 3 rfl hD (fun _ hw => RunV.fieldAddrL rfl rfl rfl) ?_ | refine SatD.tk 3 rfl hD (fun _ hw => RunV.fieldAddr rfl rfl rfl) ?_
  refine SatD.tk 4 rfl hD (fun _ hw => RunV.load1 hw rfl rfl (by repeat constructor) rfl) ?_
  first | refine SatD.tkp 5 rfl [8, 7, 6] hD (fun _ hw => RunV.nil_ptr rfl) ?_ | refine SatD.tkp 5 rfl [8, 7, 6] hD (fun _ hw => RunV.nil_func rfl) ?_ | refine SatD.tkp 5 rfl [8, 7, 6] hD (fun _ hw => RunV.nil_yield rfl) ?_
  first | refine SatD.tkp 6 rfl [8, 7] hD (fun _ hw => RunV.fieldAddrL rfl rfl rfl) ?_ | refine SatD.tkp 6 rfl [8, 7] hD (fun _ hw => RunV.fieldAddr rfl rfl rfl) ?_
  refine SatD.tkp 7 rfl [8] hD (fun _ hw => RunV.indexA rfl rfl rfl (by omega) (by omega) rfl) ?_
  refine SatD.tk 8 rfl hD (fun _ hw => RunV.indexA rfl rfl rfl (by omega) (by omega) rfl) ?_
  refine SatD.effF (by kernel_rfl) rfl rfl (OpW.storeAt (T := 48) (cs := wcs now m (p ++ x :: s)) hS rfl rfl (by rw [wcs_len hl192]; omega) (wset (y := ⟨.slice none 0 0, [], []⟩) (by omega)) (by repeat constructor) rfl (Sl.nil (T := 3) (k := 1)).one ?_)
  clear hS
  intro w4 hS
  refine SatD.done 0 (by kernel_rfl) (SatE.thenC ?_)
  clear hD
  refine SatC.seq ?_
  refine SatC.weak (e' := [(0, _), (2, _), (6, _)]) (by repeat constructor) ?_
  have hw0 : Whl b m ⟨now, ts, upd (fun _ => []) (slot rim at_) ls⟩ (WO b m mo now (p ++ ⟨.slice none 0 0, [], []⟩ :: s)) := ⟨by rw [upd_len]; exact hlen, lenb_mono (upd_lenb hfew (Nat.le_refl _) fun l _ => Nat.zero_le _) (by omega), mo, _, hmp, ls_at (g := fun _ => []) (y := ⟨.slice none 0 0, [], []⟩) hls hp rfl, hsl.upd .nil, rfl⟩
  have hl0 : LenB k (upd (fun _ => []) (slot rim at_) ls) := upd_lenb hfew (Nat.le_refl _) fun l _ => Nat.zero_le _
  refine SatC.region ?_
  refine SatL.pu (RunV.move rfl) rfl ?_
  first | refine SatL.pu (RunV.lenR (by assumption) rfl rfl) rfl ?_ | refine SatL.pu (RunV.lenS rfl rfl) rfl ?_
  refine SatL.pu (RunV.move rfl) rfl ?_
  refine SatL.nil (SatE.thenC ?_)
  refine SatC.block ?_
  refine SatC.loopK (G := Nat × Wl × List Int × Value × List (Nat × Obj) × List (Nat × Obj)) (V := fun ⟨i, W1, acc1, av1, AB1, L1⟩ => [(30, .int .i64 (i : Int))]) (Cn := [(0, _), (2, _), (28, _), (29, _)]) (I := fun ⟨i, W1, acc1, av1, AB1, L1⟩ w' => i ≤ x.l.length ∧ (x.l.drop i).foldl aStep (W1, acc1) = R ∧ W1.now = now ∧ DueB M W1.ts ∧ LenB (k + i) W1.ls ∧ acc1.length ≤ acc.length + i ∧ Sl 3 1 av1 (acc1.map ri) AB1 ∧ Whl b m W1 L1 ∧ St w X ((b4, C 57 [.int .i64 (rim : Int), .int .i64 (at_ : Int)]) :: (x.B ++ ((bl, C 27 [av1]) :: (bw, C 25 [.pointer (some ⟨b, 0, none⟩)]) :: (AB1 ++ L1)))) w') (μ := fun ⟨i, W1, acc1, av1, AB1, L1⟩ => x.l.length - i) (0, ⟨now, ts, upd (fun _ => []) (slot rim at_) ls⟩, acc, av, AB, WO b m mo now (p ++ ⟨.slice none 0 0, [], []⟩ :: s)) ?_ (by repeat constructor) ?_
  · refine ⟨Nat.zero_le _, hR, rfl, hdue, hl0, Nat.le_refl _, hacc, hw0, by simp only [WO, hbl, List.flatMap_append, List.flatMap_cons, List.append_assoc, List.cons_append, List.nil_append]; rw [hDp, hDs]; exact hS.sel (by repeat constructor)⟩
  clear hS
  rintro ⟨i, W1, acc1, av1, AB1, L1⟩ w5 ⟨hi, hR1, hn1, hdue1, hl1, hal1, hsa1, hw1, hS⟩
  refine SatC.weak (e' := [(0, _), (2, _), (28, _), (29, _), (30, _)]) (by repeat constructor) ?_
  refine SatC.seq ?_
  obtain ⟨hlen1, hfew1, mo1, hs1, hmp1, hls1, hsl1, rfl⟩ := id hw1
  simp only [WO, hbl] at hS hw1
  generalize hD1 : List.flatMap (fun x : Pl => x.B) hs1 = D at hS hw1
  refine SatC.region ?_
  refine SatL.pu (RunV.lss rfl rfl) rfl ?_
  refine SatL.nil (SatE.thenC ?_)
  refine SatC.seq ?_
  refine SatC.cond rfl (fun h1 => ?_) (fun h1 => ?_)
  · (try simp only [cx, ne_eq] at h1)
    try (exfalso; (first | omega | exact h1 trivial | contradiction | (first | omega | (simp at h1; done))); done)
    all_goals
    refine SatC.skip (SatE.thenC ?_)
    refine SatC.seq ?_
    refine SatC.block ?_
    refine SatC.seq ?_
    obtain ⟨y, hy⟩ : ∃ y, x.l[i]? = some y := ⟨_, List.getElem?_eq_getElem (by omega)⟩
    rw [List.drop_eq_getElem_cons (by omega : i < x.l.length), List.foldl_cons, show x.l[i] = y from by rw [List.getElem?_eq_getElem (by omega)] at hy; exact Option.some.inj hy] at hR1
    have hdy := tof_due hdue1 y
    refine SatC.region ?_
    first | refine SatL.pu (RunV.indexR (by assumption) rfl rfl rfl (by omega) (by omega) rfl) rfl ?_ | refine SatL.pu (RunV.indexS rfl rfl rfl (by omega) (by omega) rfl) rfl ?_
    refine SatL.pu (RunV.loadR1g i 0 (Sl.rd hxsl hS (by repeat constructor)) rfl rfl (by omega) (map_get hy) rfl) rfl ?_
    refine SatL.pu (RunV.assign rfl) rfl ?_
    refine SatL.nil (SatE.thenC ?_)
    refine SatC.seq ?_
    refine SatC.seq ?_
    refine SatC.drawnT 12 hS (hS.sel (R := [(b, C 48 (wcs W1.now m hs1)), (m, mo1)]) (by repeat constructor)) (by kernel_rfl) ?_
    clear hS
    intro w6 hh hS hD
    refine SatD.tk 0 rfl hD (fun _ hw => RunV.move rfl) ?_
    first | refine SatD.tk 1 rfl hD (fun _ hw => RunV.nil_ptr rfl) ?_ | refine SatD.tk 1 rfl hD (fun _ hw => RunV.nil_func rfl) ?_ | refine SatD.tk 1 rfl hD (fun _ hw => RunV.nil_yield rfl) ?_
    first | refine SatD.tk 2 rfl hD (fun _ hw => RunV.fieldAddrL rfl rfl rfl) ?_ | refine SatD.tk 2 rfl hD (fun _ hw => RunV.fieldAddr rfl rfl rfl) ?_
    refine SatD.tk 3 rfl hD (fun _ hw => RunV.load1 hw rfl rfl (by repeat constructor) rfl) ?_
    refine SatD.tk 4 rfl hD (fun _ hw => RunV.move rfl) ?_
    refine SatD.tk 5 rfl hD (fun _ hw => RunV.cast (RunV.lookup1 (keyInt rfl) hw rfl rfl rfl rfl (by repeat constructor) hmp1.is) (look1 _ _)) ?_
    refine SatD.tk 6 rfl hD (fun _ hw => RunV.field1 rfl rfl rfl rfl) ?_
    refine SatD.tk 7 rfl hD (fun _ hw => RunV.move rfl) ?_
    first | refine SatD.tk 8 rfl hD (fun _ hw => RunV.nil_ptr rfl) ?_ | refine SatD.tk 8 rfl hD (fun _ hw => RunV.nil_func rfl) ?_ | refine SatD.tk 8 rfl hD (fun _ hw => RunV.nil_yield rfl) ?_
    first | refine SatD.tk 9 rfl hD (fun _ hw => RunV.fieldAddrL rfl rfl rfl) ?_ | refine SatD.tk 9 rfl hD (fun _ hw => RunV.fieldAddr rfl rfl rfl) ?_
    refine SatD.tk 10 rfl hD (fun _ hw => RunV.load1 hw rfl rfl (by repeat constructor) rfl) ?_
    refine SatD.tk 11 rfl hD (fun _ hw => RunV.eql rfl rfl) ?_
    refine SatD.done 0 (by kernel_rfl) (SatE.thenC ?_)
    clear hD
    refine SatC.weak (e' := [(0, _), (2, _), (8, _), (28, _), (29, _), (30, _), (45, _)]) (by repeat constructor) ?_
    refine SatC.cond rfl (fun h2 => ?_) (fun h2 => ?_)
    · (try simp only [cx, ne_eq] at h2)
      try (exfalso; (first | omega | exact h2 trivial | contradiction | (first | omega | (simp at h2; done))); done)
      all_goals
      refine SatC.seq ?_
      refine SatC.region ?_
      refine SatL.pu (RunV.move rfl) rfl ?_
      refine SatL.pu (RunV.move rfl) rfl ?_
      refine SatL.op rfl (OpW.enterF (fs := []) (cap := [.pointer (some ⟨bl, 0, none⟩), .pointer (some ⟨bw, 0, none⟩)]) rfl rfl rfl (rfl) (clos_d y hsa1 (by omega) hw1 (hS.ownT (A := (bl, C 27 [av1]) :: (bw, C 25 [.pointer (some ⟨b, 0, none⟩)]) :: (AB1 ++ ((b, C 48 (wcs W1.now m hs1)) :: (m, mo1) :: D))) (by repeat constructor))) ?_)
      rintro r7 w7 ⟨av3, AB3, L3, hsa3, hw3, h⟩
      replace hS := hS.callT (A := (bl, C 27 [av1]) :: (bw, C 25 [.pointer (some ⟨b, 0, none⟩)]) :: (AB1 ++ ((b, C 48 (wcs W1.now m hs1)) :: (m, mo1) :: D))) (by repeat constructor) h
      simp only [List.cons_append, List.append_assoc, List.append_nil] at hS
      refine SatL.nil (SatE.thenC ?_)
      refine SatC.exit (SatE.then_exit (SatE.blk_exit (SatE.thenC ?_)))
      refine SatC.region ?_
      refine SatL.pu (RunV.add rfl rfl (by first | exact wrapI64 (by omega) | rfl)) rfl ?_
      refine SatL.pu (RunV.move rfl) rfl ?_
      refine SatL.nil ?_
      refine SatE.again ((i + 1, aDel W1 y, acc1 ++ [y], av3, AB3, L3)) ?_ (by first | omega | (dsimp only; omega)) (by repeat constructor)
      rw [step_y (by omega)] at hR1
      exact ⟨by omega, hR1, hn1, del_due hdue1 _, lenb_mono hl1 (by omega), by rw [List.length_append]; simp only [List.length_cons, List.length_nil]; omega, hsa3, hw3, hS.sel (by repeat constructor)⟩
    · (try simp only [cx, ne_eq] at h2)
      try (exfalso; (first | omega | exact h2 trivial | contradiction | (first | omega | (simp at h2; done))); done)
      all_goals
      refine SatC.skip (SatE.thenC ?_)
      refine SatC.region ?_
      refine SatL.pu (RunV.move rfl) rfl ?_
      refine SatL.pu (RunV.move rfl) rfl ?_
      refine SatL.pu (RunV.move rfl) rfl ?_
      first | refine SatL.pu (RunV.nil_ptr rfl) rfl ?_ | refine SatL.pu (RunV.nil_func rfl) rfl ?_ | refine SatL.pu (RunV.nil_yield rfl) rfl ?_
      first | refine SatL.pu (RunV.fieldAddrL rfl rfl rfl) rfl ?_ | refine SatL.pu (RunV.fieldAddr rfl rfl rfl) rfl ?_
      refine SatL.pu (RunV.load1 hS rfl rfl (by repeat constructor) rfl) rfl ?_
      refine SatL.pu (RunV.move rfl) rfl ?_
      refine SatL.pu (RunV.cast (RunV.lookup1 (keyInt rfl) hS rfl rfl rfl rfl (by repeat constructor) hmp1.is) (look1 _ _)) rfl ?_
      refine SatL.pu (RunV.field1 rfl rfl rfl rfl) rfl ?_
      refine SatL.op rfl (OpW.enter rfl rfl rfl (rfl) (hang_d y (tof W1.ts y).due (by omega) (by omega) (lenb_mono hl1 (by omega)) hw1 (hS.ownT (A := (b, C 48 (wcs W1.now m hs1)) :: (m, mo1) :: D) (by repeat constructor))) ?_)
      rintro r7 w7 ⟨L3, hw3, h⟩
      replace hS := hS.callT (A := (b, C 48 (wcs W1.now m hs1)) :: (m, mo1) :: D) (by repeat constructor) h
      refine SatL.nil (SatE.blk_normal (SatE.thenC ?_))
      refine SatC.weak (e' := [(0, _), (2, _), (28, _), (29, _), (30, _)]) (by repeat constructor) ?_
      refine SatC.region ?_
      refine SatL.pu (RunV.add rfl rfl (by first | exact wrapI64 (by omega) | rfl)) rfl ?_
      refine SatL.pu (RunV.move rfl) rfl ?_
      refine SatL.nil ?_
      refine SatE.again ((i + 1, aHang W1 y (tof W1.ts y).due, acc1, av1, AB1, L3)) ?_ (by first | omega | (dsimp only; omega)) (by repeat constructor)
      rw [step_n (by omega)] at hR1
      exact ⟨by omega, hR1, hn1, put_due hdue1 hdy, hang_lenb hl1 _ _, by omega, hsa1, hw3, hS.sel (by repeat constructor)⟩
  · (try simp only [cx, ne_eq] at h1)
    try (exfalso; (first | omega | exact h1 trivial | contradiction | (first | omega | (simp at h1; done))); done)
    all_goals
    refine SatC.exit (SatE.then_exit (SatE.then_exit (SatE.blk_exit ?_)))
    refine SatE.fin0 rfl ?_
    rw [List.drop_of_length_le (by omega)] at hR1
    exact ⟨W1, acc1, av1, AB1, _, hR1.symm, hn1, hdue1, lenb_mono hl1 (by omega), by omega, hsa1, hw1, hS.sel (by repeat constructor)⟩
end
end Go.Proofs.Ytabladeenemfoaa
