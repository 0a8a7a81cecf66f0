/- A timer is taken from its place; the closure that lists a number. -/
import Derived.Test.YtabladeenemfoaaWb
set_option linter.unusedSimpArgs false
set_option linter.unusedVariables false
set_option maxRecDepth 100000
set_option maxHeartbeats 4000000
namespace Go.Proofs.Ytabladeenemfoaa
open Go.RowKit
def tof (ts : List Tm) (id : Int) : Tm := (tget ts id).getD ⟨id, 0, 0, 0⟩
@[reducible] def tcl (t : Tm) : List Value := [.int .i64 (t.due : Int), .int .i64 (t.rim : Int), .int .i64 (t.at_ : Int)]
theorem look1 (ts : List Tm) (k : Int) : (kget (ts.map tkv) k).getD (.agg #[.int .i64 0, .int .i64 0, .int .i64 0]) = .agg (tcl (tof ts k)).toArray := by
  rw [kget_t]
  unfold tof
  cases tget ts k <;> rfl
theorem look2 (ts : List Tm) (k : Int) : Value.tuple #[(kget (ts.map tkv) k).getD (.agg #[.int .i64 0, .int .i64 0, .int .i64 0]), .bool (kget (ts.map tkv) k).isSome] = .tuple #[.agg (tcl (tof ts k)).toArray, .bool (tget ts k).isSome] := by
  rw [look1, kget_t]
  cases tget ts k <;> rfl
@[reducible] def nid (id : Int) (l : List Int) : List Int := l.filter fun x => decide (¬ x = id)
theorem nid_len (id : Int) (l : List Int) : (nid id l).length ≤ l.length := List.length_filter_le ..
theorem nid_step {id y : Int} {l : List Int} {i : Nat} (h : l[i]? = some y) : nid id (l.take (i + 1)) = nid id (l.take i) ++ (if y = id then [] else [y]) := by
  unfold nid
  rw [List.take_add_one, h, List.filter_append]
  simp only [Option.toList_some, List.filter_cons, List.filter_nil, decide_not, Bool.not_eq_true']
  split <;> split <;> simp_all
def aTake (W : Wl) (id : Int) : Wl := { W with ts := tdel W.ts id, ls := upd (nid id) (slot (tof W.ts id).rim (tof W.ts id).at_) W.ls }
def aDel (W : Wl) (id : Int) : Wl := { W with ts := tdel W.ts id }
section
variable {b m : Nat} {W : Wl} {L : List (Nat × Obj)} {w : World}
theorem take_d (id : Int) (hr3 : (tof W.ts id).rim < 3) (ha64 : (tof W.ts id).at_ < 64) (hfew : ∀ l ∈ W.ls, l.length ≤ 900) (h : Whl b m W L) (hown : Own w L) :
    Ret Try.prog 26 #[.pointer (some ⟨b, 0, none⟩), .int .i64 id] w fun u w' => ∃ L', Whl b m (aTake W id) L' ∧ St w (L.map Prod.fst) L' w' := by
  obtain ⟨now, ts, ls⟩ := W
  obtain ⟨hlen, _, mo, hs, hmp, hls, hsl, rfl⟩ := h
  dsimp only at *
  have hS := St.init hown
  have hl192 : hs.length = 192 := by rw [← hlen, ← hls, List.length_map]
  unfold aTake
  dsimp only
  have hlk := look1 ts id
  generalize tof ts id = t at hr3 ha64 hlk ⊢
  obtain ⟨tid, due, rim, at_⟩ := t
  dsimp only [tcl] at hr3 ha64 hlk ⊢
  obtain ⟨p, x, s, hhs, hp⟩ := split_at (l := hs) (n := slot rim at_) (by unfold slot; omega)
  subst hhs
  have hxsl := hsl x (by simp)
  have hxl : x.l.length ≤ 900 := hfew x.l (by rw [← hls]; exact List.mem_map_of_mem (by simp))
  obtain ⟨xc, hxv⟩ := hxsl.slv
  rw [List.length_map] at hxv
  generalize hX : (WO b m mo now (p ++ x :: s)).map Prod.fst = X at hS ⊢
  simp only [WO, hbl, List.flatMap_append, List.flatMap_cons, List.append_assoc, List.cons_append, List.nil_append] at hS
  generalize hDp : List.flatMap (fun x : Pl => x.B) p = Dp at hS
  generalize hDs : List.flatMap (fun x : Pl => x.B) s = Ds at hS
  unfold slot at hp ⊢
  refine Ret.enter Try.func26 Try.ntmps26 rfl rfl ?_
  simp only [argEnv, Nat.reduceAdd]
  refine SatC.seq ?_
  refine SatC.region ?_
  refine SatL.pu (RunV.move rfl) rfl ?_
  first | refine SatL.pu (RunV.nil_ptr rfl) rfl ?_ | refine SatL.pu (RunV.nil_func rfl) rfl ?_ | refine SatL.pu (RunV.nil_yield rfl) rfl ?_
  first | refine SatL.pu (RunV.fieldAddrL rfl rfl rfl) rfl ?_ | refine SatL.pu (RunV.fieldAddr rfl rfl rfl) rfl ?_
  refine SatL.pu (RunV.load1 hS rfl rfl (by repeat constructor) rfl) rfl ?_
  refine SatL.pu (RunV.move rfl) rfl ?_
  refine SatL.pu (RunV.cast (RunV.lookup1 (keyInt rfl) hS rfl rfl rfl rfl (by repeat constructor) hmp.is) hlk) rfl ?_
  refine SatL.pu (RunV.fieldN (cs := [.int .i64 (due : Int), .int .i64 (rim : Int), .int .i64 (at_ : Int)]) (vs := [.int .i64 (rim : Int), .int .i64 (at_ : Int)]) rfl rfl rfl (by repeat constructor)) rfl ?_
  refine SatL.op rfl (OpW.alloc hS rfl rfl (by repeat constructor) ?_)
  clear hS
  intro b4 w1 _ hS
  refine SatL.op rfl (OpW.store hS rfl rfl (by repeat constructor) (by repeat constructor) (by repeat constructor) rfl rfl ?_)
  clear hS
  intro w2 hS
  refine SatL.nil (SatE.thenC ?_)
  refine SatC.seq ?_
  refine SatC.region ?_
  refine SatL.pu (RunV.assign rfl) rfl ?_
  refine SatL.nil (SatE.thenC ?_)
  refine SatC.seq ?_
  refine SatC.seq ?_
  refine SatC.drawnT 12 hS (hS.sel (R := [(b4, C 57 [.int .i64 (rim : Int), .int .i64 (at_ : Int)]), (b, C 48 (wcs now m (p ++ x :: s)))]) (by repeat constructor)) (by kernel_rfl) ?_
  clear hS
  intro w3 hh hS hD
  refine SatD.tk 0 rfl hD (fun _ hw => RunV.move rfl) ?_
  first | refine SatD.tk 1 rfl hD (fun _ hw => RunV.fieldAddrL rfl rfl rfl) ?_ | refine SatD.tk 1 rfl hD (fun _ hw => RunV.fieldAddr rfl rfl rfl) ?_
  refine SatD.tk 2 rfl hD (fun _ hw => RunV.load1 hw rfl rfl (by repeat constructor) rfl) ?_
  first | refine SatD.tk 3 rfl hD (fun _ hw => RunV.fieldAddrL rfl rfl rfl) ?_ | refine SatD.tk 3 rfl hD (fun _ hw => RunV.fieldAddr rfl rfl rfl) ?_
  refine SatD.tk 4 rfl hD (fun _ hw => RunV.load1 hw rfl rfl (by repeat constructor) rfl) ?_
  first | refine SatD.tk 5 rfl hD (fun _ hw => RunV.nil_ptr rfl) ?_ | refine SatD.tk 5 rfl hD (fun _ hw => RunV.nil_func rfl) ?_ | refine SatD.tk 5 rfl hD (fun _ hw => RunV.nil_yield rfl) ?_
  first | refine SatD.tk 6 rfl hD (fun _ hw => RunV.fieldAddrL rfl rfl rfl) ?_ | refine SatD.tk 6 rfl hD (fun _ hw => RunV.fieldAddr rfl rfl rfl) ?_
  refine SatD.tk 7 rfl hD (fun _ hw => RunV.indexA rfl rfl rfl (by omega) (by omega) rfl) ?_
  refine SatD.tk 8 rfl hD (fun _ hw => RunV.indexA rfl rfl rfl (by omega) (by omega) rfl) ?_
  refine SatD.tk 9 rfl hD (fun _ hw => RunV.load1 hw rfl rfl (by repeat constructor) (wget (by omega))) ?_
  first | refine SatD.tk 10 rfl hD (fun _ hw => RunV.lenR (by assumption) rfl rfl) ?_ | refine SatD.tk 10 rfl hD (fun _ hw => RunV.lenS rfl rfl) ?_
  refine SatD.tk 11 rfl hD (fun _ hw => RunV.move rfl) ?_
  refine SatD.done 0 (by kernel_rfl) (SatE.thenC ?_)
  clear hD
  refine SatC.block ?_
  refine SatC.loopK (G := Nat × Value × List (Nat × Obj)) (V := fun ⟨i, va, Ba⟩ => [(26, .int .i64 (i : Int)), (5, va)]) (Cn := [(0, _), (1, _), (4, _), (24, _), (25, _)]) (I := fun ⟨i, va, Ba⟩ w' => i ≤ x.l.length ∧ Sl 3 1 va ((nid id (x.l.take i)).map ri) Ba ∧ St w X (Ba ++ ((b4, C 57 [.int .i64 (rim : Int), .int .i64 (at_ : Int)]) :: (b, C 48 (wcs now m (p ++ x :: s))) :: (m, mo) :: (Dp ++ (x.B ++ Ds)))) w') (μ := fun ⟨i, va, Ba⟩ => x.l.length - i) (0, .slice none 0 0, []) ?_ (by repeat constructor) ?_
  · exact ⟨Nat.zero_le _, .nil, hS⟩
  clear hS
  rintro ⟨i, va, Ba⟩ w4 ⟨hi, hsa, hS⟩
  refine SatC.weak (e' := [(0, _), (1, _), (4, _), (5, _), (24, _), (25, _), (26, _)]) (by repeat constructor) ?_
  refine SatC.seq ?_
  refine SatC.region ?_
  refine SatL.pu (RunV.lss rfl rfl) rfl ?_
  refine SatL.nil (SatE.thenC ?_)
  refine SatC.seq ?_
  refine SatC.cond rfl (fun h1 => ?_) (fun h1 => ?_)
  · (try simp only [cx, ne_eq] at h1)
    try (exfalso; (first | omega | exact h1 trivial | contradiction | (first | omega | (simp at h1; done))); done)
    all_goals
    refine SatC.skip (SatE.thenC ?_)
    refine SatC.seq ?_
    refine SatC.block ?_
    refine SatC.seq ?_
    obtain ⟨y, hy⟩ : ∃ y, x.l[i]? = some y := ⟨_, List.getElem?_eq_getElem (by omega)⟩
    have hnl := nid_len id (x.l.take i)
    rw [List.length_take] at hnl
    refine SatC.region ?_
    first | refine SatL.pu (RunV.indexR (by assumption) rfl rfl rfl (by omega) (by omega) rfl) rfl ?_ | refine SatL.pu (RunV.indexS rfl rfl rfl (by omega) (by omega) rfl) rfl ?_
    refine SatL.pu (RunV.loadR1g i 0 (Sl.rd hxsl hS (by repeat constructor)) rfl rfl (by omega) (map_get hy) rfl) rfl ?_
    refine SatL.pu (RunV.assign rfl) rfl ?_
    refine SatL.nil (SatE.thenC ?_)
    refine SatC.seq ?_
    refine SatC.region ?_
    refine SatL.pu (RunV.move rfl) rfl ?_
    refine SatL.pu (RunV.move rfl) rfl ?_
    refine SatL.pu (RunV.neq rfl rfl) rfl ?_
    refine SatL.nil (SatE.thenC ?_)
    refine SatC.cond rfl (fun h2 => ?_) (fun h2 => ?_)
    · (try simp only [cx, ne_eq] at h2)
      try (exfalso; (first | omega | exact h2 trivial | contradiction | (first | omega | (simp at h2; done))); done)
      all_goals
      refine SatC.region ?_
      refine SatL.pu (RunV.move rfl) rfl ?_
      refine SatL.pu (RunV.move rfl) rfl ?_
      refine SatL.op rfl (OpW.buildSlice1 hS rfl rfl rfl rfl rfl (by repeat constructor) rfl rfl rfl ?_)
      clear hS
      intro b35 w5 _ hS
      refine SatL.op rfl (OpW.append1 hsa hS (by repeat constructor) rfl rfl (by repeat constructor) rfl rfl rfl rfl rfl rfl rfl rfl (by rw [List.length_map]; omega) rfl ?_)
      clear hS
      intro v36 B36 w6 hsl36 hS
      refine SatL.pu (RunV.assign rfl) rfl ?_
      refine SatL.nil (SatE.blk_normal (SatE.thenC ?_))
      refine SatC.region ?_
      refine SatL.pu (RunV.add rfl rfl (by first | exact wrapI64 (by omega) | rfl)) rfl ?_
      refine SatL.pu (RunV.move rfl) rfl ?_
      refine SatL.nil ?_
      refine SatE.again ((i + 1, v36, B36)) ?_ (by first | omega | (dsimp only; omega)) (by repeat constructor)
      refine ⟨by omega, ?_, hS.sel (by repeat constructor)⟩
      rw [nid_step hy, if_neg (by assumption), List.map_append]
      exact hsl36
    · (try simp only [cx, ne_eq] at h2)
      try (exfalso; (first | omega | exact h2 trivial | contradiction | (first | omega | (simp at h2; done))); done)
      all_goals
      refine SatC.skip (SatE.blk_normal (SatE.thenC ?_))
      refine SatC.region ?_
      refine SatL.pu (RunV.add rfl rfl (by first | exact wrapI64 (by omega) | rfl)) rfl ?_
      refine SatL.pu (RunV.move rfl) rfl ?_
      refine SatL.nil ?_
      refine SatE.again ((i + 1, va, Ba)) ?_ (by first | omega | (dsimp only; omega)) (by repeat constructor)
      refine ⟨by omega, ?_, hS.sel (by repeat constructor)⟩
      rw [nid_step hy, if_pos (by omega), List.append_nil]
      exact hsa
  · (try simp only [cx, ne_eq] at h1)
    try (exfalso; (first | omega | exact h1 trivial | contradiction | (first | omega | (simp at h1; done))); done)
    all_goals
    refine SatC.exit (SatE.then_exit (SatE.then_exit (SatE.blk_exit (SatE.thenC ?_))))
    refine SatC.seq ?_
    rw [List.take_of_length_le (by omega)] at hsa
    refine SatC.drawnT 10 hS (hS.sel (R := [(b4, C 57 [.int .i64 (rim : Int), .int .i64 (at_ : Int)]), (b, C 48 (wcs now m (p ++ x :: s)))]) (by repeat constructor)) (by kernel_rfl) ?_
    clear hS
    intro w5 hh hS hD
    refine SatD.tk 0 rfl hD (fun _ hw => RunV.move rfl) ?_
    first | refine SatD.tk 1 rfl hD (fun _ hw => RunV.fieldAddrL rfl rfl rfl) ?_ | refine SatD.tk 1 rfl hD (fun _ hw => RunV.fieldAddr rfl rfl rfl) ?_
    refine SatD.tk 2 rfl hD (fun _ hw => RunV.load1 hw rfl rfl (by repeat constructor) rfl) ?_
    first | refine SatD.tk 3 rfl hD (fun _ hw => RunV.fieldAddrL rfl rfl rfl) ?_ | refine SatD.tk 3 rfl hD (fun _ hw => RunV.fieldAddr rfl rfl rfl) ?_
    refine SatD.tk 4 rfl hD (fun _ hw => RunV.load1 hw rfl rfl (by repeat constructor) rfl) ?_
    refine SatD.tk 5 rfl hD (fun _ hw => RunV.move rfl) ?_
    first | refine SatD.tkp 6 rfl [9, 8, 7] hD (fun _ hw => RunV.nil_ptr rfl) ?_ | refine SatD.tkp 6 rfl [9, 8, 7] hD (fun _ hw => RunV.nil_func rfl) ?_ | refine SatD.tkp 6 rfl [9, 8, 7] hD (fun _ hw => RunV.nil_yield rfl) ?_
    first | refine SatD.tkp 7 rfl [9, 8] hD (fun _ hw => RunV.fieldAddrL rfl rfl rfl) ?_ | refine SatD.tkp 7 rfl [9, 8] hD (fun _ hw => RunV.fieldAddr rfl rfl rfl) ?_
    refine SatD.tkp 8 rfl [9] hD (fun _ hw => RunV.indexA rfl rfl rfl (by omega) (by omega) rfl) ?_
    refine SatD.tk 9 rfl hD (fun _ hw => RunV.indexA rfl rfl rfl (by omega) (by omega) rfl) ?_
    refine SatD.effF (by kernel_rfl) rfl rfl (OpW.storeAt (T := 48) (cs := wcs now m (p ++ x :: s)) hS rfl rfl (by rw [wcs_len hl192]; omega) (wset (y := ⟨va, nid id x.l, Ba⟩) (by omega)) (by repeat constructor) rfl hsa.one ?_)
    clear hS
    intro w6 hS
    refine SatD.done 0 (by kernel_rfl) (SatE.thenC ?_)
    clear hD
    refine SatC.weak (e' := [(0, _), (1, _)]) (by repeat constructor) ?_
    refine SatC.region ?_
    refine SatL.pu (RunV.move rfl) rfl ?_
    first | refine SatL.pu (RunV.nil_ptr rfl) rfl ?_ | refine SatL.pu (RunV.nil_func rfl) rfl ?_ | refine SatL.pu (RunV.nil_yield rfl) rfl ?_
    first | refine SatL.pu (RunV.fieldAddrL rfl rfl rfl) rfl ?_ | refine SatL.pu (RunV.fieldAddr rfl rfl rfl) rfl ?_
    refine SatL.pu (RunV.load1 hS rfl rfl (by repeat constructor) rfl) rfl ?_
    refine SatL.pu (RunV.move rfl) rfl ?_
    refine SatL.op rfl (OpW.deleteM (keyInt rfl) hS rfl rfl rfl hmp _ (fun o' => by repeat constructor) ?_)
    clear hS
    intro o8 w7 hmp8 hS
    refine SatL.nil ?_
    refine SatE.fin0 rfl ?_
    refine ⟨_, ⟨by rw [upd_len]; exact hlen, fun l hl => ?_, o8, p ++ ⟨va, nid id x.l, Ba⟩ :: s, by rw [← kdel_t]; exact hmp8, ls_at (g := nid id) (y := ⟨va, nid id x.l, Ba⟩) hls hp rfl, hsl.upd hsa, rfl⟩, ?_⟩
    · rcases upd_mem hl with hl | ⟨y, hy, rfl⟩
      · have := hfew l hl; omega
      · have := hfew y (List.mem_of_getElem? hy)
        have := nid_len id y
        omega
    · simp only [WO, hbl, List.flatMap_append, List.flatMap_cons, List.append_assoc, List.cons_append, List.nil_append]
      rw [hDp, hDs]
      exact hS.sel (by repeat constructor)
theorem clos_d {bl bw : Nat} {av : Value} {acc : List Int} {AB : List (Nat × Obj)} (id : Int) (hacc : Sl 3 1 av (acc.map ri) AB) (hal : acc.length ≤ 100000) (h : Whl b m W L) (hown : Own w ((bl, C 27 [av]) :: (bw, C 25 [.pointer (some ⟨b, 0, none⟩)]) :: (AB ++ L))) :
    Ret Try.prog 23 #[.int .i64 id, .pointer (some ⟨bl, 0, none⟩), .pointer (some ⟨bw, 0, none⟩)] w fun u w' => ∃ av' AB' L', Sl 3 1 av' ((acc ++ [id]).map ri) AB' ∧ Whl b m (aDel W id) L' ∧ St w (((bl, C 27 [av]) :: (bw, C 25 [.pointer (some ⟨b, 0, none⟩)]) :: (AB ++ L)).map Prod.fst) ((bl, C 27 [av']) :: (bw, C 25 [.pointer (some ⟨b, 0, none⟩)]) :: (AB' ++ L')) w' := by
  obtain ⟨now, ts, ls⟩ := W
  obtain ⟨hlen, hfew, mo, hs, hmp, hls, hsl, rfl⟩ := h
  dsimp only at *
  have hS := St.init hown
  unfold aDel
  dsimp only
  generalize hX : ((bl, C 27 [av]) :: (bw, C 25 [.pointer (some ⟨b, 0, none⟩)]) :: (AB ++ WO b m mo now hs)).map Prod.fst = X at hS ⊢
  simp only [WO, hbl] at hS
  generalize hD : List.flatMap (fun x : Pl => x.B) hs = D at hS
  refine Ret.enter Try.func23 Try.ntmps23 rfl rfl ?_
  simp only [argEnv, Nat.reduceAdd]
  refine SatC.seq ?_
  refine SatC.region ?_
  refine SatL.pu (RunV.load1 hS rfl rfl (by repeat constructor) rfl) rfl ?_
  refine SatL.pu (RunV.move rfl) rfl ?_
  refine SatL.op rfl (OpW.buildSlice1 hS rfl rfl rfl rfl rfl (by repeat constructor) rfl rfl rfl ?_)
  clear hS
  intro b6 w1 _ hS
  refine SatL.op rfl (OpW.append1 hacc hS (by repeat constructor) rfl rfl (by repeat constructor) rfl rfl rfl rfl rfl rfl rfl rfl (by rw [List.length_map]; omega) rfl ?_)
  clear hS
  intro v7 B7 w2 hsl7 hS
  refine SatL.op rfl (OpW.storeSv hS rfl rfl (by assumption) (by repeat constructor) (by repeat constructor) rfl ?_)
  clear hS
  intro w3 hS
  refine SatL.nil (SatE.thenC ?_)
  refine SatC.region ?_
  refine SatL.pu (RunV.load1 hS rfl rfl (by repeat constructor) rfl) rfl ?_
  first | refine SatL.pu (RunV.nil_ptr rfl) rfl ?_ | refine SatL.pu (RunV.nil_func rfl) rfl ?_ | refine SatL.pu (RunV.nil_yield rfl) rfl ?_
  first | refine SatL.pu (RunV.fieldAddrL rfl rfl rfl) rfl ?_ | refine SatL.pu (RunV.fieldAddr rfl rfl rfl) rfl ?_
  refine SatL.pu (RunV.load1 hS rfl rfl (by repeat constructor) rfl) rfl ?_
  refine SatL.pu (RunV.move rfl) rfl ?_
  refine SatL.op rfl (OpW.deleteM (keyInt rfl) hS rfl rfl rfl hmp _ (fun o' => by repeat constructor) ?_)
  clear hS
  intro o8 w4 hmp8 hS
  refine SatL.nil ?_
  refine SatE.fin0 rfl ?_
  refine ⟨_, _, _, by rw [List.map_append]; exact hsl7, ⟨hlen, hfew, o8, hs, by rw [← kdel_t]; exact hmp8, hls, hsl, rfl⟩, ?_⟩
  simp only [WO, hbl]
  rw [hD]
  exact hS.sel (by repeat constructor)
end
end Go.Proofs.Ytabladeenemfoaa
