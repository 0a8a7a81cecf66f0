/- Cut and Rename. -/
import Derived.Test.YtahholhggohbnaaDe
set_option linter.unusedSimpArgs false
set_option linter.unusedVariables false
set_option maxRecDepth 100000
set_option maxHeartbeats 4000000
namespace Go.Proofs.Ytahholhggohbnaa
open Go.RowKit
section
variable {b : Nat} {room fuse : Int} {down : Bool} {fs : List Fi} {w : World}
theorem cut_any {d : Dk} (n m : Int) (ho : d.Ok) (hrep : Rep d fs) (hown : Own w (PO b d fs)) :
    Ret Try.prog 21 #[.pointer (some ⟨b, 0, none⟩), .int .i64 n, .int .i64 m] w fun u w' => u = .int .i64 (aCut d n m).1 ∧ ∃ fs', Rep (aCut d n m).2 fs' ∧ St w ((PO b d fs).map Prod.fst) (PO b (aCut d n m).2 fs') w' := by
  have hS := St.init hown
  have hus := hrep.used
  obtain ⟨room, fuse, down, fa⟩ := d
  have h4 := hrep.four ho
  obtain ⟨_, hsy, hfu, hroom, hused⟩ := ho
  obtain ⟨hsl, hab⟩ := hrep
  dsimp only at *
  have hvf := hsl.vf
  generalize hX : (DO b room fuse down fs).map Prod.fst = X at hS ⊢
  simp only [PO, DO] at hS
  refine Ret.enter Try.func21 Try.ntmps21 rfl rfl ?_
  simp only [argEnv, Nat.reduceAdd]
  refine SatC.seq ?_
  refine SatC.region ?_
  refine SatL.op rfl (OpW.box hS rfl rfl (by repeat constructor) ?_)
  clear hS
  intro b3 w1 _ hS
  refine SatL.op rfl (OpW.box hS rfl rfl (by repeat constructor) ?_)
  clear hS
  intro b4 w2 _ hS
  refine SatL.op rfl (OpW.box hS rfl rfl (by repeat constructor) ?_)
  clear hS
  intro b5 w3 _ hS
  refine SatL.pu (RunV.assign rfl) rfl ?_
  refine SatL.nil (SatE.thenC ?_)
  refine SatC.seq ?_
  refine SatC.region ?_
  refine SatL.pu (RunV.load1 hS rfl rfl (by repeat constructor) rfl) rfl ?_
  refine SatL.pu (RunV.mkFunc rfl) rfl ?_
  refine SatL.pu (RunV.mkFunc rfl) rfl ?_
  refine SatL.pu (RunV.build rfl (by simp [go_sem]; try rfl)) rfl ?_
  refine SatL.op rfl (OpW.buildSlice1 hS rfl rfl rfl rfl rfl (by repeat constructor) rfl rfl rfl ?_)
  clear hS
  intro b11 w4 _ hS
  refine SatL.op rfl (OpW.enter rfl rfl rfl (rfl) (write_any (b := b) (room := room) (fuse := fuse) (down := down) (fs := fs) (qs := [⟨41, [.pointer (some ⟨b4, 0, none⟩), .pointer (some ⟨b5, 0, none⟩), .pointer (some ⟨b3, 0, none⟩)], 2, decide ((0 ≤ n ∧ n < 4) ∧ 0 ≤ m ∧ m ≤ lenA fa n)⟩]) (E := (b3, C 24 [.pointer (some ⟨b, 0, none⟩)]) :: (b4, C 3 [.int .i64 n]) :: (b5, C 3 [.int .i64 m]) :: dbl fs) (R := fun w' => ∃ fs', Rep ⟨room, burnF fuse, down, upd (fun f => (f.1.take m.toNat, m)) n.toNat fa⟩ fs' ∧ St w X (DO b room (burnF fuse) down fs') w') h4 hfu.1 hfu.2 (by rfl) (by
    intro q hq
    simp only [List.mem_singleton] at hq
    subst hq
    exact ⟨by rfl, fun W' h => ask_cut hab h4 hvf ((hS.callN h).ownT (A := [(b3, C 24 [.pointer (some ⟨b, 0, none⟩)]), (b4, C 3 [.int .i64 n]), (b5, C 3 [.int .i64 m]), (b, C 53 (dcs room fuse down fs))]) (by repeat constructor))⟩)
    (Sl.qs1 _ b11) (by simp) rfl (by
    intro hme hz W' h
    obtain ⟨_, hn, hm⟩ := mayE0_one hme
    obtain ⟨p, x, s, hfs, hp⟩ := split_at (l := fs) (n := n.toNat) (by omega)
    subst hfs
    have hxsl := hsl x (by simp)
    have hxl := used_mem (fs := p ++ x :: s) rfl
    have hlA := lenA_at (s := s) (x := x) hp
    rw [hab] at hlA
    rw [hlA] at hm
    have e1 : dbl (p ++ x :: s) = dbl p ++ (x.B ++ dbl s) := by simp [dbl]
    have h' := h
    rw [e1] at h'
    have e2 : ∀ y : Fi, dbl (p ++ y :: s) = dbl p ++ (y.B ++ dbl s) := fun y => by simp [dbl]
    refine (do_cut (room := room) (fuse := burnF fuse) (down := down) h4 hn hp (by omega) hm hxsl (h'.ownT (by repeat constructor))).mono ?_
    rintro u w'' ⟨v', B', hsl', h2⟩
    refine ⟨p ++ ⟨v', x.b.take m.toNat, m, B'⟩ :: s, ⟨hsl.upd hsl', by rw [← hab]; exact ab_upd hp rfl⟩, ?_⟩
    show St w X ((b, _) :: dbl (p ++ ⟨v', x.b.take m.toNat, m, B'⟩ :: s)) w''
    rw [e2]
    clear h'
    generalize dbl (p ++ x :: s) = D at hS h e1
    have h3 := (hS.callT (A := (b11, _) :: (b, _) :: (b3, _) :: (b4, _) :: (b5, _) :: D) (by repeat constructor) h).sel (R := (b, C 53 (dcs room (burnF fuse) down (p ++ x :: s))) :: (b3, C 24 [.pointer (some ⟨b, 0, none⟩)]) :: (b4, C 3 [.int .i64 n]) :: (b5, C 3 [.int .i64 m]) :: D) (by repeat constructor)
    rw [e1] at h3
    generalize dbl p = Dp at h3 ⊢
    generalize dbl s = Ds at h3 ⊢
    exact (St.callT h3 (A := (b3, _) :: (b4, _) :: (b5, _) :: (b, _) :: x.B) (by repeat constructor) h2).sel (by repeat constructor))
    (hS.ownT (by repeat constructor))) ?_)
  rintro r5 w5 h
  refine SatL.pu (RunV.assign rfl) rfl ?_
  refine SatL.nil (SatE.thenC ?_)
  refine SatC.ret ?_
  refine SatE.ret1 rfl rfl ?_
  rcases h with ⟨hm, rfl, h⟩ | ⟨hm, hz, rfl, h⟩ | ⟨hm, hz, rfl, h⟩
  · rw [show aCut ⟨room, fuse, down, fa⟩ n m = _ from aw_no (d := ⟨room, fuse, down, fa⟩) hm]
    exact ⟨rfl, fs, ⟨hsl, hab⟩, (hS.callT (by repeat constructor) h).sel (by repeat constructor)⟩
  · obtain ⟨hd, hn⟩ := mayE0_one hm
    rw [show aCut ⟨room, fuse, down, fa⟩ n m = (50, ⟨room, fuse, true, fa⟩) from aw_burn (d := ⟨room, fuse, down, fa⟩) hd hn hz]
    exact ⟨rfl, fs, ⟨hsl, hab⟩, (hS.callT (by repeat constructor) h).sel (by repeat constructor)⟩
  · obtain ⟨hd, hn⟩ := mayE0_one hm
    rw [show aCut ⟨room, fuse, down, fa⟩ n m = (0, _) from aw_yes (d := ⟨room, fuse, down, fa⟩) hd hn hz]
    exact ⟨rfl, h⟩
theorem ask_rename {b4 b5 : Nat} {n m : Int} (hown : Own w [(b4, C 3 [.int .i64 n]), (b5, C 3 [.int .i64 m])]) :
    Ret Try.prog 43 #[.pointer (some ⟨b4, 0, none⟩), .pointer (some ⟨b5, 0, none⟩)] w fun u w' => u = .bool (decide ((0 ≤ n ∧ n < 4) ∧ (0 ≤ m ∧ m < 4) ∧ ¬ n = m)) ∧ St w [] [] w' := by
  have hS := St.init hown
  simp only [List.map_cons, List.map_nil] at hS
  refine Ret.enter Try.func43 Try.ntmps43 rfl rfl ?_
  simp only [argEnv, Nat.reduceAdd]
  refine SatC.seq ?_
  refine SatC.region ?_
  refine SatL.pu (RunV.assign rfl) rfl ?_
  refine SatL.nil (SatE.thenC ?_)
  refine SatC.seq ?_
  refine SatC.region ?_
  refine SatL.pu (RunV.load1 hS rfl rfl (by repeat constructor) rfl) rfl ?_
  refine SatL.op rfl (OpW.enter rfl rfl rfl (rfl) (there_any n _) ?_)
  rintro r1 w1 ⟨rfl, h⟩
  replace hS := St.callN hS h
  refine SatL.pu (RunV.move rfl) rfl ?_
  refine SatL.guard rfl rfl rfl (fun h1 => ?_) (fun h1 => ?_)
  · (try simp only [cx, ne_eq] at h1)
    try (exfalso; (first | omega | exact h1 trivial | contradiction | (omega)); done)
    all_goals
    refine SatL.pu (RunV.load1 hS rfl rfl (by repeat constructor) rfl) rfl ?_
    refine SatL.guard_y rfl rfl ?_
    refine SatL.op rfl (OpW.enter rfl rfl rfl (rfl) (there_any m _) ?_)
    rintro r2 w2 ⟨rfl, h⟩
    replace hS := St.callN hS h
    refine SatL.pu (RunV.pick_t rfl rfl) rfl ?_
    refine SatL.pu (RunV.move rfl) rfl ?_
    refine SatL.guard rfl rfl rfl (fun h2 => ?_) (fun h2 => ?_)
    · (try simp only [cx, ne_eq] at h2)
      try (exfalso; (first | omega | exact h2 trivial | contradiction | (omega)); done)
      all_goals
      refine SatL.pu (RunV.load1 hS rfl rfl (by repeat constructor) rfl) rfl ?_
      refine SatL.guard_y rfl rfl ?_
      refine SatL.pu (RunV.load1 hS rfl rfl (by repeat constructor) rfl) rfl ?_
      refine SatL.guard_y rfl rfl ?_
      refine SatL.pu (RunV.neq rfl rfl) rfl ?_
      refine SatL.pu (RunV.pick_t rfl rfl) rfl ?_
      refine SatL.pu (RunV.assign rfl) rfl ?_
      refine SatL.nil (SatE.thenC ?_)
      refine SatC.ret ?_
      refine SatE.ret1 rfl rfl ?_
      refine ⟨congrArg Value.bool ?_, St.ro hown hS (by repeat constructor)⟩
      rw [Bool.eq_iff_iff]; simp only [decide_eq_true_eq, Bool.false_eq_true, false_iff]; omega
    · (try simp only [cx, ne_eq] at h2)
      try (exfalso; (first | omega | exact h2 trivial | contradiction | (omega)); done)
      all_goals
      refine SatL.guard_n rfl rfl rfl rfl ?_
      refine SatL.guard_n rfl rfl rfl rfl ?_
      refine SatL.pu (RunV.pick_f rfl rfl) rfl ?_
      refine SatL.pu (RunV.assign rfl) rfl ?_
      refine SatL.nil (SatE.thenC ?_)
      refine SatC.ret ?_
      refine SatE.ret1 rfl rfl ?_
      refine ⟨congrArg Value.bool ?_, St.ro hown hS (by repeat constructor)⟩
      rw [Bool.eq_iff_iff]; simp only [decide_eq_true_eq, Bool.false_eq_true, false_iff]; omega
  · (try simp only [cx, ne_eq] at h1)
    try (exfalso; (first | omega | exact h1 trivial | contradiction | (omega)); done)
    all_goals
    refine SatL.guard_n rfl rfl rfl rfl ?_
    refine SatL.pu (RunV.pick_f rfl rfl) rfl ?_
    refine SatL.pu (RunV.move rfl) rfl ?_
    refine SatL.guard_n rfl rfl rfl rfl ?_
    refine SatL.guard_n rfl rfl rfl rfl ?_
    refine SatL.guard_n rfl rfl rfl rfl ?_
    refine SatL.pu (RunV.pick_f rfl rfl) rfl ?_
    refine SatL.pu (RunV.assign rfl) rfl ?_
    refine SatL.nil (SatE.thenC ?_)
    refine SatC.ret ?_
    refine SatE.ret1 rfl rfl ?_
    refine ⟨congrArg Value.bool ?_, St.ro hown hS (by repeat constructor)⟩
    rw [Bool.eq_iff_iff]; simp only [decide_eq_true_eq, Bool.false_eq_true, false_iff]; omega
theorem do_rename {bd bn bm : Nat} {n m : Int} {x : Fi} (h4 : fs.length = 4) (hn : 0 ≤ n ∧ n < 4) (hm : 0 ≤ m ∧ m < 4) (hx : fs[n.toNat]? = some x) (hx1 : x.v.oneCell' = true) (hown : Own w [(bd, C 24 [.pointer (some ⟨b, 0, none⟩)]), (bn, C 3 [.int .i64 n]), (bm, C 3 [.int .i64 m]), (b, C 53 (dcs room fuse down fs))]) :
    Ret Try.prog 42 #[.pointer (some ⟨bd, 0, none⟩), .pointer (some ⟨bn, 0, none⟩), .pointer (some ⟨bm, 0, none⟩)] w fun u w' => St w [bd, bn, bm, b] [(bd, C 24 [.pointer (some ⟨b, 0, none⟩)]), (bn, C 3 [.int .i64 n]), (bm, C 3 [.int .i64 m]), (b, C 53 (dcs room fuse down ((fs.set m.toNat x).set n.toNat zfi)))] w' := by
  have hS := St.init hown
  simp only [List.map_cons, List.map_nil] at hS
  refine Ret.enter Try.func42 Try.ntmps42 rfl rfl ?_
  simp only [argEnv, Nat.reduceAdd]
  refine SatC.drawnT 18 hS (hS.sel (R := [(bd, C 24 [.pointer (some ⟨b, 0, none⟩)]), (bn, C 3 [.int .i64 n]), (bm, C 3 [.int .i64 m])]) (by repeat constructor)) (by kernel_rfl) ?_
  clear hS
  intro w1 hh hS hD
  refine SatD.tk 0 rfl hD (fun _ hw => RunV.load1 hw rfl rfl (by repeat constructor) rfl) ?_
  refine SatD.tk 1 rfl hD (fun _ hw => RunV.load1 hw rfl rfl (by repeat constructor) rfl) ?_
  refine SatD.tk 2 rfl hD (fun _ hw => RunV.load1 hw rfl rfl (by repeat constructor) rfl) ?_
  refine SatD.tk 3 rfl hD (fun _ hw => RunV.load1 hw rfl rfl (by repeat constructor) rfl) ?_
  refine SatD.tk 4 rfl hD (fun _ hw => RunV.load1 hw rfl rfl (by repeat constructor) rfl) ?_
  refine SatD.tk 5 rfl hD (fun _ hw => RunV.load1 hw rfl rfl (by repeat constructor) rfl) ?_
  first | refine SatD.tk 6 rfl hD (fun _ hw => RunV.nil_ptr rfl) ?_ | refine SatD.tk 6 rfl hD (fun _ hw => RunV.nil_func rfl) ?_ | refine SatD.tk 6 rfl hD (fun _ hw => RunV.nil_yield rfl) ?_
  first | refine SatD.tk 7 rfl hD (fun _ hw => RunV.fieldAddrL rfl rfl rfl) ?_ | refine SatD.tk 7 rfl hD (fun _ hw => RunV.fieldAddr rfl rfl rfl) ?_
  refine SatD.tk 8 rfl hD (fun _ hw => RunV.indexA rfl rfl rfl (by omega) (by omega) rfl) ?_
  refine SatD.tk 10 rfl hD (fun _ hw => RunV.build rfl (by simp [go_sem]; try rfl)) ?_
  first | refine SatD.tk 11 rfl hD (fun _ hw => RunV.nil_ptr rfl) ?_ | refine SatD.tk 11 rfl hD (fun _ hw => RunV.nil_func rfl) ?_ | refine SatD.tk 11 rfl hD (fun _ hw => RunV.nil_yield rfl) ?_
  first | refine SatD.tk 12 rfl hD (fun _ hw => RunV.fieldAddrL rfl rfl rfl) ?_ | refine SatD.tk 12 rfl hD (fun _ hw => RunV.fieldAddr rfl rfl rfl) ?_
  first | refine SatD.tkp 15 rfl [17, 16] hD (fun _ hw => RunV.nil_ptr rfl) ?_ | refine SatD.tkp 15 rfl [17, 16] hD (fun _ hw => RunV.nil_func rfl) ?_ | refine SatD.tkp 15 rfl [17, 16] hD (fun _ hw => RunV.nil_yield rfl) ?_
  first | refine SatD.tkp 16 rfl [17] hD (fun _ hw => RunV.fieldAddrL rfl rfl rfl) ?_ | refine SatD.tkp 16 rfl [17] hD (fun _ hw => RunV.fieldAddr rfl rfl rfl) ?_
  refine SatD.ef 9 rfl (OpW.pure (RunV.loadRowAt (vs := fir x) hS rfl rfl (by repeat constructor) rfl (fun j v hj => dget' hx (by omega) hj)) rfl ?_)
  refine keepS (hS.sel (by repeat constructor)) (fun hD => ?_)
  refine SatD.tk 13 rfl hD (fun _ hw => RunV.indexA rfl rfl rfl (by omega) (by omega) rfl) ?_
  refine SatD.ef 14 rfl (OpW.storeRowAt (T := 53) (vs := fir x) (cs := dcs room fuse down fs) hS rfl rfl .agg (by rw [dcs_len h4, fir_len]; omega) (drow' (i := m.toNat) (y := x) (by omega) (by omega)) (by repeat constructor) rfl (by simp only [List.all_cons, List.all_nil, hx1, Bool.and_true]; rfl) ?_)
  clear hS
  intro w3 hS
  refine keepS (hS.sel (by repeat constructor)) (fun hD => ?_)
  refine SatD.tk 17 rfl hD (fun _ hw => RunV.indexA rfl rfl rfl (by omega) (by omega) rfl) ?_
  refine SatD.effF (by kernel_rfl) rfl rfl (OpW.storeRowAt (T := 53) (vs := fir zfi) (cs := dcs room fuse down (fs.set m.toNat x)) hS rfl rfl .agg (by rw [dcs_len (by rw [List.length_set]; exact h4), fir_len]; omega) (drow' (i := n.toNat) (y := zfi) (by rw [List.length_set]; omega) (by omega)) (by repeat constructor) rfl rfl ?_)
  clear hS
  intro w4 hS
  refine SatD.done 0 (by kernel_rfl) ?_
  clear hD
  refine SatE.fin0 rfl ?_
  exact hS.sel (by repeat constructor)
theorem rename_any {d : Dk} (n m : Int) (ho : d.Ok) (hrep : Rep d fs) (hown : Own w (PO b d fs)) :
    Ret Try.prog 22 #[.pointer (some ⟨b, 0, none⟩), .int .i64 n, .int .i64 m] w fun u w' => u = .int .i64 (aRename d n m).1 ∧ ∃ fs', Rep (aRename d n m).2 fs' ∧ St w ((PO b d fs).map Prod.fst) (PO b (aRename d n m).2 fs') w' := by
  have hS := St.init hown
  obtain ⟨room, fuse, down, fa⟩ := d
  have h4 := hrep.four ho
  obtain ⟨_, hsy, hfu, hroom, hused⟩ := ho
  obtain ⟨hsl, hab⟩ := hrep
  dsimp only at *
  generalize hX : (DO b room fuse down fs).map Prod.fst = X at hS ⊢
  simp only [PO, DO] at hS
  refine Ret.enter Try.func22 Try.ntmps22 rfl rfl ?_
  simp only [argEnv, Nat.reduceAdd]
  refine SatC.seq ?_
  refine SatC.region ?_
  refine SatL.op rfl (OpW.box hS rfl rfl (by repeat constructor) ?_)
  clear hS
  intro b3 w1 _ hS
  refine SatL.op rfl (OpW.box hS rfl rfl (by repeat constructor) ?_)
  clear hS
  intro b4 w2 _ hS
  refine SatL.op rfl (OpW.box hS rfl rfl (by repeat constructor) ?_)
  clear hS
  intro b5 w3 _ hS
  refine SatL.pu (RunV.assign rfl) rfl ?_
  refine SatL.nil (SatE.thenC ?_)
  refine SatC.seq ?_
  refine SatC.region ?_
  refine SatL.pu (RunV.load1 hS rfl rfl (by repeat constructor) rfl) rfl ?_
  refine SatL.pu (RunV.mkFunc rfl) rfl ?_
  refine SatL.pu (RunV.mkFunc rfl) rfl ?_
  refine SatL.pu (RunV.build rfl (by simp [go_sem]; try rfl)) rfl ?_
  refine SatL.op rfl (OpW.buildSlice1 hS rfl rfl rfl rfl rfl (by repeat constructor) rfl rfl rfl ?_)
  clear hS
  intro b11 w4 _ hS
  refine SatL.op rfl (OpW.enter rfl rfl rfl (rfl) (write_any (b := b) (room := room) (fuse := fuse) (down := down) (fs := fs) (qs := [⟨43, [.pointer (some ⟨b4, 0, none⟩), .pointer (some ⟨b5, 0, none⟩)], 2, decide ((0 ≤ n ∧ n < 4) ∧ (0 ≤ m ∧ m < 4) ∧ ¬ n = m)⟩]) (E := (b3, C 24 [.pointer (some ⟨b, 0, none⟩)]) :: (b4, C 3 [.int .i64 n]) :: (b5, C 3 [.int .i64 m]) :: dbl fs) (R := fun w' => ∃ fs', Rep ⟨room, burnF fuse, down, (fa.set m.toNat (fa[n.toNat]?.getD ([], 0))).set n.toNat ([], 0)⟩ fs' ∧ St w X (DO b room (burnF fuse) down fs') w') h4 hfu.1 hfu.2 (by rfl) (by
    intro q hq
    simp only [List.mem_singleton] at hq
    subst hq
    exact ⟨by rfl, fun W' h => ask_rename ((hS.callN h).ownT (A := [(b4, C 3 [.int .i64 n]), (b5, C 3 [.int .i64 m])]) (by repeat constructor))⟩)
    (Sl.qs1 _ b11) (by simp) rfl (by
    intro hme hz W' h
    obtain ⟨_, hn, hm, hne⟩ := mayE0_one hme
    obtain ⟨x, hx⟩ := get_some fs n.toNat (by omega)
    have hxsl := hsl x (List.mem_of_getElem? hx)
    refine (do_rename (room := room) (fuse := burnF fuse) (down := down) h4 hn hm hx hxsl.one (h.ownT (by repeat constructor))).mono ?_
    rintro u w'' h2
    refine ⟨(fs.set m.toNat x).set n.toNat zfi, ⟨SlF.set (SlF.set hsl hxsl) .nil, by rw [ab_set, ab_set, hab, ← hab, get_ab hx]; rfl⟩, ?_⟩
    obtain ⟨T, hT⟩ := dbl_rename hx (j := m.toNat) (by omega) (by omega)
    show St w X ((b, _) :: dbl ((fs.set m.toNat x).set n.toNat zfi)) w''
    generalize dbl ((fs.set m.toNat x).set n.toNat zfi) = D2 at hT ⊢
    generalize dbl fs = D at hS h hT ⊢
    have h3 := (St.callT (hS.callT (A := (b11, _) :: (b, _) :: (b3, _) :: (b4, _) :: (b5, _) :: D) (by repeat constructor) h) (A := [(b3, _), (b4, _), (b5, _), (b, _)]) (by repeat constructor) h2).sel (R := (b, C 53 (dcs room (burnF fuse) down ((fs.set m.toNat x).set n.toNat zfi))) :: D) (by repeat constructor)
    exact (h3.perm (hT.cons _)).sel (by repeat constructor))
    (hS.ownT (by repeat constructor))) ?_)
  rintro r5 w5 h
  refine SatL.pu (RunV.assign rfl) rfl ?_
  refine SatL.nil (SatE.thenC ?_)
  refine SatC.ret ?_
  refine SatE.ret1 rfl rfl ?_
  rcases h with ⟨hm, rfl, h⟩ | ⟨hm, hz, rfl, h⟩ | ⟨hm, hz, rfl, h⟩
  · rw [show aRename ⟨room, fuse, down, fa⟩ n m = _ from aw_no (d := ⟨room, fuse, down, fa⟩) hm]
    exact ⟨rfl, fs, ⟨hsl, hab⟩, (hS.callT (by repeat constructor) h).sel (by repeat constructor)⟩
  · obtain ⟨hd, hn⟩ := mayE0_one hm
    rw [show aRename ⟨room, fuse, down, fa⟩ n m = (50, ⟨room, fuse, true, fa⟩) from aw_burn (d := ⟨room, fuse, down, fa⟩) hd hn hz]
    exact ⟨rfl, fs, ⟨hsl, hab⟩, (hS.callT (by repeat constructor) h).sel (by repeat constructor)⟩
  · obtain ⟨hd, hn⟩ := mayE0_one hm
    rw [show aRename ⟨room, fuse, down, fa⟩ n m = (0, _) from aw_yes (d := ⟨room, fuse, down, fa⟩) hd hn hz]
    exact ⟨rfl, h⟩
end
end Go.Proofs.Ytahholhggohbnaa
