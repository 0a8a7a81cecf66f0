/- Synced, cut, renamed: calls that are done whole, or not at all. -/
import Derived.Test.YtahholhggohbnaaDc
set_option linter.unusedSimpArgs false
set_option linter.unusedVariables false
set_option maxRecDepth 100000
set_option maxHeartbeats 4000000
namespace Go.Proofs.Ytahholhggohbnaa
open Go.RowKit
def aWrite (d : Dk) (ok : Prop) [Decidable ok] (g : List Fa → List Fa) : Int × Dk :=
  if d.down = true then (50, d) else if ¬ ok then (2, d) else if d.fuse = 0 then (50, { d with down := true }) else (0, { d with fuse := burnF d.fuse, fs := g d.fs })
def lenA (fs : List Fa) (n : Int) : Nat := ((fs[n.toNat]?).map fun f => f.1.length).getD 0
def aSync (d : Dk) (n : Int) : Int × Dk := aWrite d (0 ≤ n ∧ n < 4) (upd (fun f => (f.1, (f.1.length : Int))) n.toNat)
def aCut (d : Dk) (n m : Int) : Int × Dk := aWrite d ((0 ≤ n ∧ n < 4) ∧ 0 ≤ m ∧ m ≤ lenA d.fs n) (upd (fun f => (f.1.take m.toNat, m)) n.toNat)
def aRename (d : Dk) (n m : Int) : Int × Dk := aWrite d ((0 ≤ n ∧ n < 4) ∧ (0 ≤ m ∧ m < 4) ∧ ¬ n = m) (fun fs => (fs.set m.toNat (fs[n.toNat]?.getD ([], 0))).set n.toNat ([], 0))
theorem aw_no {d : Dk} {ok : Prop} [Decidable ok] {g : List Fa → List Fa} {f1 : Nat} {c1 : List Value} (h : ¬ mayE d.down [⟨f1, c1, 2, decide ok⟩] = 0) : aWrite d ok g = (mayE d.down [⟨f1, c1, 2, decide ok⟩], d) := by
  rw [mayE_one] at h ⊢
  unfold aWrite
  by_cases h1 : d.down = true
  · rw [if_pos h1, if_pos h1]
  · rw [if_neg h1, if_neg h1]
    rw [if_neg h1] at h
    by_cases h2 : ok
    · rw [if_neg (not_not_intro h2)] at h
      exact absurd rfl h
    · rw [if_pos h2, if_pos h2]
theorem aw_burn {d : Dk} {ok : Prop} [Decidable ok] {g : List Fa → List Fa} (h1 : d.down = false) (h2 : ok) (h3 : d.fuse = 0) : aWrite d ok g = (50, { d with down := true }) := by
  unfold aWrite
  rw [if_neg (by rw [h1]; decide), if_neg (not_not_intro h2), if_pos h3]
theorem aw_yes {d : Dk} {ok : Prop} [Decidable ok] {g : List Fa → List Fa} (h1 : d.down = false) (h2 : ok) (h3 : ¬ d.fuse = 0) : aWrite d ok g = (0, { d with fuse := burnF d.fuse, fs := g d.fs }) := by
  unfold aWrite
  rw [if_neg (by rw [h1]; decide), if_neg (not_not_intro h2), if_neg h3]
theorem dget' {room fuse : Int} {down : Bool} {fs : List Fi} {x : Fi} {i o j : Nat} {v : Value} (hi : fs[i]? = some x) (ho : o = 2 + i * 2 + j) (hv : (fir x)[j]? = some v) : (dcs room fuse down fs)[o]? = some v := by
  have hl := (List.getElem?_eq_some_iff.1 hi).1
  obtain ⟨p, y, s, rfl, hp⟩ := split_at hl
  have : y = x := by
    rw [List.getElem?_append_right (by omega), hp, Nat.sub_self] at hi
    simpa using hi
  subst this
  exact dget (by omega) hv
theorem drow' {room fuse : Int} {down : Bool} {fs : List Fi} {i o : Nat} {y : Fi} (hi : i < fs.length) (ho : o = 2 + i * 2) : (dcs room fuse down fs).take o ++ fir y ++ (dcs room fuse down fs).drop (o + (fir y).length) = dcs room fuse down (fs.set i y) := by
  obtain ⟨p, z, s, rfl, hp⟩ := split_at hi
  rw [drow (by omega), ← hp, List.set_append_right (h := Nat.le_refl _), Nat.sub_self, List.set_cons_zero]
def zfi : Fi := ⟨.slice none 0 0, [], 0, []⟩
/-- Renaming lets a file's blocks go, and moves those of another. -/
theorem dbl_rename {fs : List Fi} {i j : Nat} {x : Fi} (hi : fs[i]? = some x) (hj : j < fs.length) (hne : i ≠ j) : ∃ T, (dbl fs).Perm (dbl ((fs.set j x).set i zfi) ++ T) := by
  have hil := (List.getElem?_eq_some_iff.1 hi).1
  rcases Nat.lt_or_gt_of_ne hne with h | h
  · obtain ⟨p, y, s, rfl, hp⟩ := split_at hj
    rw [List.getElem?_append_left (by omega)] at hi
    obtain ⟨q, z, r, rfl, hq⟩ := split_at (l := p) (n := i) (by omega)
    have : z = x := by
      rw [List.getElem?_append_right (by omega), hq, Nat.sub_self] at hi
      simpa using hi
    subst this
    refine ⟨y.B, ?_⟩
    rw [List.set_append_right (h := by omega), hp, Nat.sub_self, List.set_cons_zero, List.set_append_left (h := by simp; omega), List.set_append_right (h := by omega), hq, Nat.sub_self, List.set_cons_zero]
    simp only [dbl, List.flatMap_append, List.flatMap_cons, List.append_assoc, zfi, List.nil_append]
    refine List.Perm.append_left _ ?_
    refine (List.perm_append_comm_assoc _ _ _).trans (List.Perm.append_left _ (List.Perm.append_left _ ?_))
    exact List.perm_append_comm
  · obtain ⟨p, y, s, rfl, hp⟩ := split_at hil
    have : y = x := by
      rw [List.getElem?_append_right (by omega), hp, Nat.sub_self] at hi
      simpa using hi
    subst this
    obtain ⟨q, z, r, rfl, hq⟩ := split_at (l := p) (n := j) (by omega)
    refine ⟨z.B, ?_⟩
    rw [List.append_assoc, List.set_append_right (h := by omega), hq, Nat.sub_self, List.cons_append, List.set_cons_zero]
    have hq2 : (q ++ y :: r).length = i := by rw [← hp]; simp
    rw [show q ++ y :: (r ++ y :: s) = (q ++ y :: r) ++ y :: s from by simp, List.set_append_right (h := by omega), hq2, Nat.sub_self, List.set_cons_zero]
    simp only [dbl, List.flatMap_append, List.flatMap_cons, List.append_assoc, zfi, List.nil_append]
    refine List.Perm.append_left _ ?_
    refine List.perm_append_comm.trans ?_
    simp only [List.append_assoc]
    refine (List.perm_append_comm_assoc _ _ _).trans (List.Perm.append_left _ (List.Perm.append_left _ ?_))
    exact List.Perm.refl _
section
variable {b : Nat} {room fuse : Int} {down : Bool} {fs : List Fi} {w : World}
theorem ask_sync {b4 : Nat} {n : Int} (hown : Own w [(b4, C 3 [.int .i64 n])]) : Ret Try.prog 31 #[.pointer (some ⟨b4, 0, none⟩)] w fun u w' => u = .bool (decide (0 ≤ n ∧ n < 4)) ∧ St w [] [] w' := by
  have hS := St.init hown
  simp only [List.map_cons, List.map_nil] at hS
  refine Ret.enter Try.func31 Try.ntmps31 rfl rfl ?_
  simp only [argEnv, Nat.reduceAdd]
  refine SatC.seq ?_
  refine SatC.region ?_
  refine SatL.pu (RunV.assign rfl) rfl ?_
  refine SatL.nil (SatE.thenC ?_)
  refine SatC.seq ?_
  refine SatC.region ?_
  refine SatL.pu (RunV.load1 hS rfl rfl (by repeat constructor) rfl) rfl ?_
  refine SatL.op rfl (OpW.enter rfl rfl rfl (rfl) (there_any n _) ?_)
  rintro r1 w1 ⟨rfl, h⟩
  replace hS := St.callN hS h
  refine SatL.pu (RunV.assign rfl) rfl ?_
  refine SatL.nil (SatE.thenC ?_)
  refine SatC.ret ?_
  refine SatE.ret1 rfl rfl ?_
  exact ⟨rfl, St.ro hown hS (by repeat constructor)⟩
theorem do_sync {b2 b3 : Nat} {n : Int} {p s : List Fi} {x : Fi} (h4 : (p ++ x :: s).length = 4) (hn : 0 ≤ n ∧ n < 4) (hp : p.length = n.toNat) {xb xo xc : Nat} (hxv : SlV x.v xb xo x.b.length xc) (hown : Own w [(b2, C 24 [.pointer (some ⟨b, 0, none⟩)]), (b3, C 3 [.int .i64 n]), (b, C 53 (dcs room fuse down (p ++ x :: s)))]) :
    Ret Try.prog 30 #[.pointer (some ⟨b2, 0, none⟩), .pointer (some ⟨b3, 0, none⟩)] w fun u w' => St w [b2, b3, b] [(b2, C 24 [.pointer (some ⟨b, 0, none⟩)]), (b3, C 3 [.int .i64 n]), (b, C 53 (dcs room fuse down (p ++ ⟨x.v, x.b, x.b.length, x.B⟩ :: s)))] w' := by
  have hS := St.init hown
  simp only [List.map_cons, List.map_nil] at hS
  refine Ret.enter Try.func30 Try.ntmps30 rfl rfl ?_
  simp only [argEnv, Nat.reduceAdd]
  refine SatC.drawnT 14 hS (hS) (by kernel_rfl) ?_
  clear hS
  intro w1 hh hS hD
  refine SatD.tk 0 rfl hD (fun _ hw => RunV.load1 hw rfl rfl (by repeat constructor) rfl) ?_
  refine SatD.tk 1 rfl hD (fun _ hw => RunV.load1 hw rfl rfl (by repeat constructor) rfl) ?_
  refine SatD.tk 2 rfl hD (fun _ hw => RunV.load1 hw rfl rfl (by repeat constructor) rfl) ?_
  refine SatD.tk 3 rfl hD (fun _ hw => RunV.load1 hw rfl rfl (by repeat constructor) rfl) ?_
  first | refine SatD.tk 4 rfl hD (fun _ hw => RunV.nil_ptr rfl) ?_ | refine SatD.tk 4 rfl hD (fun _ hw => RunV.nil_func rfl) ?_ | refine SatD.tk 4 rfl hD (fun _ hw => RunV.nil_yield rfl) ?_
  first | refine SatD.tk 5 rfl hD (fun _ hw => RunV.fieldAddrL rfl rfl rfl) ?_ | refine SatD.tk 5 rfl hD (fun _ hw => RunV.fieldAddr rfl rfl rfl) ?_
  refine SatD.tk 6 rfl hD (fun _ hw => RunV.indexA rfl rfl rfl (by omega) (by omega) rfl) ?_
  first | refine SatD.tk 7 rfl hD (fun _ hw => RunV.fieldAddrL rfl rfl rfl) ?_ | refine SatD.tk 7 rfl hD (fun _ hw => RunV.fieldAddr rfl rfl rfl) ?_
  refine SatD.tk 8 rfl hD (fun _ hw => RunV.load1 hw rfl rfl (by repeat constructor) (dget (j := 0) (by omega) rfl)) ?_
  first | refine SatD.tk 9 rfl hD (fun _ hw => RunV.lenR (by assumption) rfl rfl) ?_ | refine SatD.tk 9 rfl hD (fun _ hw => RunV.lenS rfl rfl) ?_
  first | refine SatD.tkp 10 rfl [13, 12, 11] hD (fun _ hw => RunV.nil_ptr rfl) ?_ | refine SatD.tkp 10 rfl [13, 12, 11] hD (fun _ hw => RunV.nil_func rfl) ?_ | refine SatD.tkp 10 rfl [13, 12, 11] hD (fun _ hw => RunV.nil_yield rfl) ?_
  first | refine SatD.tkp 11 rfl [13, 12] hD (fun _ hw => RunV.fieldAddrL rfl rfl rfl) ?_ | refine SatD.tkp 11 rfl [13, 12] hD (fun _ hw => RunV.fieldAddr rfl rfl rfl) ?_
  refine SatD.tkp 12 rfl [13] hD (fun _ hw => RunV.indexA rfl rfl rfl (by omega) (by omega) rfl) ?_
  first | refine SatD.tk 13 rfl hD (fun _ hw => RunV.fieldAddrL rfl rfl rfl) ?_ | refine SatD.tk 13 rfl hD (fun _ hw => RunV.fieldAddr rfl rfl rfl) ?_
  refine SatD.effF (by kernel_rfl) rfl rfl (OpW.storeAt (T := 53) (cs := dcs room fuse down (p ++ x :: s)) hS rfl rfl (by rw [dcs_len h4]; omega) (dset (y := ⟨x.v, x.b, x.b.length, x.B⟩) (j := 1) (by omega) (by decide) rfl) (by repeat constructor) rfl rfl ?_)
  clear hS
  intro w2 hS
  refine SatD.done 0 (by kernel_rfl) ?_
  clear hD
  refine SatE.fin0 rfl ?_
  exact hS.sel (by repeat constructor)
theorem sync_any {d : Dk} (n : Int) (ho : d.Ok) (hrep : Rep d fs) (hown : Own w (PO b d fs)) :
    Ret Try.prog 10 #[.pointer (some ⟨b, 0, none⟩), .int .i64 n] w fun u w' => u = .int .i64 (aSync d n).1 ∧ ∃ fs', Rep (aSync d n).2 fs' ∧ St w ((PO b d fs).map Prod.fst) (PO b (aSync d n).2 fs') w' := by
  have hS := St.init hown
  obtain ⟨room, fuse, down, fa⟩ := d
  have h4 := hrep.four ho
  obtain ⟨_, hsy, hfu, hroom, hused⟩ := ho
  obtain ⟨hsl, hab⟩ := hrep
  dsimp only at *
  generalize hX : (DO b room fuse down fs).map Prod.fst = X at hS ⊢
  simp only [PO, DO] at hS
  refine Ret.enter Try.func10 Try.ntmps10 rfl rfl ?_
  simp only [argEnv, Nat.reduceAdd]
  refine SatC.seq ?_
  refine SatC.region ?_
  refine SatL.op rfl (OpW.box hS rfl rfl (by repeat constructor) ?_)
  clear hS
  intro b2 w1 _ hS
  refine SatL.op rfl (OpW.box hS rfl rfl (by repeat constructor) ?_)
  clear hS
  intro b3 w2 _ hS
  refine SatL.pu (RunV.assign rfl) rfl ?_
  refine SatL.nil (SatE.thenC ?_)
  refine SatC.seq ?_
  refine SatC.region ?_
  refine SatL.pu (RunV.load1 hS rfl rfl (by repeat constructor) rfl) rfl ?_
  refine SatL.pu (RunV.mkFunc rfl) rfl ?_
  refine SatL.pu (RunV.mkFunc rfl) rfl ?_
  refine SatL.pu (RunV.build rfl (by simp [go_sem]; try rfl)) rfl ?_
  refine SatL.op rfl (OpW.buildSlice1 hS rfl rfl rfl rfl rfl (by repeat constructor) rfl rfl rfl ?_)
  clear hS
  intro b9 w3 _ hS
  refine SatL.op rfl (OpW.enter rfl rfl rfl (rfl) (write_any (b := b) (room := room) (fuse := fuse) (down := down) (fs := fs) (qs := [⟨31, [.pointer (some ⟨b3, 0, none⟩)], 2, decide (0 ≤ n ∧ n < 4)⟩]) (E := (b2, C 24 [.pointer (some ⟨b, 0, none⟩)]) :: (b3, C 3 [.int .i64 n]) :: dbl fs) (R := fun w' => ∃ fs', Rep ⟨room, burnF fuse, down, upd (fun f => (f.1, (f.1.length : Int))) n.toNat fa⟩ fs' ∧ St w X (DO b room (burnF fuse) down fs') w') h4 hfu.1 hfu.2 (by rfl) (by
    intro q hq
    simp only [List.mem_singleton] at hq
    subst hq
    exact ⟨by rfl, fun W' h => ask_sync ((hS.callN h).ownT (A := [(b3, C 3 [.int .i64 n])]) (by repeat constructor))⟩)
    (Sl.qs1 _ b9) (by simp) rfl (by
    intro hm hz W' h
    obtain ⟨_, hn⟩ := mayE0_one hm
    obtain ⟨p, x, s, hfs, hp⟩ := split_at (l := fs) (n := n.toNat) (by omega)
    subst hfs
    have hxsl := hsl x (by simp)
    obtain ⟨xc, hxv⟩ := hxsl.slv
    rw [List.length_map] at hxv
    refine (do_sync (room := room) (fuse := burnF fuse) (down := down) h4 hn hp hxv (h.ownT (by repeat constructor))).mono ?_
    intro u w'' h2
    refine ⟨p ++ ⟨x.v, x.b, x.b.length, x.B⟩ :: s, ⟨hsl.upd hxsl, by rw [← hab]; exact ab_upd hp rfl⟩, ?_⟩
    have e : dbl (p ++ ⟨x.v, x.b, x.b.length, x.B⟩ :: s) = dbl (p ++ x :: s) := by simp [dbl]
    show St w X ((b, _) :: dbl (p ++ ⟨x.v, x.b, x.b.length, x.B⟩ :: s)) w''
    rw [e]
    generalize dbl (p ++ x :: s) = D at hS h ⊢
    exact (St.callT (hS.callT (A := (b9, _) :: (b, _) :: (b2, _) :: (b3, _) :: D) (by repeat constructor) h) (A := [(b2, _), (b3, _), (b, _)]) (by repeat constructor) h2).sel (by repeat constructor))
    (hS.ownT (by repeat constructor))) ?_)
  rintro r4 w4 h
  refine SatL.pu (RunV.assign rfl) rfl ?_
  refine SatL.nil (SatE.thenC ?_)
  refine SatC.ret ?_
  refine SatE.ret1 rfl rfl ?_
  rcases h with ⟨hm, rfl, h⟩ | ⟨hm, hz, rfl, h⟩ | ⟨hm, hz, rfl, h⟩
  · rw [show aSync ⟨room, fuse, down, fa⟩ n = (mayE down [⟨31, [.pointer (some ⟨b3, 0, none⟩)], 2, decide (0 ≤ n ∧ n < 4)⟩], ⟨room, fuse, down, fa⟩) from aw_no (d := ⟨room, fuse, down, fa⟩) hm]
    exact ⟨rfl, fs, ⟨hsl, hab⟩, (hS.callT (by repeat constructor) h).sel (by repeat constructor)⟩
  · obtain ⟨hd, hn⟩ := mayE0_one hm
    rw [show aSync ⟨room, fuse, down, fa⟩ n = (50, ⟨room, fuse, true, fa⟩) from aw_burn (d := ⟨room, fuse, down, fa⟩) hd hn hz]
    exact ⟨rfl, fs, ⟨hsl, hab⟩, (hS.callT (by repeat constructor) h).sel (by repeat constructor)⟩
  · obtain ⟨hd, hn⟩ := mayE0_one hm
    rw [show aSync ⟨room, fuse, down, fa⟩ n = (0, _) from aw_yes (d := ⟨room, fuse, down, fa⟩) hd hn hz]
    exact ⟨rfl, h⟩
end
end Go.Proofs.Ytahholhggohbnaa
