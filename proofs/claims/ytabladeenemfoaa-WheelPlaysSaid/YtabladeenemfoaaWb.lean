/- A timer hangs at its place, and is taken from it. -/
import Derived.Test.YtabladeenemfoaaWa
import Derived.Test.YtabladeenemfoaaK32
set_option linter.unusedSimpArgs false
set_option linter.unusedVariables false
set_option maxRecDepth 100000
set_option maxHeartbeats 4000000
namespace Go.Proofs.Ytabladeenemfoaa
open Go.RowKit
/-- A wheel in plain words: the tick, the timers as the map has them, the numbers that hang at each place. -/
structure Wl where
  now : Nat
  ts : List Tm
  ls : List (List Int)
def tput : List Tm → Tm → List Tm
  | [], t => [t]
  | x :: l, t => if t.id = x.id then t :: l else x :: tput l t
def tdel : List Tm → Int → List Tm
  | [], _ => []
  | x :: l, k => if k = x.id then l else x :: tdel l k
def tget : List Tm → Int → Option Tm
  | [], _ => none
  | x :: l, k => if k = x.id then some x else tget l k
theorem kput_t (ts : List Tm) (t : Tm) : kput (ts.map tkv) t.id (tkv t).2 = (tput ts t).map tkv := by
  induction ts with
  | nil => rfl
  | cons x l ih =>
    simp only [List.map_cons, kput, tput]
    split
    · rfl
    · rw [ih]; rfl
theorem kdel_t (ts : List Tm) (k : Int) : kdel (ts.map tkv) k = (tdel ts k).map tkv := by
  induction ts with
  | nil => rfl
  | cons x l ih =>
    simp only [List.map_cons, kdel, tdel]
    split
    · rfl
    · rw [ih]; rfl
theorem kget_t (ts : List Tm) (k : Int) : kget (ts.map tkv) k = (tget ts k).map fun t => (tkv t).2 := by
  induction ts with
  | nil => rfl
  | cons x l ih =>
    simp only [List.map_cons, kget, tget]
    split
    · rfl
    · exact ih
def slot (rim at_ : Nat) : Nat := 64 * rim + at_
@[reducible] def WO (b m : Nat) (mo : Obj) (now : Nat) (hs : List Pl) : List (Nat × Obj) := (b, C 48 (wcs now m hs)) :: (m, mo) :: hbl hs
def SlP (hs : List Pl) : Prop := ∀ x ∈ hs, Sl 3 1 x.v (x.l.map ri) x.B
/-- A wheel in memory. -/
structure Whl (b m : Nat) (W : Wl) (L : List (Nat × Obj)) : Prop where
  len : W.ls.length = 192
  few : ∀ l ∈ W.ls, l.length ≤ 1000
  rep : ∃ mo hs, Mp encI mo (W.ts.map tkv) ∧ hs.map (·.l) = W.ls ∧ SlP hs ∧ L = WO b m mo W.now hs
theorem ls_at {p s : List Pl} {x y : Pl} {ls : List (List Int)} {q : Nat} {g : List Int → List Int} (h : (p ++ x :: s).map (·.l) = ls) (hp : p.length = q) (hy : y.l = g x.l) : (p ++ y :: s).map (·.l) = upd g q ls := by
  rw [← h, List.map_append, List.map_append, List.map_cons, List.map_cons, show q = (p.map (·.l)).length from by rw [List.length_map, hp], upd_at, hy]
theorem SlP.upd {p s : List Pl} {x y : Pl} (h : SlP (p ++ x :: s)) (hy : Sl 3 1 y.v (y.l.map ri) y.B) : SlP (p ++ y :: s) := by
  intro z hz
  rcases List.mem_append.1 hz with hz | hz
  · exact h z (List.mem_append_left _ hz)
  · rcases List.mem_cons.1 hz with rfl | hz
    · exact hy
    · exact h z (List.mem_append_right _ (List.mem_cons_of_mem _ hz))
theorem wrim_lt (now due : Nat) : wrim now due < 3 := by
  unfold wrim
  split
  · decide
  · split <;> decide
theorem wat_lt (now due : Nat) : wat now due < 64 := Nat.mod_lt _ (by decide)
def aHang (W : Wl) (id : Int) (due : Nat) : Wl := { W with ts := tput W.ts ⟨id, due, wrim W.now due, wat W.now due⟩, ls := upd (fun l => l ++ [id]) (slot (wrim W.now due) (wat W.now due)) W.ls }
section
variable {b m : Nat} {W : Wl} {L : List (Nat × Obj)} {w : World}
theorem hang_d (id : Int) (due : Nat) (hn : W.now ≤ 1000000000) (hd : due ≤ 1000000000) (hfew : ∀ l ∈ W.ls, l.length ≤ 900) (h : Whl b m W L) (hown : Own w L) :
    Ret Try.prog 27 #[.pointer (some ⟨b, 0, none⟩), .int .i64 id, .int .i64 (due : Int)] w fun u w' => ∃ L', Whl b m (aHang W id due) L' ∧ St w (L.map Prod.fst) L' w' := by
  obtain ⟨now, ts, ls⟩ := W
  obtain ⟨hlen, _, mo, hs, hmp, hls, hsl, rfl⟩ := h
  dsimp only at *
  have hS := St.init hown
  have hl192 : hs.length = 192 := by rw [← hlen, ← hls, List.length_map]
  have hr3 := wrim_lt now due
  have ha64 := wat_lt now due
  obtain ⟨p, x, s, hhs, hp⟩ := split_at (l := hs) (n := slot (wrim now due) (wat now due)) (by unfold slot; omega)
  subst hhs
  have hxsl := hsl x (by simp)
  have hxl : x.l.length ≤ 900 := hfew x.l (by rw [← hls]; exact List.mem_map_of_mem (by simp))
  obtain ⟨xc, hxv⟩ := hxsl.slv
  rw [List.length_map] at hxv
  generalize hX : (WO b m mo now (p ++ x :: s)).map Prod.fst = X at hS ⊢
  simp only [WO, hbl, List.flatMap_append, List.flatMap_cons, List.append_assoc, List.cons_append, List.nil_append] at hS
  generalize hDp : List.flatMap (fun x : Pl => x.B) p = Dp at hS
  generalize hDs : List.flatMap (fun x : Pl => x.B) s = Ds at hS
  unfold slot at hp
  unfold aHang slot
  refine Ret.enter Try.func27 Try.ntmps27 rfl rfl ?_
  simp only [argEnv, Nat.reduceAdd]
  refine SatC.seq ?_
  refine SatC.region ?_
  refine SatL.pu (RunV.move rfl) rfl ?_
  refine SatL.pu (RunV.move rfl) rfl ?_
  refine SatL.op rfl (OpW.enter rfl rfl rfl (rfl) (where_any due hn hd (hS.ownT (A := [(b, C 48 (wcs now m (p ++ x :: s)))]) (by repeat constructor))) ?_)
  rintro r1 w1 ⟨rfl, h⟩
  replace hS := St.callN hS h
  refine SatL.op rfl (OpW.alloc hS rfl rfl (by repeat constructor) ?_)
  clear hS
  intro b6 w2 _ hS
  refine SatL.op rfl (OpW.store hS rfl rfl (by repeat constructor) (by repeat constructor) (by repeat constructor) rfl rfl ?_)
  clear hS
  intro w3 hS
  refine SatL.nil (SatE.thenC ?_)
  refine SatC.seq ?_
  refine SatC.drawnT 8 hS (hS) (by kernel_rfl) ?_
  clear hS
  intro w4 hh hS hD
  refine SatD.tk 0 rfl hD (fun _ hw => RunV.move rfl) ?_
  first | refine SatD.tk 1 rfl hD (fun _ hw => RunV.nil_ptr rfl) ?_ | refine SatD.tk 1 rfl hD (fun _ hw => RunV.nil_func rfl) ?_ | refine SatD.tk 1 rfl hD (fun _ hw => RunV.nil_yield rfl) ?_
  first | refine SatD.tk 2 rfl hD (fun _ hw => RunV.fieldAddrL rfl rfl rfl) ?_ | refine SatD.tk 2 rfl hD (fun _ hw => RunV.fieldAddr rfl rfl rfl) ?_
  refine SatD.tk 3 rfl hD (fun _ hw => RunV.load1 hw rfl rfl (by repeat constructor) rfl) ?_
  refine SatD.tk 4 rfl hD (fun _ hw => RunV.move rfl) ?_
  refine SatD.tk 5 rfl hD (fun _ hw => RunV.move rfl) ?_
  refine SatD.tk 6 rfl hD (fun _ hw => RunV.loadN hw rfl rfl (by repeat constructor) (by repeat constructor)) ?_
  refine SatD.tk 7 rfl hD (fun _ hw => RunV.build rfl (by simp [go_sem]; try rfl)) ?_
  refine SatD.effF (by kernel_rfl) rfl rfl (OpW.mapUpdateM (keyInt rfl) hS rfl rfl rfl rfl hmp _ (fun o' => by repeat constructor) ?_)
  clear hS
  intro o8 w5 hmp8 hS
  refine SatD.done 0 (by kernel_rfl) (SatE.thenC ?_)
  clear hD
  refine SatC.weak (e' := [(0, _), (1, _), (6, _)]) (by repeat constructor) ?_
  refine SatC.drawnT 22 hS (hS.sel (R := [(b6, C 57 [.int .i64 (wrim now due : Int), .int .i64 (wat now due : Int)]), (b, C 48 (wcs now m (p ++ x :: s)))]) (by repeat constructor)) (by kernel_rfl) ?_
  clear hS
  intro w6 hh hS hD
  refine SatD.tk 0 rfl hD (fun _ hw => RunV.move rfl) ?_
  first | refine SatD.tk 1 rfl hD (fun _ hw => RunV.fieldAddrL rfl rfl rfl) ?_ | refine SatD.tk 1 rfl hD (fun _ hw => RunV.fieldAddr rfl rfl rfl) ?_
  refine SatD.tk 2 rfl hD (fun _ hw => RunV.load1 hw rfl rfl (by repeat constructor) rfl) ?_
  first | refine SatD.tk 3 rfl hD (fun _ hw => RunV.fieldAddrL rfl rfl rfl) ?_ | refine SatD.tk 3 rfl hD (fun _ hw => RunV.fieldAddr rfl rfl rfl) ?_
  refine SatD.tk 4 rfl hD (fun _ hw => RunV.load1 hw rfl rfl (by repeat constructor) rfl) ?_
  refine SatD.tk 5 rfl hD (fun _ hw => RunV.move rfl) ?_
  first | refine SatD.tk 6 rfl hD (fun _ hw => RunV.fieldAddrL rfl rfl rfl) ?_ | refine SatD.tk 6 rfl hD (fun _ hw => RunV.fieldAddr rfl rfl rfl) ?_
  refine SatD.tk 7 rfl hD (fun _ hw => RunV.load1 hw rfl rfl (by repeat constructor) rfl) ?_
  first | refine SatD.tk 8 rfl hD (fun _ hw => RunV.fieldAddrL rfl rfl rfl) ?_ | refine SatD.tk 8 rfl hD (fun _ hw => RunV.fieldAddr rfl rfl rfl) ?_
  refine SatD.tk 9 rfl hD (fun _ hw => RunV.load1 hw rfl rfl (by repeat constructor) rfl) ?_
  first | refine SatD.tk 10 rfl hD (fun _ hw => RunV.nil_ptr rfl) ?_ | refine SatD.tk 10 rfl hD (fun _ hw => RunV.nil_func rfl) ?_ | refine SatD.tk 10 rfl hD (fun _ hw => RunV.nil_yield rfl) ?_
  first | refine SatD.tk 11 rfl hD (fun _ hw => RunV.fieldAddrL rfl rfl rfl) ?_ | refine SatD.tk 11 rfl hD (fun _ hw => RunV.fieldAddr rfl rfl rfl) ?_
  refine SatD.tk 12 rfl hD (fun _ hw => RunV.indexA rfl rfl rfl (by omega) (by omega) rfl) ?_
  refine SatD.tk 13 rfl hD (fun _ hw => RunV.indexA rfl rfl rfl (by omega) (by omega) rfl) ?_
  refine SatD.tk 14 rfl hD (fun _ hw => RunV.load1 hw rfl rfl (by repeat constructor) (wget (by omega))) ?_
  refine SatD.tk 15 rfl hD (fun _ hw => RunV.move rfl) ?_
  first | refine SatD.tkp 18 rfl [21, 20, 19] hD (fun _ hw => RunV.nil_ptr rfl) ?_ | refine SatD.tkp 18 rfl [21, 20, 19] hD (fun _ hw => RunV.nil_func rfl) ?_ | refine SatD.tkp 18 rfl [21, 20, 19] hD (fun _ hw => RunV.nil_yield rfl) ?_
  first | refine SatD.tkp 19 rfl [21, 20] hD (fun _ hw => RunV.fieldAddrL rfl rfl rfl) ?_ | refine SatD.tkp 19 rfl [21, 20] hD (fun _ hw => RunV.fieldAddr rfl rfl rfl) ?_
  refine SatD.tkp 20 rfl [21] hD (fun _ hw => RunV.indexA rfl rfl rfl (by omega) (by omega) rfl) ?_
  refine SatD.ef 16 rfl (OpW.buildSlice1 hS rfl rfl rfl rfl rfl (by repeat constructor) rfl rfl rfl ?_)
  clear hS
  intro b34 w7 _ hS
  refine keepS (hS.sel (by repeat constructor)) (fun hD => ?_)
  refine SatD.ef 17 rfl (OpW.append1 hxsl hS (by repeat constructor) rfl rfl (by repeat constructor) rfl rfl rfl rfl rfl rfl rfl rfl (by rw [List.length_map]; omega) rfl ?_)
  clear hS
  intro v35 B35 w8 hsl35 hS
  refine keepS (hS.sel (by repeat constructor)) (fun hD => ?_)
  refine SatD.tk 21 rfl hD (fun _ hw => RunV.indexA rfl rfl rfl (by omega) (by omega) rfl) ?_
  refine SatD.effF (by kernel_rfl) rfl rfl (OpW.storeAt (T := 48) (cs := wcs now m (p ++ x :: s)) hS rfl rfl (by rw [wcs_len hl192]; omega) (wset (y := ⟨v35, x.l ++ [id], B35⟩) (by omega)) (by repeat constructor) rfl hsl35.one ?_)
  clear hS
  intro w9 hS
  refine SatD.done 0 (by kernel_rfl) ?_
  clear hD
  refine SatE.fin0 rfl ?_
  refine ⟨_, ⟨by rw [upd_len]; exact hlen, fun l hl => ?_, o8, p ++ ⟨v35, x.l ++ [id], B35⟩ :: s, by rw [← kput_t]; exact hmp8, ls_at (g := fun l => l ++ [id]) (y := ⟨v35, x.l ++ [id], B35⟩) hls hp rfl, hsl.upd (by rw [List.map_append]; exact hsl35), rfl⟩, ?_⟩
  · rcases upd_mem hl with hl | ⟨y, hy, rfl⟩
    · have := hfew l hl; omega
    · have := hfew y (List.mem_of_getElem? hy)
      rw [List.length_append]
      show y.length + 1 ≤ 1000
      omega
  · simp only [WO, hbl, List.flatMap_append, List.flatMap_cons, List.append_assoc, List.cons_append, List.nil_append]
    rw [hDp, hDs]
    exact hS.sel (by repeat constructor)
end
end Go.Proofs.Ytabladeenemfoaa
