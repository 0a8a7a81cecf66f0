/- One is taken out; a packet arrives, or is lost. -/
import Derived.Test.YtpnkcoahbadnjaaFb
set_option linter.unusedSimpArgs false
set_option linter.unusedVariables false
set_option maxRecDepth 100000
set_option maxHeartbeats 4000000
namespace Go.Proofs.Ytpnkcoahbadnjaa
open Go.RowKit
section
variable {b : Nat} {v : Value} {most given : Int} {B D : List (Nat × Obj)} {l : List Fl} {w : World}
theorem fr_one {D : List (Nat × Obj)} {l : List Fl} (hab : AllBd D l) {l' : List Fl} (hs : ∀ x ∈ l', x ∈ l) : ∀ r ∈ l'.map fr, ∀ u ∈ r, u.oneCell' = true := by
  intro r hr u hu
  obtain ⟨x, hx, rfl⟩ := List.mem_map.1 hr
  have h1 := (hab x (hs x hx)).1.one
  simp only [fr, List.mem_cons, List.not_mem_nil, or_false] at hu
  rcases hu with rfl | rfl | rfl | rfl
  · rfl
  · rfl
  · rfl
  · exact h1
theorem out_any (k : Nat) (x : Fl) (hx : l[k]? = some x) (hl : l.length ≤ 100000) (hab : AllBd D l) (hsl : Sl 32 4 v (l.map fr) B) (hown : Own w (FO b v most given B D)) :
    Ret Try.prog 26 #[.pointer (some ⟨b, 0, none⟩), .int .i64 (k : Int)] w fun u w' => u = .agg (fr x).toArray ∧ ∃ v' B', Sl 32 4 v' ((l.eraseIdx k).map fr) B' ∧ St w ((FO b v most given B D).map Prod.fst) (FO b v' most given B' D) w' := by
  have hS := St.init hown
  have hk : k < l.length := (List.getElem?_eq_some_iff.1 hx).1
  have hx1 := (hab x (List.mem_of_getElem? hx)).1.one
  obtain ⟨c0, hv0⟩ := hsl.slv
  simp only [List.length_map] at hv0
  generalize hX : (FO b v most given B D).map Prod.fst = X at hS ⊢
  refine Ret.enter Try.func26 Try.ntmps26 rfl rfl ?_
  simp only [argEnv, Nat.reduceAdd]
  refine SatC.seq ?_
  refine SatC.region ?_
  refine SatL.op rfl (OpW.alloc hS rfl rfl (by repeat constructor) ?_)
  clear hS
  intro b4 w1 _ hS
  refine SatL.nil (SatE.thenC ?_)
  refine SatC.seq ?_
  refine SatC.region ?_
  refine SatL.pu (RunV.move rfl) rfl ?_
  first | refine SatL.pu (RunV.nil_ptr rfl) rfl ?_ | refine SatL.pu (RunV.nil_func rfl) rfl ?_ | refine SatL.pu (RunV.nil_yield rfl) rfl ?_
  first | refine SatL.pu (RunV.fieldAddrL rfl rfl rfl) rfl ?_ | refine SatL.pu (RunV.fieldAddr rfl rfl rfl) rfl ?_
  refine SatL.pu (RunV.load1 hS rfl rfl (by repeat constructor) rfl) rfl ?_
  refine SatL.pu (RunV.move rfl) rfl ?_
  first | refine SatL.pu (RunV.indexR (by assumption) rfl rfl rfl (by omega) (by omega) rfl) rfl ?_ | refine SatL.pu (RunV.indexS rfl rfl rfl (by omega) (by omega) rfl) rfl ?_
  first | refine SatL.pu (RunV.loadRNz (RdC.st (by assumption) hS List.not_mem_nil) rfl rfl (by first | assumption | exact map_get (by assumption))) rfl ?_ | refine SatL.pu (RunV.loadRNz (Sl.rd (by assumption) hS (by repeat constructor)) rfl rfl (by first | assumption | exact map_get (by assumption))) rfl ?_
  refine SatL.op rfl (OpW.alloc hS rfl rfl (by repeat constructor) ?_)
  clear hS
  intro b5 w2 _ hS
  refine SatL.op rfl (OpW.store hS rfl rfl (by repeat constructor) (by repeat constructor) (by repeat constructor) rfl (by simp only [List.all_cons, List.all_nil, hx1, Bool.and_true]; rfl) ?_)
  clear hS
  intro w3 hS
  refine SatL.nil (SatE.thenC ?_)
  refine SatC.seq ?_
  refine SatC.drawnT 19 hS (hS.sel (R := [(b, C 59 [v, .int .i64 most, .int .i64 given])]) (by repeat constructor)) (by kernel_rfl) ?_
  clear hS
  intro w4 hh hS hD
  refine SatD.tk 0 rfl hD (fun _ hw => RunV.move rfl) ?_
  refine SatD.tk 2 rfl hD (fun _ hw => RunV.move rfl) ?_
  first | refine SatD.tk 3 rfl hD (fun _ hw => RunV.nil_ptr rfl) ?_ | refine SatD.tk 3 rfl hD (fun _ hw => RunV.nil_func rfl) ?_ | refine SatD.tk 3 rfl hD (fun _ hw => RunV.nil_yield rfl) ?_
  first | refine SatD.tk 4 rfl hD (fun _ hw => RunV.fieldAddrL rfl rfl rfl) ?_ | refine SatD.tk 4 rfl hD (fun _ hw => RunV.fieldAddr rfl rfl rfl) ?_
  refine SatD.tk 5 rfl hD (fun _ hw => RunV.load1 hw rfl rfl (by repeat constructor) rfl) ?_
  refine SatD.tk 6 rfl hD (fun _ hw => RunV.move rfl) ?_
  refine SatD.tk 7 rfl hD (fun _ hw => RunV.cutHv hv0 rfl rfl rfl rfl (by omega) (by omega)) ?_
  refine SatD.tk 9 rfl hD (fun _ hw => RunV.move rfl) ?_
  first | refine SatD.tk 10 rfl hD (fun _ hw => RunV.nil_ptr rfl) ?_ | refine SatD.tk 10 rfl hD (fun _ hw => RunV.nil_func rfl) ?_ | refine SatD.tk 10 rfl hD (fun _ hw => RunV.nil_yield rfl) ?_
  first | refine SatD.tk 11 rfl hD (fun _ hw => RunV.fieldAddrL rfl rfl rfl) ?_ | refine SatD.tk 11 rfl hD (fun _ hw => RunV.fieldAddr rfl rfl rfl) ?_
  refine SatD.tk 12 rfl hD (fun _ hw => RunV.load1 hw rfl rfl (by repeat constructor) rfl) ?_
  refine SatD.tk 13 rfl hD (fun _ hw => RunV.move rfl) ?_
  refine SatD.tk 14 rfl hD (fun _ hw => RunV.add rfl rfl (by first | exact wrapI64 (by omega) | rfl)) ?_
  refine SatD.tk 15 rfl hD (fun _ hw => RunV.cutLv hv0 rfl rfl rfl rfl (by omega) (by omega)) ?_
  refine SatD.ef 1 rfl (OpW.buildSlice0 hS rfl rfl rfl ?_)
  clear hS
  intro v14 b14 w5 _ hsl14 hv14 hS
  refine keepS (hS.sel (by repeat constructor)) (fun hD => ?_)
  refine SatD.ef 8 rfl (OpW.appendN (news := (l.take k).map fr) hsl14 hS (by repeat constructor) (SlV.cutV 4 hv0 (Nat.zero_le k) (by omega)) (by rw [Nat.zero_mul, Nat.add_zero, List.map_take]; exact (hsl.rd hS (by repeat constructor)).take) (by rw [List.length_map, List.length_take]; omega) rfl rfl rfl rfl rfl rfl rfl (fr_one hab (fun x hx => List.mem_of_mem_take hx)) (by simp only [List.length_nil]; omega) rfl ?_)
  clear hS
  intro v21 B21 w6 hsl21 hS
  rw [List.nil_append] at hsl21
  refine keepS (hS.sel (by repeat constructor)) (fun hD => ?_)
  refine SatD.ef 16 rfl (OpW.appendN (news := (l.drop (k + 1)).map fr) hsl21 hS (by repeat constructor) (SlV.cutV 4 hv0 (show k + 1 ≤ l.length by omega) (Nat.le_refl _)) (by rw [List.map_drop]; exact (hsl.rd hS (by repeat constructor)).cut) (by rw [List.length_map, List.length_drop]) rfl rfl rfl rfl rfl rfl rfl (fr_one hab (fun x hx => List.mem_of_mem_drop hx)) (by rw [List.length_map, List.length_take]; omega) rfl ?_)
  clear hS
  intro v29 B29 w7 hsl29 hS
  rw [← List.map_append, ← List.eraseIdx_eq_take_drop_succ] at hsl29
  refine keepS (hS.sel (by repeat constructor)) (fun hD => ?_)
  first | refine SatD.tkp 17 rfl [18] hD (fun _ hw => RunV.nil_ptr rfl) ?_ | refine SatD.tkp 17 rfl [18] hD (fun _ hw => RunV.nil_func rfl) ?_ | refine SatD.tkp 17 rfl [18] hD (fun _ hw => RunV.nil_yield rfl) ?_
  first | refine SatD.tk 18 rfl hD (fun _ hw => RunV.fieldAddrL rfl rfl rfl) ?_ | refine SatD.tk 18 rfl hD (fun _ hw => RunV.fieldAddr rfl rfl rfl) ?_
  refine SatD.effF (by kernel_rfl) rfl rfl (OpW.storeSv hS rfl rfl (by assumption) (by repeat constructor) (by repeat constructor) rfl ?_)
  clear hS
  intro w8 hS
  refine SatD.done 0 (by kernel_rfl) (SatE.thenC ?_)
  clear hD
  refine SatC.seq ?_
  refine SatC.weak (e' := [(4, _), (5, _)]) (by repeat constructor) ?_
  refine SatC.region ?_
  refine SatL.pu (RunV.loadN hS rfl rfl (by repeat constructor) (by repeat constructor)) rfl ?_
  refine SatL.op rfl (OpW.store hS rfl rfl (by repeat constructor) (by repeat constructor) (by repeat constructor) rfl (by simp only [List.all_cons, List.all_nil, hx1, Bool.and_true]; rfl) ?_)
  clear hS
  intro w9 hS
  refine SatL.nil (SatE.thenC ?_)
  refine SatC.ret ?_
  refine SatE.retG1 hS rfl (.cellN rfl rfl (by repeat constructor) (by repeat constructor)) ?_
  exact ⟨rfl, v29, B29, hsl29, hS.sel (by repeat constructor)⟩
end
end Go.Proofs.Ytpnkcoahbadnjaa
