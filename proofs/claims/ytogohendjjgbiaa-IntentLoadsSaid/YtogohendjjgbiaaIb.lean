/- The closure that sort.Slice asks. -/
import Derived.Test.YtogohendjjgbiaaIa
set_option linter.unusedSimpArgs false
set_option linter.unusedVariables false
set_option maxRecDepth 100000
set_option maxHeartbeats 4000000
namespace Go.Proofs.Ytogohendjjgbiaa
open Go.RowKit
theorem less_any {bl : Nat} {v : Value} {B : List (Nat × Obj)} {xs : List Itn} {i j : Nat} {a c : Itn} {w : World} (hsl : Sl 28 5 v (xs.map ic) B) (hl : xs.length ≤ 1000) (ha : xs[i]? = some a) (hc : xs[j]? = some c) (hown : Own w ((bl, C 22 [v]) :: B)) :
    Ret Try.prog 45 #[.int .i64 (i : Int), .int .i64 (j : Int), .pointer (some ⟨bl, 0, none⟩)] w fun u w' => u = .bool (firstI a c) ∧ St w [] [] w' := by
  have hS := St.init hown
  obtain ⟨vc, hv⟩ := hsl.slv
  rw [List.length_map] at hv
  have hil : i < xs.length := (List.getElem?_eq_some_iff.1 ha).1
  have hjl : j < xs.length := (List.getElem?_eq_some_iff.1 hc).1
  generalize hX : ((bl, C 22 [v]) :: B).map Prod.fst = X at hS
  have hro : ∀ {L w'}, St w X (L ++ ((bl, C 22 [v]) :: B)) w' → St w [] L w' := fun h => St.roL hown (by rw [hX]; exact h.perm List.perm_append_comm) .here
  refine Ret.enter Try.func45 Try.ntmps45 rfl rfl ?_
  simp only [argEnv, Nat.reduceAdd]
  refine SatC.seq ?_
  refine SatC.region ?_
  refine SatL.pu (RunV.assign rfl) rfl ?_
  refine SatL.nil (SatE.thenC ?_)
  refine SatC.seq ?_
  refine SatC.drawnT 10 hS (hS.sel (R := (bl, C 22 [v]) :: B) (by repeat constructor)) (by kernel_rfl) ?_
  clear hS
  intro w1 hh hS hD
  refine SatD.tk 0 rfl hD (fun _ hw => RunV.load1 hw rfl rfl (by repeat constructor) rfl) ?_
  refine SatD.tk 1 rfl hD (fun _ hw => RunV.move rfl) ?_
  first | refine SatD.tk 2 rfl hD (fun _ hw => RunV.indexR (by assumption) rfl rfl rfl (by omega) (by omega) rfl) ?_ | refine SatD.tk 2 rfl hD (fun _ hw => RunV.indexS rfl rfl rfl (by omega) (by omega) rfl) ?_
  refine SatD.tk 3 rfl hD (fun _ hw => RunV.loadRNz (Sl.rd hsl hw (by repeat constructor)) rfl rfl (map_get ha)) ?_
  refine SatD.tk 4 rfl hD (fun _ hw => RunV.load1 hw rfl rfl (by repeat constructor) rfl) ?_
  refine SatD.tk 5 rfl hD (fun _ hw => RunV.move rfl) ?_
  first | refine SatD.tk 6 rfl hD (fun _ hw => RunV.indexR (by assumption) rfl rfl rfl (by omega) (by omega) rfl) ?_ | refine SatD.tk 6 rfl hD (fun _ hw => RunV.indexS rfl rfl rfl (by omega) (by omega) rfl) ?_
  refine SatD.tk 7 rfl hD (fun _ hw => RunV.loadRNz (Sl.rd hsl hw (by repeat constructor)) rfl rfl (map_get hc)) ?_
  refine SatD.ef 8 rfl (OpW.enter rfl rfl rfl (rfl) (first_any _ _ _) ?_)
  rintro r2 w2 ⟨rfl, h⟩
  replace hS := St.callN hS h
  refine keepS (hS.sel (by repeat constructor)) (fun hD => ?_)
  refine SatD.tk 9 rfl hD (fun _ hw => RunV.assign rfl) ?_
  refine SatD.done 0 (by kernel_rfl) (SatE.thenC ?_)
  clear hD
  refine SatC.ret ?_
  refine SatE.ret1 rfl rfl ?_
  exact ⟨rfl, hro (L := []) (hS.sel (by repeat constructor))⟩
end Go.Proofs.Ytogohendjjgbiaa
