/- Contracts of chapter 02's sums of pieces, and of the known sum. -/
import Derived.Test.YtpajeienbdnkfaaB
set_option linter.unusedSimpArgs false
set_option linter.unusedVariables false
set_option maxRecDepth 100000
set_option maxHeartbeats 1000000
namespace Go.Proofs.Ytpajeienbdnkfaa
open Go.RowKit
@[reducible] def pc1 (p : Value × List (BitVec 8)) : List Value := [p.1]
def sumOf (s : BitVec 32) (ps : List (Value × List (BitVec 8))) : BitVec 32 := ps.foldl (fun s p => crc s p.2) s
theorem sum_any (v : Value) (ps : List (Value × List (BitVec 8))) (w : World) (hr : RdRow w v 1 (ps.map pc1)) (hp : ∀ p ∈ ps, RdRow w p.1 1 (p.2.map by1)) : Ret Try.prog 9 #[v] w fun u w' => u = u32 (sumOf 0#32 ps) ∧ St w [] [] w' := by
  have hS := St.init0 w
  obtain ⟨b, o, c, hv, hmax, hc, hlt⟩ := hr.open
  simp only [List.length_map] at hv hmax hlt
  refine Ret.enter Try.func9 Try.ntmps9 rfl rfl ?_
  simp only [argEnv, Nat.reduceAdd]
  refine SatC.seq ?_
  refine SatC.region ?_
  refine SatL.pu (RunV.assign rfl) rfl ?_
  refine SatL.nil (SatE.thenC ?_)
  refine SatC.seq ?_
  refine SatC.region ?_
  refine SatL.pu (RunV.assign rfl) rfl ?_
  refine SatL.nil (SatE.thenC ?_)
  refine SatC.seq ?_
  refine SatC.seq ?_
  refine SatC.region ?_
  refine SatL.pu (RunV.move rfl) rfl ?_
  first | refine SatL.pu (RunV.lenR (by assumption) rfl rfl) rfl ?_ | refine SatL.pu (RunV.lenS rfl rfl) rfl ?_
  refine SatL.pu (RunV.move rfl) rfl ?_
  refine SatL.nil (SatE.thenC ?_)
  refine SatC.block ?_
  refine SatC.loopK (G := Nat × BitVec 32) (V := fun ⟨i, r⟩ => [(8, .int .i64 (i : Int)), (3, u32 r)]) (Cn := [(2, _), (6, _), (7, _)]) (I := fun ⟨i, r⟩ w' => i ≤ ps.length ∧ sumOf r (ps.drop i) = sumOf 0#32 ps ∧ St w [] [] w') (μ := fun ⟨i, r⟩ => ps.length - i) (0, 0#32) ?_ (by repeat constructor) ?_
  · exact ⟨Nat.zero_le _, rfl, hS⟩
  clear hS
  rintro ⟨i, r⟩ w1 ⟨hi, hf, hS⟩
  refine SatC.weak (e' := [(2, _), (3, _), (6, _), (7, _), (8, _)]) (by repeat constructor) ?_
  refine SatC.seq ?_
  refine SatC.region ?_
  refine SatL.pu (RunV.lss rfl rfl) rfl ?_
  refine SatL.nil (SatE.thenC ?_)
  refine SatC.seq ?_
  refine SatC.cond rfl (fun h1 => ?_) (fun h1 => ?_)
  · (try simp only [cx, ne_eq] at h1)
    try (exfalso; (first | omega | exact h1 trivial | contradiction); done)
    all_goals
    refine SatC.skip (SatE.thenC ?_)
    refine SatC.seq ?_
    refine SatC.block ?_
    refine SatC.seq ?_
    obtain ⟨y, hy⟩ := get_some ps i (by omega)
    rw [List.drop_eq_getElem_cons (List.getElem?_eq_some_iff.1 hy).1, (List.getElem?_eq_some_iff.1 hy).2, sumOf, List.foldl_cons] at hf
    refine SatC.region ?_
    first | refine SatL.pu (RunV.indexR (by assumption) rfl rfl rfl (by omega) (by omega) rfl) rfl ?_ | refine SatL.pu (RunV.indexS rfl rfl rfl (by omega) (by omega) rfl) rfl ?_
    first | refine SatL.pu (RunV.loadR1z (RdC.st (by assumption) hS List.not_mem_nil) rfl rfl (by first | assumption | exact map_get (by assumption)) rfl) rfl ?_ | refine SatL.pu (RunV.loadR1z (Sl.rd (by assumption) hS (by repeat constructor)) rfl rfl (by first | assumption | exact map_get (by assumption)) rfl) rfl ?_
    refine SatL.pu (RunV.assign rfl) rfl ?_
    refine SatL.nil (SatE.thenC ?_)
    refine SatC.region ?_
    refine SatL.pu (RunV.move rfl) rfl ?_
    refine SatL.pu (RunV.move rfl) rfl ?_
    refine SatL.op rfl (OpW.enter rfl rfl rfl (rfl) (from_any _ _ _ _ ((hp _ (List.mem_of_getElem? hy)).st hS)) ?_)
    rintro r2 w2 ⟨rfl, h⟩
    replace hS := St.callN hS h
    refine SatL.pu (RunV.assign rfl) rfl ?_
    refine SatL.nil (SatE.blk_normal (SatE.thenC ?_))
    refine SatC.region ?_
    refine SatL.pu (RunV.add rfl rfl (by first | exact wrapI64 (by omega) | rfl)) rfl ?_
    refine SatL.pu (RunV.move rfl) rfl ?_
    refine SatL.nil ?_
    refine SatE.again ((i + 1, crc r y.2)) ?_ (by first | omega | (dsimp only; omega)) (by repeat constructor)
    exact ⟨by omega, hf, hS⟩
  · (try simp only [cx, ne_eq] at h1)
    try (exfalso; (first | omega | exact h1 trivial | contradiction); done)
    all_goals
    refine SatC.exit (SatE.then_exit (SatE.then_exit (SatE.blk_exit (SatE.thenC ?_))))
    refine SatC.seq ?_
    refine SatC.region ?_
    refine SatL.pu (RunV.move rfl) rfl ?_
    refine SatL.pu (RunV.assign rfl) rfl ?_
    refine SatL.nil (SatE.thenC ?_)
    refine SatC.ret ?_
    refine SatE.ret1 rfl rfl ?_
    obtain rfl : i = ps.length := by omega
    rw [List.drop_length, sumOf, List.foldl_nil] at hf
    exact ⟨by rw [hf], hS⟩
theorem rsum_any (v : Value) (bs : List (BitVec 8)) (w : World) (hr : RdRow w v 1 (bs.map by1)) : Ret Try.prog 8 #[v] w fun u w' => u = u32 (crc 0#32 bs) ∧ St w [] [] w' := by
  have hS := St.init0 w
  refine Ret.enter Try.func8 Try.ntmps8 rfl rfl ?_
  simp only [argEnv, Nat.reduceAdd]
  refine SatC.seq ?_
  refine SatC.region ?_
  refine SatL.pu (RunV.assign rfl) rfl ?_
  refine SatL.nil (SatE.thenC ?_)
  refine SatC.seq ?_
  refine SatC.region ?_
  refine SatL.pu (RunV.move rfl) rfl ?_
  refine SatL.op rfl (OpW.enter rfl rfl rfl (rfl) (from_ref 0#32 _ _ _ hr) ?_)
  rintro r1 w1 ⟨rfl, h⟩
  replace hS := St.callN hS h
  refine SatL.pu (RunV.assign rfl) rfl ?_
  refine SatL.nil (SatE.thenC ?_)
  refine SatC.ret ?_
  refine SatE.ret1 rfl rfl ?_
  exact ⟨rfl, hS⟩
theorem works_any (w : World) : Ret Try.prog 11 #[] w fun v w' => v = .bool true ∧ St w [] [] w' := by
  have hS := St.init0 w
  refine Ret.enter Try.func11 Try.ntmps11 rfl rfl ?_
  simp only [argEnv, Nat.reduceAdd]
  refine SatC.seq ?_
  refine SatC.region ?_
  refine SatL.pu (RunV.assign rfl) rfl ?_
  refine SatL.nil (SatE.thenC ?_)
  refine SatC.seq ?_
  refine SatC.region ?_
  refine SatL.op rfl (OpW.buildSliceV (vs := [_, _, _, _, _, _, _, _, _]) hS rfl rfl rfl rfl rfl rfl rfl rfl rfl ?_)
  clear hS
  intro b1 w1 _ hS
  refine SatL.op rfl (OpW.convMark hS rfl rfl rfl rfl (by repeat constructor) ?_)
  clear hS
  intro w2 hS
  refine SatL.op rfl (OpW.buildSlice1 hS rfl rfl rfl rfl rfl (by repeat constructor) rfl rfl rfl ?_)
  clear hS
  intro b3 w3 _ hS
  refine SatL.op rfl (OpW.enter rfl rfl rfl (rfl) (sum_any _ [(.slice (some ⟨b1, 0, none⟩) 9 9, [49#8, 50#8, 51#8, 52#8, 53#8, 54#8, 55#8, 56#8, 57#8])] _ (RdRow.of ⟨⟨_, rfl, fun _ => rfl⟩, Nat.le_refl _⟩ rfl (by simp) (RdC.own (post := []) hS (by repeat constructor) (by simp)) (by decide)) (fun p hp => (by obtain rfl := List.mem_singleton.1 hp; exact RdRow.of ⟨⟨_, rfl, fun _ => rfl⟩, Nat.le_refl _⟩ rfl (by simp) (RdC.ofCF hS (by repeat constructor) (by simp)) (by decide)))) ?_)
  rintro r4 w4 ⟨rfl, h⟩
  replace hS := St.callN hS h
  refine SatL.pu (RunV.eql rfl rfl) rfl ?_
  refine SatL.pu (RunV.assign rfl) rfl ?_
  refine SatL.nil (SatE.thenC ?_)
  refine SatC.ret ?_
  refine SatE.ret1 rfl rfl ?_
  refine ⟨?_, hS.sub (List.nil_sublist _)⟩
  have hc : crc 0#32 [49#8, 50#8, 51#8, 52#8, 53#8, 54#8, 55#8, 56#8, 57#8] = 4236843288#32 := by decide +kernel
  rw [show sumOf 0#32 [(Value.slice (some ⟨b1, 0, none⟩) 9 9, [49#8, 50#8, 51#8, 52#8, 53#8, 54#8, 55#8, 56#8, 57#8])] = 4236843288#32 from hc]
  rfl
end Go.Proofs.Ytpajeienbdnkfaa
