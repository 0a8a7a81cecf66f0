/- Contracts of chapter 02's seals. -/
import Derived.Test.YtpajeienbdnkfaaC
import Derived.Test.YtpajeienbdnkfaaK12
set_option linter.unusedSimpArgs false
set_option linter.unusedVariables false
set_option maxRecDepth 100000
set_option maxHeartbeats 1000000
namespace Go.Proofs.Ytpajeienbdnkfaa
open Go.RowKit
/-- A sum as bytes. -/
def be (s : BitVec 32) : List (BitVec 8) := [(s >>> 24).setWidth 8, (s >>> 16).setWidth 8, (s >>> 8).setWidth 8, s.setWidth 8]
theorem be_len (s : BitVec 32) : (be s).length = 4 := rfl
theorem by1_one (bs : List (BitVec 8)) : ∀ r ∈ bs.map by1, ∀ u ∈ r, u.oneCell' = true := fun r hr u hu => by
  obtain ⟨y, _, rfl⟩ := List.mem_map.1 hr
  obtain rfl := List.mem_singleton.1 hu
  rfl
def rowsAt (s : BitVec 32) (i : Nat) : List (List Value) := (List.range 4).map fun j => if j < i then by1 ((s >>> (24 - 8 * j)).setWidth 8) else [u8 0]
theorem rowsAt_len (s : BitVec 32) (i : Nat) : (rowsAt s i).length = 4 := rfl
theorem rowsAt_set (s : BitVec 32) (i : Nat) (hi : i < 4) : (rowsAt s i).set i (by1 ((s >>> (24 - 8 * i)).setWidth 8)) = rowsAt s (i + 1) := by
  have h : i = 0 ∨ i = 1 ∨ i = 2 ∨ i = 3 := by omega
  rcases h with rfl | rfl | rfl | rfl <;> rfl
theorem rowsAt_4 (s : BitVec 32) : rowsAt s 4 = (be s).map by1 := by
  have : s >>> 0 = s := by simp
  simp [rowsAt, be, List.range, List.range.loop]
theorem bytes_any (s : BitVec 32) (w : World) : Ret Try.prog 13 #[u32 s] w fun u w' => ∃ B, Sl 5 1 u ((be s).map by1) B ∧ St w [] B w' := by
  have hS := St.init0 w
  refine Ret.enter Try.func13 Try.ntmps13 rfl rfl ?_
  simp only [argEnv, Nat.reduceAdd]
  refine SatC.seq ?_
  refine SatC.region ?_
  refine SatL.pu (RunV.assign rfl) rfl ?_
  refine SatL.nil (SatE.thenC ?_)
  refine SatC.seq ?_
  refine SatC.region ?_
  refine SatL.op rfl (OpW.makeSlice (n := 4) hS rfl rfl rfl rfl rfl rfl (.one rfl) rfl rfl (by decide) (by decide) ?_)
  clear hS
  intro v5 b5 w2 _ _ hsl hS
  refine SatL.pu (RunV.assign rfl) rfl ?_
  refine SatL.nil (SatE.thenC ?_)
  refine SatC.seq ?_
  refine SatC.seq ?_
  refine SatC.region ?_
  refine SatL.pu (RunV.move rfl) rfl ?_
  refine SatL.nil (SatE.thenC ?_)
  refine SatC.block ?_
  refine SatC.loopK (G := Nat × Value × List (Nat × Obj)) (V := fun ⟨i, v, B⟩ => [(6, .int .i64 (i : Int)), (3, v)]) (Cn := [(0, _), (2, _)]) (I := fun ⟨i, v, B⟩ w' => i ≤ 4 ∧ Sl 5 1 v (rowsAt s i) B ∧ St w [] B w') (μ := fun ⟨i, v, B⟩ => 4 - i) (0, v5, [(b5, C 5 (List.replicate 4 [u8 0]).flatten)]) ?_ (by repeat constructor) ?_
  · exact ⟨by omega, hsl, hS⟩
  clear hS
  rintro ⟨i, v, B⟩ w2 ⟨hi, hsl, hS⟩
  refine SatC.weak (e' := [(0, _), (2, _), (3, _), (6, _)]) (by repeat constructor) ?_
  refine SatC.seq ?_
  refine SatC.region ?_
  refine SatL.pu (RunV.lss rfl rfl) rfl ?_
  refine SatL.nil (SatE.thenC ?_)
  refine SatC.seq ?_
  refine SatC.cond rfl (fun h1 => ?_) (fun h1 => ?_)
  · (try simp only [cx, ne_eq] at h1)
    try (exfalso; (first | omega | exact h1 trivial | contradiction); done)
    all_goals
    refine SatC.skip (SatE.thenC ?_)
    refine SatC.seq ?_
    refine SatC.block ?_
    refine SatC.seq ?_
    refine SatC.region ?_
    refine SatL.pu (RunV.move rfl) rfl ?_
    refine SatL.pu (RunV.assign rfl) rfl ?_
    refine SatL.nil (SatE.thenC ?_)
    obtain ⟨c5, hv5⟩ := hsl.slv
    rw [rowsAt_len] at hv5
    refine SatC.region ?_
    refine SatL.pu (RunV.move rfl) rfl ?_
    refine SatL.pu (RunV.move rfl) rfl ?_
    refine SatL.pu (RunV.move rfl) rfl ?_
    refine SatL.pu (RunV.move rfl) rfl ?_
    refine SatL.pu (RunV.mul rfl rfl (by first | exact wrapI64 (by omega) | rfl)) rfl ?_
    refine SatL.pu (RunV.sub rfl rfl (by first | exact wrapI64 (by omega) | rfl)) rfl ?_
    refine SatL.pu (RunV.shr32 (n := 24 - 8 * i) rfl (congrArg (fun z => some (Value.int .i64 z)) (show (24 - 8 * (i : Int)) = ((24 - 8 * i : Nat) : Int) by omega)) (by omega)) rfl ?_
    refine SatL.pu (RunV.conv32to8 rfl rfl rfl) rfl ?_
    first | refine SatL.pu (RunV.indexR (by assumption) rfl rfl rfl (by omega) (by omega) rfl) rfl ?_ | refine SatL.pu (RunV.indexS rfl rfl rfl (by omega) (by omega) rfl) rfl ?_
    refine SatL.op rfl (OpW.storeSl hsl hS (by repeat constructor) rfl rfl (by repeat constructor) rfl (by rw [rowsAt_len]; omega) rfl rfl ?_)
    clear hS
    intro B2 w3 hsl2 hS
    rw [show ((i : Int)).toNat = i from rfl, rowsAt_set s i (by omega)] at hsl2
    refine SatL.nil (SatE.blk_normal (SatE.thenC ?_))
    refine SatC.weak (e' := [(0, _), (2, _), (3, _), (6, _)]) (by repeat constructor) ?_
    refine SatC.region ?_
    refine SatL.pu (RunV.add rfl rfl (by first | exact wrapI64 (by omega) | rfl)) rfl ?_
    refine SatL.pu (RunV.move rfl) rfl ?_
    refine SatL.nil ?_
    refine SatE.again ((i + 1, v, B2)) ?_ (by first | omega | (dsimp only; omega)) (by repeat constructor)
    exact ⟨by omega, hsl2, by simpa using hS⟩
  · (try simp only [cx, ne_eq] at h1)
    try (exfalso; (first | omega | exact h1 trivial | contradiction); done)
    all_goals
    refine SatC.exit (SatE.then_exit (SatE.then_exit (SatE.blk_exit (SatE.thenC ?_))))
    refine SatC.seq ?_
    refine SatC.region ?_
    refine SatL.pu (RunV.move rfl) rfl ?_
    refine SatL.pu (RunV.assign rfl) rfl ?_
    refine SatL.nil (SatE.thenC ?_)
    refine SatC.ret ?_
    refine SatE.ret1 rfl rfl ?_
    obtain rfl : i = 4 := by omega
    rw [rowsAt_4] at hsl
    exact ⟨B, hsl, hS⟩
theorem be_cells (s : BitVec 32) : [Value.int .u8 ((s.toNat : Int) / 16777216), .int .u8 ((s.toNat : Int) / 65536 % 256), .int .u8 ((s.toNat : Int) / 256 % 256), .int .u8 ((s.toNat : Int) % 256)] = ((be s).map by1).flatten := by
  have h := s.isLt
  simp only [be, List.map_cons, List.map_nil, List.flatten_cons, List.flatten_nil, by1, u8, List.cons_append, List.nil_append, List.cons.injEq, Value.int.injEq, true_and, and_true, BitVec.toNat_setWidth, BitVec.toNat_ushiftRight, Nat.shiftRight_eq_div_pow, Nat.reducePow]
  omega
theorem rsealed_any (v : Value) (bs : List (BitVec 8)) (w : World) (hr : RdRow w v 1 (bs.map by1)) (hn : bs.length ≤ 140737488351232) : Ret Try.prog 14 #[v] w fun u w' => ∃ B, Sl 5 1 u ((bs ++ be (crc 0#32 bs)).map by1) B ∧ St w [] B w' := by
  have hS := St.init0 w
  obtain ⟨b, o, c, hv, hmax, hc, hlt⟩ := hr.open
  simp only [List.length_map] at hv hmax hlt
  have hs := (crc 0#32 bs).isLt
  refine Ret.enter Try.func14 Try.ntmps14 rfl rfl ?_
  simp only [argEnv, Nat.reduceAdd]
  refine SatC.seq ?_
  refine SatC.region ?_
  refine SatL.pu (RunV.assign rfl) rfl ?_
  refine SatL.nil (SatE.thenC ?_)
  refine SatC.seq ?_
  refine SatC.region ?_
  refine SatL.pu (RunV.assign rfl) rfl ?_
  refine SatL.nil (SatE.thenC ?_)
  refine SatC.seq ?_
  refine SatC.seq ?_
  refine SatC.region ?_
  refine SatL.pu (RunV.assign rfl) rfl ?_
  refine SatL.nil (SatE.thenC ?_)
  refine SatC.block ?_
  refine SatC.loopK (G := Nat × Value × List (Nat × Obj)) (V := fun ⟨i, u, B⟩ => [(4, .int .i64 (i : Int)), (3, u)]) (Cn := [(0, _), (2, _)]) (I := fun ⟨i, u, B⟩ w' => i ≤ bs.length ∧ Sl 5 1 u ((bs.take i).map by1) B ∧ St w [] B w') (μ := fun ⟨i, u, B⟩ => bs.length - i) (0, .slice none 0 0, []) ?_ (by repeat constructor) ?_
  · exact ⟨by omega, .nil, hS⟩
  clear hS
  rintro ⟨i, u, B⟩ w1 ⟨hi, hsl, hS⟩
  refine SatC.weak (e' := [(0, _), (2, _), (3, _), (4, _)]) (by repeat constructor) ?_
  refine SatC.seq ?_
  refine SatC.seq ?_
  refine SatC.region ?_
  refine SatL.pu (RunV.move rfl) rfl ?_
  refine SatL.pu (RunV.move rfl) rfl ?_
  first | refine SatL.pu (RunV.lenR (by assumption) rfl rfl) rfl ?_ | refine SatL.pu (RunV.lenS rfl rfl) rfl ?_
  refine SatL.pu (RunV.lss rfl rfl) rfl ?_
  refine SatL.nil (SatE.thenC ?_)
  refine SatC.cond rfl (fun h1 => ?_) (fun h1 => ?_)
  · (try simp only [cx, ne_eq] at h1)
    try (exfalso; (first | omega | exact h1 trivial | contradiction); done)
    all_goals
    refine SatC.skip (SatE.thenC ?_)
    refine SatC.seq ?_
    refine SatC.block ?_
    obtain ⟨y, hy⟩ := get_some bs i (by omega)
    have htk : (bs.take i).map by1 ++ [by1 y] = (bs.take (i + 1)).map by1 := by rw [List.take_add_one, hy]; simp
    refine SatC.region ?_
    refine SatL.pu (RunV.move rfl) rfl ?_
    refine SatL.pu (RunV.move rfl) rfl ?_
    refine SatL.pu (RunV.move rfl) rfl ?_
    first | refine SatL.pu (RunV.indexR (by assumption) rfl rfl rfl (by omega) (by omega) rfl) rfl ?_ | refine SatL.pu (RunV.indexS rfl rfl rfl (by omega) (by omega) rfl) rfl ?_
    first | refine SatL.pu (RunV.loadR1z (RdC.st (by assumption) hS List.not_mem_nil) rfl rfl (by first | assumption | exact map_get (by assumption)) rfl) rfl ?_ | refine SatL.pu (RunV.loadR1z (Sl.rd (by assumption) hS (by repeat constructor)) rfl rfl (by first | assumption | exact map_get (by assumption)) rfl) rfl ?_
    refine SatL.op rfl (OpW.buildSlice1 hS rfl rfl rfl rfl rfl (by repeat constructor) rfl rfl rfl ?_)
    clear hS
    intro b17 w2 _ hS
    refine SatL.op rfl (OpW.append1B hsl hS (by repeat constructor) rfl rfl (by repeat constructor) rfl rfl rfl rfl rfl rfl rfl rfl (by rw [List.length_map, List.length_take]; omega) (by rw [List.length_map, List.length_take]; omega) rfl ?_)
    clear hS
    intro v18 B18 w3 hsl18 hS
    refine SatL.pu (RunV.assign rfl) rfl ?_
    refine SatL.nil (SatE.blk_normal (SatE.thenC ?_))
    refine SatC.region ?_
    refine SatL.pu (RunV.move rfl) rfl ?_
    refine SatL.pu (RunV.add rfl rfl (by first | exact wrapI64 (by omega) | rfl)) rfl ?_
    refine SatL.pu (RunV.assign rfl) rfl ?_
    refine SatL.nil ?_
    refine SatE.again ((i + 1, v18, B18)) ?_ (by first | omega | (dsimp only; omega)) (by repeat constructor)
    exact ⟨by omega, htk ▸ hsl18, hS.sel (by repeat constructor)⟩
  · (try simp only [cx, ne_eq] at h1)
    try (exfalso; (first | omega | exact h1 trivial | contradiction); done)
    all_goals
    refine SatC.exit (SatE.then_exit (SatE.then_exit (SatE.blk_exit (SatE.thenC ?_))))
    refine SatC.seq ?_
    obtain rfl : i = bs.length := by omega
    rw [List.take_length] at hsl
    refine SatC.region ?_
    refine SatL.pu (RunV.move rfl) rfl ?_
    refine SatL.op rfl (OpW.enter rfl rfl rfl (rfl) (rsum_any _ _ _ (hr.st hS)) ?_)
    rintro r2 w2 ⟨rfl, h⟩
    replace hS := St.callN hS h
    refine SatL.pu (RunV.assign rfl) rfl ?_
    refine SatL.nil (SatE.thenC ?_)
    refine SatC.seq ?_
    refine SatC.region ?_
    refine SatL.pu (RunV.move rfl) rfl ?_
    refine SatL.pu (RunV.move rfl) rfl ?_
    refine SatL.pu (RunV.quoP rfl rfl (by omega) (by decide) (wrapU32 (by omega))) rfl ?_
    refine SatL.pu (RunV.conv rfl rfl rfl (wrapU8 (by omega))) rfl ?_
    refine SatL.pu (RunV.move rfl) rfl ?_
    refine SatL.pu (RunV.quoP rfl rfl (by omega) (by decide) (wrapU32 (by omega))) rfl ?_
    refine SatL.pu (RunV.remP rfl rfl (by omega) (by decide)) rfl ?_
    refine SatL.pu (RunV.conv rfl rfl rfl (wrapU8 (by omega))) rfl ?_
    refine SatL.pu (RunV.move rfl) rfl ?_
    refine SatL.pu (RunV.quoP rfl rfl (by omega) (by decide) (wrapU32 (by omega))) rfl ?_
    refine SatL.pu (RunV.remP rfl rfl (by omega) (by decide)) rfl ?_
    refine SatL.pu (RunV.conv rfl rfl rfl (wrapU8 (by omega))) rfl ?_
    refine SatL.pu (RunV.move rfl) rfl ?_
    refine SatL.pu (RunV.remP rfl rfl (by omega) (by decide)) rfl ?_
    refine SatL.pu (RunV.conv rfl rfl rfl (wrapU8 (by omega))) rfl ?_
    refine SatL.op rfl (OpW.buildSliceV (vs := [_, _, _, _]) hS rfl rfl rfl rfl rfl rfl rfl rfl rfl ?_)
    clear hS
    intro b36 w3 _ hS
    rw [be_cells] at hS
    refine SatL.op rfl (OpW.appendB (news := (be (crc 0#32 bs)).map by1) hsl hS (by repeat constructor) ⟨⟨_, rfl, fun _ => rfl⟩, Nat.le_refl _⟩ (RdC.own (rows := (be (crc 0#32 bs)).map by1) (post := []) hS (by rw [List.append_nil]; repeat constructor) (by simp)) rfl rfl rfl rfl rfl rfl rfl rfl (by1_one _) (by rw [List.length_map, List.length_map, be_len]; omega) (by rw [List.length_map, List.length_map, be_len]; omega) rfl ?_)
    clear hS
    intro v37 B37 w4 hsl37 hS
    refine SatL.pu (RunV.assign rfl) rfl ?_
    refine SatL.nil (SatE.thenC ?_)
    refine SatC.ret ?_
    refine SatE.ret1 rfl rfl ?_
    exact ⟨B37, by rw [List.map_append]; exact hsl37, hS.sel (by repeat constructor)⟩
end Go.Proofs.Ytpajeienbdnkfaa
