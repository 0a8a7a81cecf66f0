/- Contracts of chapter 02's document sums: bit by bit they come to the same register. -/
import Derived.Test.YtpajeienbdnkfaaA
set_option linter.unusedSimpArgs false
set_option linter.unusedVariables false
set_option maxRecDepth 100000
set_option maxHeartbeats 1000000
namespace Go.Proofs.Ytpajeienbdnkfaa
open Go.RowKit
theorem shl_x : ∀ x : BitVec 8, (x.setWidth 32 <<< 24) <<< 1 = (x <<< 1).setWidth 32 <<< 24 := by decide +kernel
theorem top_x : ∀ x : BitVec 8, ((x.setWidth 32 <<< 24) >>> 31) = if (x.setWidth 32).toNat / 128 = 1 then 1#32 else 0#32 := by decide +kernel
theorem top_x01 : ∀ x : BitVec 8, (x.setWidth 32).toNat / 128 = 0 ∨ (x.setWidth 32).toNat / 128 = 1 := by decide +kernel
theorem top_a (a : BitVec 32) : (a.toNat / 2147483648 = 0 ∧ a >>> 31 = 0#32) ∨ (a.toNat / 2147483648 = 1 ∧ a >>> 31 = 1#32) := by
  have h := a.isLt
  have e : (a >>> 31).toNat = a.toNat / 2147483648 := by rw [BitVec.toNat_ushiftRight, Nat.shiftRight_eq_div_pow]
  rcases (by omega : a.toNat / 2147483648 = 0 ∨ a.toNat / 2147483648 = 1) with h1 | h1
  · exact .inl ⟨h1, by apply BitVec.eq_of_toNat_eq; rw [e, h1]; rfl⟩
  · exact .inr ⟨h1, by apply BitVec.eq_of_toNat_eq; rw [e, h1]; rfl⟩
def out (a : BitVec 32) (x : BitVec 8) : Prop := ¬ (a.toNat : Int) / 2147483648 = ((x.setWidth 32).toNat : Int) / 128
theorem one_shl (a : BitVec 32) (x : BitVec 8) : (a ^^^ (x.setWidth 32 <<< 24)) <<< 1 = (a <<< 1) ^^^ ((x <<< 1).setWidth 32 <<< 24) := by
  rw [BitVec.shiftLeft_xor_distrib, shl_x]
theorem one_out {a : BitVec 32} {x : BitVec 8} (h : out a x) : one (a ^^^ (x.setWidth 32 <<< 24)) = ((a <<< 1) ^^^ pol) ^^^ ((x <<< 1).setWidth 32 <<< 24) := by
  unfold out at h
  unfold one
  rw [one_shl, BitVec.ushiftRight_xor_distrib, top_x]
  rcases top_a a with ⟨h1, h2⟩ | ⟨h1, h2⟩ <;> rcases top_x01 x with h3 | h3
  · omega
  · rw [h2, if_pos h3, if_pos (by decide), BitVec.xor_assoc, BitVec.xor_assoc, BitVec.xor_comm pol]
  · rw [h2, if_neg (show ¬ (x.setWidth 32).toNat / 128 = 1 by omega), if_pos (by decide), BitVec.xor_assoc, BitVec.xor_assoc, BitVec.xor_comm pol]
  · omega
theorem one_in {a : BitVec 32} {x : BitVec 8} (h : ¬ out a x) : one (a ^^^ (x.setWidth 32 <<< 24)) = (a <<< 1) ^^^ ((x <<< 1).setWidth 32 <<< 24) := by
  unfold out at h
  unfold one
  rw [one_shl, BitVec.ushiftRight_xor_distrib, top_x]
  rcases top_a a with ⟨h1, h2⟩ | ⟨h1, h2⟩ <;> rcases top_x01 x with h3 | h3
  · rw [h2, if_neg (show ¬ (x.setWidth 32).toNat / 128 = 1 by omega), if_neg (by decide)]
  · omega
  · omega
  · rw [h2, if_pos h3, if_neg (by decide)]
theorem shl1_32 (a : BitVec 32) : Value.int .u32 ((a.toNat : Int) % 2147483648 * 2) = u32 (a <<< 1) := by
  have := a.isLt
  refine congrArg (Value.int .u32) ?_
  rw [BitVec.toNat_shiftLeft, Nat.shiftLeft_eq]
  omega
theorem shl1_8 (x : BitVec 8) : Value.int .u8 ((x.toNat : Int) % 128 * 2) = u8 (x <<< 1) := by
  have := x.isLt
  refine congrArg (Value.int .u8) ?_
  rw [BitVec.toNat_shiftLeft, Nat.shiftLeft_eq]
  omega
theorem sub_not (a : BitVec 32) : Value.int .u32 (4294967295 - (a.toNat : Int)) = u32 (~~~ a) := by
  have := a.isLt
  refine congrArg (Value.int .u32) ?_
  rw [BitVec.toNat_not]
  omega
theorem shl8 : ∀ x : BitVec 8, ((x <<< 8).setWidth 32 <<< 24) = 0#32 := by decide +kernel
theorem from_ref (s : BitVec 32) (v : Value) (bs : List (BitVec 8)) (w : World) (hr : RdRow w v 1 (bs.map by1)) : Ret Try.prog 12 #[u32 s, v] w fun u w' => u = u32 (crc s bs) ∧ St w [] [] w' := by
  have hS := St.init0 w
  obtain ⟨b, o, c, hv, hmax, hc, hlt⟩ := hr.open
  simp only [List.length_map] at hv hmax hlt
  have hs := s.isLt
  refine Ret.enter Try.func12 Try.ntmps12 rfl rfl ?_
  simp only [argEnv, Nat.reduceAdd]
  refine SatC.seq ?_
  refine SatC.region ?_
  refine SatL.pu (RunV.assign rfl) rfl ?_
  refine SatL.nil (SatE.thenC ?_)
  refine SatC.seq ?_
  refine SatC.region ?_
  refine SatL.pu (RunV.move rfl) rfl ?_
  refine SatL.pu (RunV.cast (RunV.sub rfl rfl (wrapU32 (by omega))) (sub_not _)) rfl ?_
  refine SatL.pu (RunV.assign rfl) rfl ?_
  refine SatL.nil (SatE.thenC ?_)
  refine SatC.seq ?_
  refine SatC.seq ?_
  refine SatC.region ?_
  refine SatL.pu (RunV.assign rfl) rfl ?_
  refine SatL.nil (SatE.thenC ?_)
  refine SatC.block ?_
  refine SatC.loopK (G := Nat × BitVec 32) (V := fun ⟨i, r⟩ => [(6, .int .i64 (i : Int)), (5, u32 r)]) (Cn := [(1, _), (4, _)]) (I := fun ⟨i, r⟩ w' => i ≤ bs.length ∧ (bs.drop i).foldl feed r = bs.foldl feed (~~~ s) ∧ St w [] [] w') (μ := fun ⟨i, r⟩ => bs.length - i) (0, ~~~ s) ?_ (by repeat constructor) ?_
  · exact ⟨Nat.zero_le _, rfl, hS⟩
  clear hS
  rintro ⟨i, r⟩ w1 ⟨hi, hf, hS⟩
  refine SatC.weak (e' := [(1, _), (4, _), (5, _), (6, _)]) (by repeat constructor) ?_
  refine SatC.seq ?_
  refine SatC.seq ?_
  refine SatC.region ?_
  refine SatL.pu (RunV.move rfl) rfl ?_
  refine SatL.pu (RunV.move rfl) rfl ?_
  first | refine SatL.pu (RunV.lenR (by assumption) rfl rfl) rfl ?_ | refine SatL.pu (RunV.lenS rfl rfl) rfl ?_
  refine SatL.pu (RunV.lss rfl rfl) rfl ?_
  refine SatL.nil (SatE.thenC ?_)
  refine SatC.cond rfl (fun h1 => ?_) (fun h1 => ?_)
  · (try simp only [cx, ne_eq] at h1)
    try (exfalso; (first | omega | exact h1 trivial | contradiction); done)
    all_goals
    refine SatC.skip (SatE.thenC ?_)
    refine SatC.seq ?_
    refine SatC.block ?_
    refine SatC.seq ?_
    obtain ⟨y, hy⟩ := get_some bs i (by omega)
    rw [List.drop_eq_getElem_cons (List.getElem?_eq_some_iff.1 hy).1, (List.getElem?_eq_some_iff.1 hy).2, List.foldl_cons] at hf
    refine SatC.region ?_
    refine SatL.pu (RunV.move rfl) rfl ?_
    refine SatL.pu (RunV.move rfl) rfl ?_
    first | refine SatL.pu (RunV.indexR (by assumption) rfl rfl rfl (by omega) (by omega) rfl) rfl ?_ | refine SatL.pu (RunV.indexS rfl rfl rfl (by omega) (by omega) rfl) rfl ?_
    first | refine SatL.pu (RunV.loadR1z (RdC.st (by assumption) hS List.not_mem_nil) rfl rfl (by first | assumption | exact map_get (by assumption)) rfl) rfl ?_ | refine SatL.pu (RunV.loadR1z (Sl.rd (by assumption) hS (by repeat constructor)) rfl rfl (by first | assumption | exact map_get (by assumption)) rfl) rfl ?_
    refine SatL.pu (RunV.assign rfl) rfl ?_
    refine SatL.nil (SatE.thenC ?_)
    refine SatC.seq ?_
    refine SatC.region ?_
    refine SatL.pu (RunV.assign rfl) rfl ?_
    refine SatL.nil (SatE.thenC ?_)
    refine SatC.block ?_
    refine SatC.loopK (G := Nat × BitVec 32 × BitVec 8) (V := fun ⟨k, a, x⟩ => [(8, .int .i64 (k : Int)), (5, u32 a), (7, u8 x)]) (Cn := [(1, _), (4, _), (6, _)]) (I := fun ⟨k, a, x⟩ w' => k ≤ 8 ∧ x = y <<< k ∧ a ^^^ (x.setWidth 32 <<< 24) = it (r ^^^ (y.setWidth 32 <<< 24)) k ∧ St w [] [] w') (μ := fun ⟨k, a, x⟩ => 8 - k) (0, r, y) ?_ (by repeat constructor) ?_
    · exact ⟨by omega, by simp, by simp [it], hS⟩
    clear hS
    rintro ⟨k, a, x⟩ w2 ⟨hk, hx0, hx, hS⟩
    refine SatC.weak (e' := [(1, _), (4, _), (5, _), (6, _), (7, _), (8, _)]) (by repeat constructor) ?_
    refine SatC.seq ?_
    refine SatC.seq ?_
    refine SatC.region ?_
    refine SatL.pu (RunV.move rfl) rfl ?_
    refine SatL.pu (RunV.lss rfl rfl) rfl ?_
    refine SatL.nil (SatE.thenC ?_)
    refine SatC.cond rfl (fun h2 => ?_) (fun h2 => ?_)
    · (try simp only [cx, ne_eq] at h2)
      try (exfalso; (first | omega | exact h2 trivial | contradiction); done)
      all_goals
      refine SatC.skip (SatE.thenC ?_)
      refine SatC.seq ?_
      refine SatC.block ?_
      refine SatC.seq ?_
      have ha := a.isLt
      have hy8 := x.isLt
      have hy32 := (x.setWidth 32).isLt
      refine SatC.region ?_
      refine SatL.pu (RunV.move rfl) rfl ?_
      refine SatL.pu (RunV.quoP rfl rfl (by omega) (by decide) (wrapU32 (by omega))) rfl ?_
      refine SatL.pu (RunV.move rfl) rfl ?_
      refine SatL.pu (RunV.conv8to32 rfl rfl rfl) rfl ?_
      refine SatL.pu (RunV.quoP rfl rfl (by omega) (by decide) (wrapU32 (by omega))) rfl ?_
      refine SatL.pu (RunV.neq rfl rfl) rfl ?_
      refine SatL.pu (RunV.assign rfl) rfl ?_
      refine SatL.nil (SatE.thenC ?_)
      refine SatC.seq ?_
      refine SatC.region ?_
      refine SatL.pu (RunV.move rfl) rfl ?_
      refine SatL.pu (RunV.remP rfl rfl (by omega) (by decide)) rfl ?_
      refine SatL.pu (RunV.cast (RunV.mul rfl rfl (wrapU32 (by omega))) (shl1_32 _)) rfl ?_
      refine SatL.pu (RunV.assign rfl) rfl ?_
      refine SatL.nil (SatE.thenC ?_)
      refine SatC.seq ?_
      refine SatC.seq ?_
      refine SatC.region ?_
      refine SatL.pu (RunV.move rfl) rfl ?_
      refine SatL.nil (SatE.thenC ?_)
      refine SatC.weak (e' := [(1, _), (4, _), (5, _), (6, _), (7, _), (8, _), (35, _)]) (by repeat constructor) ?_
      refine SatC.cond rfl (fun h3 => ?_) (fun h3 => ?_)
      · (try simp only [cx, ne_eq] at h3)
        try (exfalso; (first | omega | exact h3 trivial | contradiction); done)
        all_goals
        refine SatC.region ?_
        refine SatL.pu (RunV.move rfl) rfl ?_
        refine SatL.pu (RunV.xor32 (b := pol) rfl rfl) rfl ?_
        refine SatL.pu (RunV.assign rfl) rfl ?_
        refine SatL.nil (SatE.thenC ?_)
        refine SatC.region ?_
        refine SatL.pu (RunV.move rfl) rfl ?_
        refine SatL.pu (RunV.remP rfl rfl (by omega) (by decide)) rfl ?_
        refine SatL.pu (RunV.cast (RunV.mul rfl rfl (wrapU8 (by omega))) (shl1_8 _)) rfl ?_
        refine SatL.pu (RunV.assign rfl) rfl ?_
        refine SatL.nil (SatE.blk_normal (SatE.thenC ?_))
        refine SatC.region ?_
        refine SatL.pu (RunV.move rfl) rfl ?_
        refine SatL.pu (RunV.add rfl rfl (by first | exact wrapI64 (by omega) | rfl)) rfl ?_
        refine SatL.pu (RunV.assign rfl) rfl ?_
        refine SatL.nil ?_
        refine SatE.again ((k + 1, (a <<< 1) ^^^ pol, x <<< 1)) ?_ (by first | omega | (dsimp only; omega)) (by repeat constructor)
        exact ⟨by omega, by rw [hx0, ← BitVec.shiftLeft_add], by rw [it, ← hx, one_out h3], hS⟩
      · (try simp only [cx, ne_eq] at h3)
        try (exfalso; (first | omega | exact h3 trivial | contradiction); done)
        all_goals
        refine SatC.skip (SatE.thenC ?_)
        refine SatC.region ?_
        refine SatL.pu (RunV.move rfl) rfl ?_
        refine SatL.pu (RunV.remP rfl rfl (by omega) (by decide)) rfl ?_
        refine SatL.pu (RunV.cast (RunV.mul rfl rfl (wrapU8 (by omega))) (shl1_8 _)) rfl ?_
        refine SatL.pu (RunV.assign rfl) rfl ?_
        refine SatL.nil (SatE.blk_normal (SatE.thenC ?_))
        refine SatC.region ?_
        refine SatL.pu (RunV.move rfl) rfl ?_
        refine SatL.pu (RunV.add rfl rfl (by first | exact wrapI64 (by omega) | rfl)) rfl ?_
        refine SatL.pu (RunV.assign rfl) rfl ?_
        refine SatL.nil ?_
        refine SatE.again ((k + 1, a <<< 1, x <<< 1)) ?_ (by first | omega | (dsimp only; omega)) (by repeat constructor)
        exact ⟨by omega, by rw [hx0, ← BitVec.shiftLeft_add], by rw [it, ← hx, one_in (fun e => e h3)], hS⟩
    · (try simp only [cx, ne_eq] at h2)
      try (exfalso; (first | omega | exact h2 trivial | contradiction); done)
      all_goals
      refine SatC.exit (SatE.then_exit (SatE.then_exit (SatE.blk_exit (SatE.blk_normal (SatE.thenC ?_)))))
      refine SatC.region ?_
      refine SatL.pu (RunV.move rfl) rfl ?_
      refine SatL.pu (RunV.add rfl rfl (by first | exact wrapI64 (by omega) | rfl)) rfl ?_
      refine SatL.pu (RunV.assign rfl) rfl ?_
      refine SatL.nil ?_
      refine SatE.again ((i + 1, a)) ?_ (by first | omega | (dsimp only; omega)) (by repeat constructor)
      obtain rfl : k = 8 := by omega
      rw [hx0, shl8, BitVec.xor_zero] at hx
      exact ⟨by omega, by rw [hx]; exact hf, hS⟩
  · (try simp only [cx, ne_eq] at h1)
    try (exfalso; (first | omega | exact h1 trivial | contradiction); done)
    all_goals
    refine SatC.exit (SatE.then_exit (SatE.then_exit (SatE.blk_exit (SatE.thenC ?_))))
    refine SatC.seq ?_
    refine SatC.region ?_
    refine SatL.pu (RunV.move rfl) rfl ?_
    refine SatL.pu (RunV.cast (RunV.sub rfl rfl (wrapU32 (by omega))) (sub_not _)) rfl ?_
    refine SatL.pu (RunV.assign rfl) rfl ?_
    refine SatL.nil (SatE.thenC ?_)
    refine SatC.ret ?_
    refine SatE.ret1 rfl rfl ?_
    obtain rfl : i = bs.length := by omega
    rw [List.drop_length, List.foldl_nil] at hf
    exact ⟨by rw [crc, ← hf], hS⟩
end Go.Proofs.Ytpajeienbdnkfaa
