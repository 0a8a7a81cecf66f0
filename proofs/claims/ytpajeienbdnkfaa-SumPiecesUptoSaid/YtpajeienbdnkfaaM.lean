/- Plain laws of chapter 02's registers: one step is linear and loses nothing; what is within 32 bits does not vanish. No program in sight. -/
import Derived.Test.YtpajeienbdnkfaaB
set_option linter.unusedSimpArgs false
set_option linter.unusedVariables false
namespace Go.Proofs.Ytpajeienbdnkfaa
theorem one_x (a b : BitVec 32) : one (a ^^^ b) = one a ^^^ one b := by
  unfold one
  rw [BitVec.ushiftRight_xor_distrib, BitVec.shiftLeft_xor_distrib]
  rcases top_a a with ⟨_, h2⟩ | ⟨_, h2⟩ <;> rcases top_a b with ⟨_, h4⟩ | ⟨_, h4⟩ <;> rw [h2, h4]
  · rw [if_neg (by decide), if_neg (by decide), if_neg (by decide)]
  · rw [if_pos (by decide), if_neg (by decide), if_pos (by decide), BitVec.xor_assoc]
  · rw [if_pos (by decide), if_pos (by decide), if_neg (by decide), BitVec.xor_assoc, BitVec.xor_assoc, BitVec.xor_comm pol]
  · rw [if_neg (by decide), if_pos (by decide), if_pos (by decide)]
    have : ∀ x y p : BitVec 32, x ^^^ y = (x ^^^ p) ^^^ (y ^^^ p) := fun x y p => by
      rw [BitVec.xor_comm y p, BitVec.xor_assoc, ← BitVec.xor_assoc p p y, BitVec.xor_self, BitVec.zero_xor]
    exact this _ _ _
theorem one_0 : one 0#32 = 0#32 := by decide +kernel
theorem it_x (a b : BitVec 32) : ∀ n, it (a ^^^ b) n = it a n ^^^ it b n
  | 0 => rfl
  | n + 1 => by rw [it, it, it, it_x a b n, one_x]
theorem it_0 : ∀ n, it 0#32 n = 0#32
  | 0 => rfl
  | n + 1 => by rw [it, it_0 n, one_0]
theorem it_one (a : BitVec 32) : ∀ n, it a (n + 1) = it (one a) n
  | 0 => rfl
  | n + 1 => by
    have h := it_one a n
    show one (it a (n + 1)) = one (it (one a) n)
    rw [h]
theorem pol_low : (pol).getLsbD 0 = true := by decide +kernel
/-- One step loses nothing. -/
theorem one_inj0 {a : BitVec 32} (h : one a = 0#32) : a = 0#32 := by
  unfold one at h
  rcases top_a a with ⟨h1, h2⟩ | ⟨h1, h2⟩
  · rw [h2, if_neg (by decide)] at h
    apply BitVec.eq_of_toNat_eq
    have h3 := congrArg BitVec.toNat h
    rw [BitVec.toNat_shiftLeft, Nat.shiftLeft_eq] at h3
    have h4 := a.isLt
    simp only [BitVec.toNat_ofNat, Nat.zero_mod, Nat.reducePow] at h3 ⊢
    omega
  · rw [h2, if_pos (by decide)] at h
    have h3 := congrArg (fun x => x.getLsbD 0) h
    simp only [BitVec.getLsbD_xor, pol_low] at h3
    simp at h3
theorem it_inj0 {a : BitVec 32} : ∀ n, it a n = 0#32 → a = 0#32
  | 0, h => h
  | n + 1, h => it_inj0 n (one_inj0 h)
theorem xor_eq0 {a b : BitVec 32} (h : a ^^^ b = 0#32) : a = b := by
  have := congrArg (fun x => x ^^^ b) h
  simp only [BitVec.xor_assoc, BitVec.xor_self, BitVec.xor_zero, BitVec.zero_xor] at this
  exact this
theorem it_inj {a b : BitVec 32} {n : Nat} (h : it a n = it b n) : a = b := by
  apply xor_eq0
  apply it_inj0 n
  rw [it_x, h, BitVec.xor_self]
/-- Bits, from the highest down. -/
def pack : List Bool → BitVec 32
  | [] => 0#32
  | x :: W => (if x then 2147483648#32 else 0#32) ^^^ (pack W >>> 1)
def feedBit (r : BitVec 32) (x : Bool) : BitVec 32 := one (r ^^^ (if x then 2147483648#32 else 0#32))
theorem top31 (x : Bool) (i : Nat) (hi : i < 31) : (if x then 2147483648#32 else 0#32 : BitVec 32).getLsbD i = false := by
  cases x
  · simp
  · have : ∀ i : Fin 31, (2147483648#32).getLsbD i.1 = false := by decide +kernel
    exact this ⟨i, hi⟩
theorem pack_low : ∀ (W : List Bool) (i : Nat), i + W.length < 32 → (pack W).getLsbD i = false
  | [], i, _ => by simp [pack]
  | x :: W, i, h => by
    simp only [List.length_cons] at h
    rw [pack, BitVec.getLsbD_xor, top31 x i (by omega), BitVec.getLsbD_ushiftRight, pack_low W (1 + i) (by omega)]
    rfl
theorem shr_shl {a : BitVec 32} (h : a.getLsbD 0 = false) : (a >>> 1) <<< 1 = a := by
  apply BitVec.eq_of_getLsbD_eq
  intro i hi
  rw [BitVec.getLsbD_shiftLeft]
  rcases Nat.eq_zero_or_pos i with rfl | hp
  · rw [h]; simp
  · rw [BitVec.getLsbD_ushiftRight, show 1 + (i - 1) = i by omega]
    simp [hi, show ¬ i < 1 by omega]
theorem one_shr {a : BitVec 32} (h : a.getLsbD 0 = false) : one (a >>> 1) = a := by
  have h1 : (a >>> 1) >>> 31 = 0#32 := by
    apply BitVec.eq_of_toNat_eq
    have := a.isLt
    simp only [BitVec.toNat_ushiftRight, Nat.shiftRight_eq_div_pow, Nat.reducePow, BitVec.toNat_ofNat, Nat.zero_mod]
    omega
  unfold one
  rw [h1, if_neg (by decide), shr_shl h]
theorem fold_bits : ∀ (W : List Bool) (r : BitVec 32), W.length ≤ 32 → W.foldl feedBit r = it (r ^^^ pack W) W.length
  | [], r, _ => by simp [pack, it]
  | x :: W, r, h => by
    simp only [List.length_cons] at h
    rw [List.foldl_cons, fold_bits W _ (by omega), List.length_cons, it_one, pack, ← BitVec.xor_assoc, one_x, one_shr (pack_low W 0 (by omega))]
    rfl
theorem xor4 (r s p q : BitVec 32) : (r ^^^ s) ^^^ (p ^^^ q) = (r ^^^ p) ^^^ (s ^^^ q) := by ac_rfl
theorem fold_x : ∀ (V W : List Bool) (r s : BitVec 32), V.length = W.length → (List.zipWith xor V W).foldl feedBit (r ^^^ s) = V.foldl feedBit r ^^^ W.foldl feedBit s
  | [], [], r, s, _ => rfl
  | x :: V, y :: W, r, s, h => by
    rw [List.zipWith_cons_cons, List.foldl_cons, List.foldl_cons, List.foldl_cons]
    have e : feedBit (r ^^^ s) (xor x y) = feedBit r x ^^^ feedBit s y := by
      unfold feedBit
      rw [← one_x]
      congr 1
      have e1 : (if (xor x y) then 2147483648#32 else 0#32 : BitVec 32) = (if x then 2147483648#32 else 0#32) ^^^ (if y then 2147483648#32 else 0#32) := by cases x <;> cases y <;> decide +kernel
      rw [e1]
      generalize (if x then 2147483648#32 else 0#32 : BitVec 32) = p
      generalize (if y then 2147483648#32 else 0#32 : BitVec 32) = q
      exact xor4 r s p q
    rw [e]
    exact fold_x V W _ _ (by simpa using h)
  | [], _ :: _, _, _, h => by simp at h
  | _ :: _, [], _, _, h => by simp at h
theorem fold_z : ∀ (n : Nat) (r : BitVec 32), (List.replicate n false).foldl feedBit r = it r n
  | 0, r => rfl
  | n + 1, r => by
    rw [List.replicate_succ, List.foldl_cons, fold_z n, it_one]
    simp [feedBit]
theorem pack_0 : ∀ (W : List Bool), W.length ≤ 32 → pack W = 0#32 → W.any id = false
  | [], _, _ => rfl
  | x :: W, hl, h => by
    simp only [List.length_cons] at hl
    have hx : x = false := by
      have := congrArg (fun a => a.getLsbD 31) h
      simp only [pack, BitVec.getLsbD_xor, BitVec.getLsbD_ushiftRight] at this
      rw [BitVec.getLsbD_of_ge _ (1 + 31) (by omega)] at this
      cases x
      · rfl
      · exact absurd this (by decide +kernel)
    subst hx
    have h2 : pack W >>> 1 = 0#32 := by simpa [pack] using h
    have h3 : pack W = 0#32 := by
      have := one_shr (pack_low W 0 (by omega))
      rw [h2, one_0] at this
      exact this.symm
    have := pack_0 W (by omega) h3
    simpa using this
/-- Bits that are all within 32 come to nothing only if there are none. -/
theorem burst (k m : Nat) (W : List Bool) (hW : W.length ≤ 32) (h : (List.replicate k false ++ W ++ List.replicate m false).foldl feedBit 0#32 = 0#32) : W.any id = false := by
  rw [List.foldl_append, List.foldl_append, fold_z k, it_0, fold_z m, fold_bits W _ hW, BitVec.zero_xor] at h
  exact pack_0 W hW (it_inj0 _ (it_inj0 _ h))
theorem burst0 (k m : Nat) (W : List Bool) (h : W.any id = false) : (List.replicate k false ++ W ++ List.replicate m false).foldl feedBit 0#32 = 0#32 := by
  have e : W = List.replicate W.length false := by
    apply List.eq_replicate_of_mem
    intro x hx
    cases x
    · rfl
    · have : W.any id = true := List.any_eq_true.2 ⟨true, hx, rfl⟩
      rw [h] at this
      cases this
  rw [e, List.foldl_append, List.foldl_append, fold_z, fold_z, fold_z, it_0, it_0, it_0]
/-! ### Bytes -/
def bits8 (b : BitVec 8) : List Bool := [b.getLsbD 7, b.getLsbD 6, b.getLsbD 5, b.getLsbD 4, b.getLsbD 3, b.getLsbD 2, b.getLsbD 1, b.getLsbD 0]
theorem pack_bits8 : ∀ b : BitVec 8, pack (bits8 b) = b.setWidth 32 <<< 24 := by decide +kernel
theorem feed_bits (r : BitVec 32) (b : BitVec 8) : feed r b = (bits8 b).foldl feedBit r := by
  rw [fold_bits (bits8 b) r (show 8 ≤ 32 by decide), pack_bits8]
  rfl
theorem fold_feed : ∀ (bs : List (BitVec 8)) (r : BitVec 32), bs.foldl feed r = (bs.flatMap bits8).foldl feedBit r
  | [], r => rfl
  | b :: bs, r => by rw [List.foldl_cons, List.flatMap_cons, List.foldl_append, fold_feed bs, feed_bits]
theorem feed_x (r s : BitVec 32) (a b : BitVec 8) : feed (r ^^^ s) (a ^^^ b) = feed r a ^^^ feed s b := by
  unfold feed
  rw [← it_x]
  refine congrArg (fun z => it z 8) ?_
  have : (a ^^^ b).setWidth 32 <<< 24 = (a.setWidth 32 <<< 24) ^^^ (b.setWidth 32 <<< 24) := by rw [← BitVec.shiftLeft_xor_distrib, BitVec.setWidth_xor]
  rw [this]
  generalize a.setWidth 32 <<< 24 = p
  generalize b.setWidth 32 <<< 24 = q
  exact xor4 r s p q
theorem feeds_x : ∀ (al bs : List (BitVec 8)) (r s : BitVec 32), al.length = bs.length → (List.zipWith (· ^^^ ·) al bs).foldl feed (r ^^^ s) = al.foldl feed r ^^^ bs.foldl feed s
  | [], [], r, s, _ => rfl
  | a :: al, b :: bs, r, s, h => by
    rw [List.zipWith_cons_cons, List.foldl_cons, List.foldl_cons, List.foldl_cons, feed_x]
    exact feeds_x al bs _ _ (by simpa using h)
  | [], _ :: _, _, _, h => by simp at h
  | _ :: _, [], _, _, h => by simp at h
theorem crc_app (s : BitVec 32) (a b : List (BitVec 8)) : crc s (a ++ b) = crc (crc s a) b := by
  simp [crc, List.foldl_append]
theorem crc_laid (a b c : List (BitVec 8)) (h1 : a.length = b.length) (h2 : a.length = c.length) : crc 0#32 a ^^^ crc 0#32 b ^^^ crc 0#32 c = crc 0#32 (List.zipWith (· ^^^ ·) (List.zipWith (· ^^^ ·) a b) c) := by
  have e := feeds_x (List.zipWith (· ^^^ ·) a b) c (~~~ 0#32 ^^^ ~~~ 0#32) (~~~ 0#32) (by simp [← h1, h2])
  rw [feeds_x a b _ _ h1] at e
  unfold crc
  have e2 : (~~~ 0#32 ^^^ ~~~ 0#32 ^^^ ~~~ 0#32 : BitVec 32) = ~~~ 0#32 := by decide +kernel
  rw [e2] at e
  rw [e]
  generalize a.foldl feed (~~~ 0#32) = p
  generalize b.foldl feed (~~~ 0#32) = q
  generalize c.foldl feed (~~~ 0#32) = r
  apply BitVec.eq_of_getLsbD_eq
  intro i hi
  simp [hi]
end Go.Proofs.Ytpajeienbdnkfaa
