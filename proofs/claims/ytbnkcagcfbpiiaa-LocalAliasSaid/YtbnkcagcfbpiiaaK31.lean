/- Shifts and masks of numbers of at least nothing. Over any program; no condition. -/
import Derived.Test.YtbnkcagcfbpiiaaK20
set_option linter.unusedVariables false
namespace Go.Proofs.Ytbnkcagcfbpiiaa
open Go.RowKit
section
variable {P : Program} {N : Nat} {env : Env} {w : World} {dd : Option Nat} {ty : TypeId} {pos : String} {af : Array Edge} {g : Option (Nat × Bool)} {t t2 : TypeId} {x y : Operand}
theorem RunV.shrN {k' : IntKind} {m n : Nat} {q : Int} (hx : evO env x = some (.int .i64 (m : Int))) (hy : evO env y = some (.int k' q)) (hq : q = (n : Int)) (hn : n ≤ 63) : RunV P N env w ⟨dd, .binOp .shr t x y t2, ty, pos, af, g⟩ (.int .i64 ((m / 2 ^ n : Nat) : Int)) :=
  RunV.bin hx (hq ▸ hy) run_guardInt (by
    have h0 : ¬ (n : Int) < 0 := by omega
    have h1 : min (n : Int).toNat IntKind.i64.bits = n := by
      have : IntKind.i64.bits = 64 := rfl
      rw [this]
      omega
    have h2 : Int.fdiv (m : Int) (2 ^ n) = ((m / 2 ^ n : Nat) : Int) := by
      rw [Int.fdiv_eq_ediv_of_nonneg _ (by exact Int.le_of_lt (Int.pow_pos (by decide)))]
      simp
    simp only [binOp, Op.shift, if_neg h0, h1, h2]
    rfl)
theorem RunV.shlOne {k' : IntKind} {n : Nat} {q : Int} (hx : evO env x = some (.int .i64 1)) (hy : evO env y = some (.int k' q)) (hq : q = (n : Int)) (hn : n ≤ 62) : RunV P N env w ⟨dd, .binOp .shl t x y t2, ty, pos, af, g⟩ (.int .i64 ((2 ^ n : Nat) : Int)) :=
  RunV.bin hx (hq ▸ hy) run_guardInt (by
    have h0 : ¬ (n : Int) < 0 := by omega
    have h1 : min (n : Int).toNat IntKind.i64.bits = n := by
      have : IntKind.i64.bits = 64 := rfl
      rw [this]
      omega
    have h3 : 2 ^ n ≤ 2 ^ 62 := Nat.pow_le_pow_right (by decide) hn
    have h2 : IntKind.i64.wrap (1 * 2 ^ n) = ((2 ^ n : Nat) : Int) := by
      rw [Int.one_mul, show (2 : Int) ^ n = ((2 ^ n : Nat) : Int) from by simp]
      have h4 : ((2 ^ n : Nat) : Int) ≤ ((2 ^ 62 : Nat) : Int) := by exact_mod_cast h3
      have h5 : (0 : Int) ≤ ((2 ^ n : Nat) : Int) := Int.natCast_nonneg _
      generalize ((2 ^ n : Nat) : Int) = z at h4 h5 ⊢
      exact wrapI64 (by omega)
    simp only [binOp, Op.shift, if_neg h0, h1, h2]
    rfl)
theorem RunV.andN {m n : Nat} {q : Int} (hx : evO env x = some (.int .i64 (m : Int))) (hy : evO env y = some (.int .i64 q)) (hq : q = ((2 ^ n - 1 : Nat) : Int)) (hm : m < 9223372036854775808) (hn : n ≤ 62) : RunV P N env w ⟨dd, .binOp .and t x y t2, ty, pos, af, g⟩ (.int .i64 ((m % 2 ^ n : Nat) : Int)) :=
  RunV.bin hx (hq ▸ hy) run_guardInt (by
    have hp : 2 ^ n ≤ 2 ^ 62 := Nat.pow_le_pow_right (by decide) hn
    have hp0 : 0 < 2 ^ n := Nat.pow_pos (by decide)
    have h1 : BitVec.ofInt IntKind.i64.bits (m : Int) = BitVec.ofNat 64 m := BitVec.ofInt_natCast 64 m
    have h2 : BitVec.ofInt IntKind.i64.bits ((2 ^ n - 1 : Nat) : Int) = BitVec.ofNat 64 (2 ^ n - 1) := BitVec.ofInt_natCast 64 (2 ^ n - 1)
    have h3 : (BitVec.ofNat 64 m &&& BitVec.ofNat 64 (2 ^ n - 1)).toNat = m % 2 ^ n := by
      rw [BitVec.toNat_and, BitVec.toNat_ofNat, BitVec.toNat_ofNat, Nat.mod_eq_of_lt (by omega : m < 2 ^ 64), Nat.mod_eq_of_lt (by omega : 2 ^ n - 1 < 2 ^ 64)]
      exact Nat.and_two_pow_sub_one_eq_mod m n
    simp only [binOp, Op.intBits, h1, h2]
    have h5 : m % 2 ^ n ≤ m := Nat.mod_le _ _
    have h4 : IntKind.i64.wrap ((m % 2 ^ n : Nat) : Int) = ((m % 2 ^ n : Nat) : Int) := wrapI64 (by omega)
    show (pure (Value.int .i64 (IntKind.i64.wrap ((BitVec.ofNat 64 m &&& BitVec.ofNat 64 (2 ^ n - 1)).toNat : Int))) : Sem Value).run P w = _
    rw [h3, h4]
    rfl)
end
end Go.Proofs.Ytbnkcagcfbpiiaa
