/- Low bits of a number, and an array taken as a slice. Over any program; no condition. -/
import Derived.Test.YtdoinfpkfbfjaaaK20
set_option linter.unusedVariables false
namespace Go.Proofs.Ytdoinfpkfbfjaaa
open Go.RowKit
section
variable {P : Program} {N : Nat} {env : Env} {w : World} {dd : Option Nat} {ty : TypeId} {pos : String} {af : Array Edge} {g : Option (Nat × Bool)} {t t2 : TypeId} {x y : Operand}
theorem RunV.and15 {m : Int} (hx : evO env x = some (.int .u64 m)) (hy : evO env y = some (.int .u64 15)) (hm : 0 ≤ m) (hb : m < 18446744073709551616) : RunV P N env w ⟨dd, .binOp .and t x y t2, ty, pos, af, g⟩ (.int .u64 (m % 16)) :=
  RunV.bin hx hy run_guardInt (by
    obtain ⟨k, rfl⟩ : ∃ k : Nat, m = (k : Int) := ⟨m.toNat, by omega⟩
    have h1 : BitVec.ofInt IntKind.u64.bits (k : Int) = BitVec.ofNat 64 k := BitVec.ofInt_natCast 64 k
    have h2 : BitVec.ofInt IntKind.u64.bits 15 = BitVec.ofNat 64 15 := rfl
    have h3 : (BitVec.ofNat 64 k &&& BitVec.ofNat 64 15).toNat = k % 16 := by
      rw [BitVec.toNat_and, BitVec.toNat_ofNat, BitVec.toNat_ofNat, Nat.mod_eq_of_lt (by omega : k < 2 ^ 64), Nat.mod_eq_of_lt (by decide : 15 < 2 ^ 64)]
      exact Nat.and_two_pow_sub_one_eq_mod k 4
    simp only [binOp, Op.intBits, h1, h2]
    have h4 : IntKind.u64.wrap ((k % 16 : Nat) : Int) = ((k % 16 : Nat) : Int) := wrapU64 (by omega)
    show (pure (Value.int .u64 (IntKind.u64.wrap ((BitVec.ofNat 64 k &&& BitVec.ofNat 64 15).toNat : Int))) : Sem Value).run P w = _
    rw [h3, h4]
    rfl)
theorem RunV.sliceArr {b n : Nat} {e : TypeId} (hx : evO env x = some (.pointer (some ⟨b, 0, none⟩))) (hu : P.underlying t = some (.array n e)) (hs : ((P.info? e).map (·.size)).isSome = true) :
    RunV P N env w ⟨dd, .slice t x none none none, ty, pos, af, g⟩ (.slice (some ⟨b, 0, none⟩) n n) := ⟨fun a ha => by
  obtain ⟨sz, hsz⟩ := Option.isSome_iff_exists.1 hs
  have h1 := ha.ev hx
  have hl : P.arrayLen t = n := by simp [Program.arrayLen, hu]
  have he : P.elem t = e := by simp [Program.elem, hu]
  have h2 := run_sliceAt_array_all (P := P) w t ⟨b, 0, none⟩ (by rw [hl, he]; exact hu)
  rw [he, size_run hsz, Result.andThen_ok, hl] at h2
  simp only [slicedAt, Nat.sub_zero, Nat.zero_mul] at h2
  have h3 : (if n = 0 then (⟨b, 0, none⟩ : Addr) else (⟨b, 0, none⟩ : Addr).add 0) = ⟨b, 0, none⟩ := by split <;> simp [Addr.add]
  rw [h3] at h2
  simp only [execOp, h1, Option.map_none]
  simp [h2, go_sem]⟩
end
end Go.Proofs.Ytdoinfpkfbfjaaa
