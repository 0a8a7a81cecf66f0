/- Bounds of a small number; an array by value. -/
import Derived.Test.YtbnkcagcfbpiiaaK7
namespace Go.Proofs.Ytbnkcagcfbpiiaa
open Go Go.Proofs Go.RowKit Go.ChangeShapes Go.WideShapes Go.ChangeAt
theorem bnd_u16 {n : Int} (h : (Lit.int .u16 n).wf = true) : 0 ≤ n ∧ n ≤ 65535 := by
  have := (Lit.wf_int_iff _ _).1 h
  simp only [IntKind.min, IntKind.max, IntKind.bits, IntKind.signed] at this
  simp at this
  omega
theorem open_array {H : Type} {enc : TypeId × Value → H} {P : Program} {w : World} {base : Nat} {spare : Nat → Bool} {held : Bool} {t e : TypeId} {k : Nat} {v : Value} {d : DataW H} {ps : List MemPlace} {l : List TypeId} {W : World} {r : Reach} {b0 : Nat} (m : Nat) (hu : P.underlying t = some (.array k e)) (hl : leaves P m t = some l)
    (hv : Value.okWide P W r b0 t v) (h : DataW.Trod enc P w base spare held t v d ps) : ∃ cs : List Value, v = .agg cs.toArray ∧ AllLeaf (LeafAt enc P w base spare held) l cs := by
  unfold Value.okWide at hv
  rw [hu] at hv
  obtain ⟨cs, rfl, _, _⟩ := hv
  obtain ⟨n, hn⟩ := h
  exact ⟨cs.toList, by simp, trod_leaves m t l n cs.toList _ hl (by simpa [Value.cells] using hn)⟩
end Go.Proofs.Ytbnkcagcfbpiiaa
