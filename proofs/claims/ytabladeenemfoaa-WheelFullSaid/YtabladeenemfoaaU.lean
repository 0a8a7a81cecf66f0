/- Bounds of a small number. -/
import Derived.Test.YtabladeenemfoaaK7
namespace Go.Proofs.Ytabladeenemfoaa
open Go Go.Proofs
theorem bnd_u16 {n : Int} (h : (Lit.int .u16 n).wf = true) : 0 ≤ n ∧ n ≤ 65535 := by
  have := (Lit.wf_int_iff _ _).1 h
  simp only [IntKind.min, IntKind.max, IntKind.bits, IntKind.signed] at this
  simp at this
  omega
end Go.Proofs.Ytabladeenemfoaa
