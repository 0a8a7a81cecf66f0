/-
  No cell of these rows narrows 'for every input' (looked for: loops, veiled, ifaces, maps, wideKeys, modest, calm, conditions, laid).
  DERIVED. THE GIVEN ROWS OF THIS SEAT. 4 by the template 'for every input the law returns true; each argument reads behind the call as it read before'; 0 by the template 'total and deterministic' (their statements: YthkgcdkkdmogpaaTotals.lean).
  GIVEN WITH THE SEED: the statements are not yours to turn. If you find one false, say at which input.
  Laid BY PROGRAM, IN A SANDBOX (cutbox-rows.mjs): the forced cells as the released guide's own fill.sh prints them over the translation db61bd482df9891d… (all of the seat's roots in one cut). By AI agents, Wed Nov 11 2026. No macro, syntax, notation, axiom, sorry.
-/
import Derived.Test.YthkgcdkkdmogpaaChecked
import GoSem.Claim
import GoSem.ClaimJoined
import GoSem.ClaimMapViews
import Derived.JoinedTies
import Derived.KernelRfl
namespace Go.Proofs.Ythkgcdkkdmogpaa
/- THE CELL 'sum', in the pinned program and in every row, IS THE sha256 OF THE DUMP (.gsa) THAT YthkgcdkkdmogpaaProg.lean LOADS. Nothing in Lean hashes anything: it is a label: what it is worth is what the hold of that sum in a sandbox is worth. -/
noncomputable def Try.pinned : Pinned := { name := "ythkgcdkkdmogpaa", sum := "db61bd482df9891d6295ff727b78c0ae01ca4a2e1e4ecce8c153e9f0af4f8e3f", checked := Try.checked }
namespace Rows
def none {H : Type} : Left H := { results := [], args := [] }

/-- 'sodalitylaw11.DoubtWaits': WHATEVER THE INPUT: true; the input reads as it did. -/
def doubtWaitsSpec : ChangeSpec := { name := "doubtWaits", fn := fun _ => fun
  | [d1, d2] => { results := [.lit (.bool true)], args := [d1, d2] }
  | _ => none }
def doubtWaitsRow : OpenClaim := { program := "ythkgcdkkdmogpaa", sum := "db61bd482df9891d6295ff727b78c0ae01ca4a2e1e4ecce8c153e9f0af4f8e3f", func := "sodality/sodalitylaw11.DoubtWaits", spec := "doubtWaits", apart := false }
def DoubtWaitsSaid : Prop := doubtWaitsRow.holds Try.pinned (OpenSpec.ofChange doubtWaitsSpec)

/-- ITS FALSE NEIGHBOUR: 'it returns false'. Refute it at one input. -/
def doubtWaitsWrong : ChangeSpec := { name := "doubtWaits", fn := fun _ => fun
  | [d1, d2] => { results := [.lit (.bool false)], args := [d1, d2] }
  | _ => none }
def DoubtWaitsWrongFalsely : Prop := doubtWaitsRow.holds Try.pinned (OpenSpec.ofChange doubtWaitsWrong)

/-- 'sodalitylaw11.DoubtBounds': WHATEVER THE INPUT: true; the input reads as it did. -/
def doubtBoundsSpec : ChangeSpec := { name := "doubtBounds", fn := fun _ => fun
  | [d1, d2] => { results := [.lit (.bool true)], args := [d1, d2] }
  | _ => none }
def doubtBoundsRow : OpenClaim := { program := "ythkgcdkkdmogpaa", sum := "db61bd482df9891d6295ff727b78c0ae01ca4a2e1e4ecce8c153e9f0af4f8e3f", func := "sodality/sodalitylaw11.DoubtBounds", spec := "doubtBounds", apart := false }
def DoubtBoundsSaid : Prop := doubtBoundsRow.holds Try.pinned (OpenSpec.ofChange doubtBoundsSpec)

/-- ITS FALSE NEIGHBOUR: 'it returns false'. Refute it at one input. -/
def doubtBoundsWrong : ChangeSpec := { name := "doubtBounds", fn := fun _ => fun
  | [d1, d2] => { results := [.lit (.bool false)], args := [d1, d2] }
  | _ => none }
def DoubtBoundsWrongFalsely : Prop := doubtBoundsRow.holds Try.pinned (OpenSpec.ofChange doubtBoundsWrong)

/-- 'sodalitylaw11.DoubtNone': WHATEVER THE INPUT: true; the input reads as it did. -/
def doubtNoneSpec : ChangeSpec := { name := "doubtNone", fn := fun _ => fun
  | [d] => { results := [.lit (.bool true)], args := [d] }
  | _ => none }
def doubtNoneRow : OpenClaim := { program := "ythkgcdkkdmogpaa", sum := "db61bd482df9891d6295ff727b78c0ae01ca4a2e1e4ecce8c153e9f0af4f8e3f", func := "sodality/sodalitylaw11.DoubtNone", spec := "doubtNone", apart := false }
def DoubtNoneSaid : Prop := doubtNoneRow.holds Try.pinned (OpenSpec.ofChange doubtNoneSpec)

/-- ITS FALSE NEIGHBOUR: 'it returns false'. Refute it at one input. -/
def doubtNoneWrong : ChangeSpec := { name := "doubtNone", fn := fun _ => fun
  | [d] => { results := [.lit (.bool false)], args := [d] }
  | _ => none }
def DoubtNoneWrongFalsely : Prop := doubtNoneRow.holds Try.pinned (OpenSpec.ofChange doubtNoneWrong)

/-- 'sodalitylaw11.DoubtPlays': WHATEVER THE INPUT: true; the input reads as it did. -/
def doubtPlaysSpec : ChangeSpec := { name := "doubtPlays", fn := fun _ => fun
  | [d1, d2] => { results := [.lit (.bool true)], args := [d1, d2] }
  | _ => none }
def doubtPlaysRow : OpenClaim := { program := "ythkgcdkkdmogpaa", sum := "db61bd482df9891d6295ff727b78c0ae01ca4a2e1e4ecce8c153e9f0af4f8e3f", func := "sodality/sodalitylaw11.DoubtPlays", spec := "doubtPlays", apart := false }
def DoubtPlaysSaid : Prop := doubtPlaysRow.holds Try.pinned (OpenSpec.ofChange doubtPlaysSpec)

/-- ITS FALSE NEIGHBOUR: 'it returns false'. Refute it at one input. -/
def doubtPlaysWrong : ChangeSpec := { name := "doubtPlays", fn := fun _ => fun
  | [d1, d2] => { results := [.lit (.bool false)], args := [d1, d2] }
  | _ => none }
def DoubtPlaysWrongFalsely : Prop := doubtPlaysRow.holds Try.pinned (OpenSpec.ofChange doubtPlaysWrong)

/- THE SECOND FORM. 'bulk': how many values and letters a reading holds, each counted each time it is reached (what is shared counts as often as it is met; a slice's spare places count too). A statement '..UptoSaid' is the law's where the arguments, and the package variables that the reading takes, are together of bulk at most 1048576: NARROWER than '..Said'. Prove '..Said' where nothing that the law and all that it calls make is longer than what came in: it says more and counts as full. Else prove '..UptoSaid'. A law counts once. -/
mutual
def uptoBulk {H : Type} : DataW H → Nat
  | .lit (.string bytes) => bytes.length + 1
  | .lit _ => 1
  | .nil => 1
  | .ptr d => uptoBulk d + 1
  | .slice elems spare => uptoBulkAll elems + uptoBulkAll spare + 1
  | .agg parts => uptoBulkAll parts + 1
  | .iface _ d => uptoBulk d + 1
  | .map entries => uptoBulkEntries entries + 1
  | .held _ => 1
def uptoBulkAll {H : Type} : List (DataW H) → Nat
  | [] => 0
  | d :: r => uptoBulk d + uptoBulkAll r
def uptoBulkEntries {H : Type} : List (Lit × DataW H) → Nat
  | [] => 0
  | x :: r => uptoBulkEntry x + uptoBulkEntries r
def uptoBulkEntry {H : Type} : Lit × DataW H → Nat
  | (.string bytes, d) => bytes.length + uptoBulk d + 1
  | (_, d) => uptoBulk d + 1
 end
def uptoSmall : (H : Type) → List (DataW H) → Bool := fun _ ds => decide (uptoBulkAll ds ≤ 1048576)
def OpenSpec.upto (s : _root_.Go.ChangeSpec) : _root_.Go.OpenSpec := { _root_.Go.OpenSpec.ofChange s with cond := some uptoSmall }

/-- 'sodalitylaw11.DoubtWaits', WHERE WHAT IT READS IS OF BULK AT MOST 1048576: true; the input reads as it did. -/
def doubtWaitsUptoRow : OpenClaim := { program := "ythkgcdkkdmogpaa", sum := "db61bd482df9891d6295ff727b78c0ae01ca4a2e1e4ecce8c153e9f0af4f8e3f", func := "sodality/sodalitylaw11.DoubtWaits", spec := "doubtWaits", apart := false, narrowed := true }
def DoubtWaitsUptoSaid : Prop := doubtWaitsUptoRow.holds Try.pinned (OpenSpec.upto doubtWaitsSpec)

/-- 'sodalitylaw11.DoubtBounds', WHERE WHAT IT READS IS OF BULK AT MOST 1048576: true; the input reads as it did. -/
def doubtBoundsUptoRow : OpenClaim := { program := "ythkgcdkkdmogpaa", sum := "db61bd482df9891d6295ff727b78c0ae01ca4a2e1e4ecce8c153e9f0af4f8e3f", func := "sodality/sodalitylaw11.DoubtBounds", spec := "doubtBounds", apart := false, narrowed := true }
def DoubtBoundsUptoSaid : Prop := doubtBoundsUptoRow.holds Try.pinned (OpenSpec.upto doubtBoundsSpec)

/-- 'sodalitylaw11.DoubtNone', WHERE WHAT IT READS IS OF BULK AT MOST 1048576: true; the input reads as it did. -/
def doubtNoneUptoRow : OpenClaim := { program := "ythkgcdkkdmogpaa", sum := "db61bd482df9891d6295ff727b78c0ae01ca4a2e1e4ecce8c153e9f0af4f8e3f", func := "sodality/sodalitylaw11.DoubtNone", spec := "doubtNone", apart := false, narrowed := true }
def DoubtNoneUptoSaid : Prop := doubtNoneUptoRow.holds Try.pinned (OpenSpec.upto doubtNoneSpec)

/-- 'sodalitylaw11.DoubtPlays', WHERE WHAT IT READS IS OF BULK AT MOST 1048576: true; the input reads as it did. -/
def doubtPlaysUptoRow : OpenClaim := { program := "ythkgcdkkdmogpaa", sum := "db61bd482df9891d6295ff727b78c0ae01ca4a2e1e4ecce8c153e9f0af4f8e3f", func := "sodality/sodalitylaw11.DoubtPlays", spec := "doubtPlays", apart := false, narrowed := true }
def DoubtPlaysUptoSaid : Prop := doubtPlaysUptoRow.holds Try.pinned (OpenSpec.upto doubtPlaysSpec)

end Rows
end Go.Proofs.Ythkgcdkkdmogpaa
