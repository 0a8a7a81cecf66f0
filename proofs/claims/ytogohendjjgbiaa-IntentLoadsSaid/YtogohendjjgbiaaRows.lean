/-
  No cell of these rows narrows 'for every input' (looked for: loops, veiled, ifaces, maps, wideKeys, modest, calm, conditions, laid).
  DERIVED. THE GIVEN ROWS OF THIS SEAT. 7 by the template 'for every input the law returns true; each argument reads behind the call as it read before'; 0 by the template 'total and deterministic' (their statements: YtogohendjjgbiaaTotals.lean).
  GIVEN WITH THE SEED: the statements are not yours to turn. If you find one false, say at which input.
  Laid BY PROGRAM, IN A SANDBOX (cutbox-rows.mjs): the forced cells as the released guide's own fill.sh prints them over the translation ad90de7fc7d0e982… (all of the seat's roots in one cut). By AI agents, Wed Nov 11 2026. No macro, syntax, notation, axiom, sorry.
-/
import Derived.Test.YtogohendjjgbiaaChecked
import GoSem.Claim
import GoSem.ClaimJoined
import GoSem.ClaimMapViews
import Derived.JoinedTies
import Derived.KernelRfl
namespace Go.Proofs.Ytogohendjjgbiaa
/- THE CELL 'sum', in the pinned program and in every row, IS THE sha256 OF THE DUMP (.gsa) THAT YtogohendjjgbiaaProg.lean LOADS. Nothing in Lean hashes anything: it is a label: what it is worth is what the hold of that sum in a sandbox is worth. -/
noncomputable def Try.pinned : Pinned := { name := "ytogohendjjgbiaa", sum := "ad90de7fc7d0e982695e0142e2d99aee501019439d8468b3dc30e2fd8d5d7baa", checked := Try.checked }
namespace Rows
def none {H : Type} : Left H := { results := [], args := [] }

/-- 'sodalitylaw17.IntentChooses': WHATEVER THE INPUT: true; the input reads as it did. -/
def intentChoosesSpec : ChangeSpec := { name := "intentChooses", fn := fun _ => fun
  | [d1, d2, d3] => { results := [.lit (.bool true)], args := [d1, d2, d3] }
  | _ => none }
def intentChoosesRow : OpenClaim := { program := "ytogohendjjgbiaa", sum := "ad90de7fc7d0e982695e0142e2d99aee501019439d8468b3dc30e2fd8d5d7baa", func := "sodality/sodalitylaw17.IntentChooses", spec := "intentChooses", inPlace := ["internal/reflectlite.ValueOf", "internal/reflectlite.Swapper", "(internal/reflectlite.Value).Len"], unfollowed := true, recurses := true, apart := false }
def IntentChoosesSaid : Prop := intentChoosesRow.holds Try.pinned (OpenSpec.ofChange intentChoosesSpec)

/-- ITS FALSE NEIGHBOUR: 'it returns false'. Refute it at one input. -/
def intentChoosesWrong : ChangeSpec := { name := "intentChooses", fn := fun _ => fun
  | [d1, d2, d3] => { results := [.lit (.bool false)], args := [d1, d2, d3] }
  | _ => none }
def IntentChoosesWrongFalsely : Prop := intentChoosesRow.holds Try.pinned (OpenSpec.ofChange intentChoosesWrong)

/-- 'sodalitylaw17.IntentOrder': WHATEVER THE INPUT: true; the input reads as it did. -/
def intentOrderSpec : ChangeSpec := { name := "intentOrder", fn := fun _ => fun
  | [d1, d2, d3] => { results := [.lit (.bool true)], args := [d1, d2, d3] }
  | _ => none }
def intentOrderRow : OpenClaim := { program := "ytogohendjjgbiaa", sum := "ad90de7fc7d0e982695e0142e2d99aee501019439d8468b3dc30e2fd8d5d7baa", func := "sodality/sodalitylaw17.IntentOrder", spec := "intentOrder", inPlace := ["internal/reflectlite.ValueOf", "internal/reflectlite.Swapper", "(internal/reflectlite.Value).Len"], unfollowed := true, recurses := true, apart := false }
def IntentOrderSaid : Prop := intentOrderRow.holds Try.pinned (OpenSpec.ofChange intentOrderSpec)

/-- ITS FALSE NEIGHBOUR: 'it returns false'. Refute it at one input. -/
def intentOrderWrong : ChangeSpec := { name := "intentOrder", fn := fun _ => fun
  | [d1, d2, d3] => { results := [.lit (.bool false)], args := [d1, d2, d3] }
  | _ => none }
def IntentOrderWrongFalsely : Prop := intentOrderRow.holds Try.pinned (OpenSpec.ofChange intentOrderWrong)

/-- 'sodalitylaw17.IntentApart': WHATEVER THE INPUT: true; the input reads as it did. -/
def intentApartSpec : ChangeSpec := { name := "intentApart", fn := fun _ => fun
  | [d1, d2, d3] => { results := [.lit (.bool true)], args := [d1, d2, d3] }
  | _ => none }
def intentApartRow : OpenClaim := { program := "ytogohendjjgbiaa", sum := "ad90de7fc7d0e982695e0142e2d99aee501019439d8468b3dc30e2fd8d5d7baa", func := "sodality/sodalitylaw17.IntentApart", spec := "intentApart", inPlace := ["internal/reflectlite.ValueOf", "internal/reflectlite.Swapper", "(internal/reflectlite.Value).Len"], unfollowed := true, recurses := true, apart := false }
def IntentApartSaid : Prop := intentApartRow.holds Try.pinned (OpenSpec.ofChange intentApartSpec)

/-- ITS FALSE NEIGHBOUR: 'it returns false'. Refute it at one input. -/
def intentApartWrong : ChangeSpec := { name := "intentApart", fn := fun _ => fun
  | [d1, d2, d3] => { results := [.lit (.bool false)], args := [d1, d2, d3] }
  | _ => none }
def IntentApartWrongFalsely : Prop := intentApartRow.holds Try.pinned (OpenSpec.ofChange intentApartWrong)

/-- 'sodalitylaw17.IntentExact': WHATEVER THE INPUT: true; the input reads as it did. -/
def intentExactSpec : ChangeSpec := { name := "intentExact", fn := fun _ => fun
  | [d1, d2, d3] => { results := [.lit (.bool true)], args := [d1, d2, d3] }
  | _ => none }
def intentExactRow : OpenClaim := { program := "ytogohendjjgbiaa", sum := "ad90de7fc7d0e982695e0142e2d99aee501019439d8468b3dc30e2fd8d5d7baa", func := "sodality/sodalitylaw17.IntentExact", spec := "intentExact", inPlace := ["internal/reflectlite.ValueOf", "internal/reflectlite.Swapper", "(internal/reflectlite.Value).Len"], unfollowed := true, recurses := true, apart := false }
def IntentExactSaid : Prop := intentExactRow.holds Try.pinned (OpenSpec.ofChange intentExactSpec)

/-- ITS FALSE NEIGHBOUR: 'it returns false'. Refute it at one input. -/
def intentExactWrong : ChangeSpec := { name := "intentExact", fn := fun _ => fun
  | [d1, d2, d3] => { results := [.lit (.bool false)], args := [d1, d2, d3] }
  | _ => none }
def IntentExactWrongFalsely : Prop := intentExactRow.holds Try.pinned (OpenSpec.ofChange intentExactWrong)

/-- 'sodalitylaw17.IntentLoads': WHATEVER THE INPUT: true; the input reads as it did. -/
def intentLoadsSpec : ChangeSpec := { name := "intentLoads", fn := fun _ => fun
  | [d1, d2, d3] => { results := [.lit (.bool true)], args := [d1, d2, d3] }
  | _ => none }
def intentLoadsRow : OpenClaim := { program := "ytogohendjjgbiaa", sum := "ad90de7fc7d0e982695e0142e2d99aee501019439d8468b3dc30e2fd8d5d7baa", func := "sodality/sodalitylaw17.IntentLoads", spec := "intentLoads", inPlace := ["internal/reflectlite.ValueOf", "internal/reflectlite.Swapper", "(internal/reflectlite.Value).Len"], unfollowed := true, recurses := true, apart := false }
def IntentLoadsSaid : Prop := intentLoadsRow.holds Try.pinned (OpenSpec.ofChange intentLoadsSpec)

/-- ITS FALSE NEIGHBOUR: 'it returns false'. Refute it at one input. -/
def intentLoadsWrong : ChangeSpec := { name := "intentLoads", fn := fun _ => fun
  | [d1, d2, d3] => { results := [.lit (.bool false)], args := [d1, d2, d3] }
  | _ => none }
def IntentLoadsWrongFalsely : Prop := intentLoadsRow.holds Try.pinned (OpenSpec.ofChange intentLoadsWrong)

/-- 'sodalitylaw17.IntentPlays': WHATEVER THE INPUT: true; the input reads as it did. -/
def intentPlaysSpec : ChangeSpec := { name := "intentPlays", fn := fun _ => fun
  | [d1, d2] => { results := [.lit (.bool true)], args := [d1, d2] }
  | _ => none }
def intentPlaysRow : OpenClaim := { program := "ytogohendjjgbiaa", sum := "ad90de7fc7d0e982695e0142e2d99aee501019439d8468b3dc30e2fd8d5d7baa", func := "sodality/sodalitylaw17.IntentPlays", spec := "intentPlays", inPlace := ["internal/reflectlite.ValueOf", "internal/reflectlite.Swapper", "(internal/reflectlite.Value).Len"], unfollowed := true, recurses := true, apart := false }
def IntentPlaysSaid : Prop := intentPlaysRow.holds Try.pinned (OpenSpec.ofChange intentPlaysSpec)

/-- ITS FALSE NEIGHBOUR: 'it returns false'. Refute it at one input. -/
def intentPlaysWrong : ChangeSpec := { name := "intentPlays", fn := fun _ => fun
  | [d1, d2] => { results := [.lit (.bool false)], args := [d1, d2] }
  | _ => none }
def IntentPlaysWrongFalsely : Prop := intentPlaysRow.holds Try.pinned (OpenSpec.ofChange intentPlaysWrong)

/-- 'sodalitylaw17.IntentNone': WHATEVER THE INPUT: true; the input reads as it did. -/
def intentNoneSpec : ChangeSpec := { name := "intentNone", fn := fun _ => fun
  | [d] => { results := [.lit (.bool true)], args := [d] }
  | _ => none }
def intentNoneRow : OpenClaim := { program := "ytogohendjjgbiaa", sum := "ad90de7fc7d0e982695e0142e2d99aee501019439d8468b3dc30e2fd8d5d7baa", func := "sodality/sodalitylaw17.IntentNone", spec := "intentNone", inPlace := ["internal/reflectlite.ValueOf", "internal/reflectlite.Swapper", "(internal/reflectlite.Value).Len"], unfollowed := true, recurses := true, apart := false }
def IntentNoneSaid : Prop := intentNoneRow.holds Try.pinned (OpenSpec.ofChange intentNoneSpec)

/-- ITS FALSE NEIGHBOUR: 'it returns false'. Refute it at one input. -/
def intentNoneWrong : ChangeSpec := { name := "intentNone", fn := fun _ => fun
  | [d] => { results := [.lit (.bool false)], args := [d] }
  | _ => none }
def IntentNoneWrongFalsely : Prop := intentNoneRow.holds Try.pinned (OpenSpec.ofChange intentNoneWrong)

/- THE SECOND FORM. 'bulk': how many values and letters a reading holds, each counted each time it is reached (what is shared counts as often as it is met; a slice's spare places count too). A statement '..UptoSaid' is the law's where the arguments, and the package variables that the reading takes, are together of bulk at most 1048576: NARROWER than '..Said'. Prove '..Said' where nothing that the law and all that it calls make is longer than what came in: it says more and counts as full. Else prove '..UptoSaid'. A law counts once. -/
mutual
def uptoBulk {H : Type} : DataW H → Nat
  | .lit (.string bytes) => bytes.length + 1
  | .lit _ => 1
  | .nil => 1
  | .ptr d => uptoBulk d + 1
  | .slice elems spare => uptoBulkAll elems + uptoBulkAll spare + 1
  | .agg parts => uptoBulkAll parts + 1
  | .iface _ d => uptoBulk d + 1
  | .map entries => uptoBulkEntries entries + 1
  | .held _ => 1
def uptoBulkAll {H : Type} : List (DataW H) → Nat
  | [] => 0
  | d :: r => uptoBulk d + uptoBulkAll r
def uptoBulkEntries {H : Type} : List (Lit × DataW H) → Nat
  | [] => 0
  | x :: r => uptoBulkEntry x + uptoBulkEntries r
def uptoBulkEntry {H : Type} : Lit × DataW H → Nat
  | (.string bytes, d) => bytes.length + uptoBulk d + 1
  | (_, d) => uptoBulk d + 1
 end
def uptoSmall : (H : Type) → List (DataW H) → Bool := fun _ ds => decide (uptoBulkAll ds ≤ 1048576)
def OpenSpec.upto (s : _root_.Go.ChangeSpec) : _root_.Go.OpenSpec := { _root_.Go.OpenSpec.ofChange s with cond := some uptoSmall }

/-- 'sodalitylaw17.IntentChooses', WHERE WHAT IT READS IS OF BULK AT MOST 1048576: true; the input reads as it did. -/
def intentChoosesUptoRow : OpenClaim := { program := "ytogohendjjgbiaa", sum := "ad90de7fc7d0e982695e0142e2d99aee501019439d8468b3dc30e2fd8d5d7baa", func := "sodality/sodalitylaw17.IntentChooses", spec := "intentChooses", inPlace := ["internal/reflectlite.ValueOf", "internal/reflectlite.Swapper", "(internal/reflectlite.Value).Len"], unfollowed := true, recurses := true, apart := false, narrowed := true }
def IntentChoosesUptoSaid : Prop := intentChoosesUptoRow.holds Try.pinned (OpenSpec.upto intentChoosesSpec)

/-- 'sodalitylaw17.IntentOrder', WHERE WHAT IT READS IS OF BULK AT MOST 1048576: true; the input reads as it did. -/
def intentOrderUptoRow : OpenClaim := { program := "ytogohendjjgbiaa", sum := "ad90de7fc7d0e982695e0142e2d99aee501019439d8468b3dc30e2fd8d5d7baa", func := "sodality/sodalitylaw17.IntentOrder", spec := "intentOrder", inPlace := ["internal/reflectlite.ValueOf", "internal/reflectlite.Swapper", "(internal/reflectlite.Value).Len"], unfollowed := true, recurses := true, apart := false, narrowed := true }
def IntentOrderUptoSaid : Prop := intentOrderUptoRow.holds Try.pinned (OpenSpec.upto intentOrderSpec)

/-- 'sodalitylaw17.IntentApart', WHERE WHAT IT READS IS OF BULK AT MOST 1048576: true; the input reads as it did. -/
def intentApartUptoRow : OpenClaim := { program := "ytogohendjjgbiaa", sum := "ad90de7fc7d0e982695e0142e2d99aee501019439d8468b3dc30e2fd8d5d7baa", func := "sodality/sodalitylaw17.IntentApart", spec := "intentApart", inPlace := ["internal/reflectlite.ValueOf", "internal/reflectlite.Swapper", "(internal/reflectlite.Value).Len"], unfollowed := true, recurses := true, apart := false, narrowed := true }
def IntentApartUptoSaid : Prop := intentApartUptoRow.holds Try.pinned (OpenSpec.upto intentApartSpec)

/-- 'sodalitylaw17.IntentExact', WHERE WHAT IT READS IS OF BULK AT MOST 1048576: true; the input reads as it did. -/
def intentExactUptoRow : OpenClaim := { program := "ytogohendjjgbiaa", sum := "ad90de7fc7d0e982695e0142e2d99aee501019439d8468b3dc30e2fd8d5d7baa", func := "sodality/sodalitylaw17.IntentExact", spec := "intentExact", inPlace := ["internal/reflectlite.ValueOf", "internal/reflectlite.Swapper", "(internal/reflectlite.Value).Len"], unfollowed := true, recurses := true, apart := false, narrowed := true }
def IntentExactUptoSaid : Prop := intentExactUptoRow.holds Try.pinned (OpenSpec.upto intentExactSpec)

/-- 'sodalitylaw17.IntentLoads', WHERE WHAT IT READS IS OF BULK AT MOST 1048576: true; the input reads as it did. -/
def intentLoadsUptoRow : OpenClaim := { program := "ytogohendjjgbiaa", sum := "ad90de7fc7d0e982695e0142e2d99aee501019439d8468b3dc30e2fd8d5d7baa", func := "sodality/sodalitylaw17.IntentLoads", spec := "intentLoads", inPlace := ["internal/reflectlite.ValueOf", "internal/reflectlite.Swapper", "(internal/reflectlite.Value).Len"], unfollowed := true, recurses := true, apart := false, narrowed := true }
def IntentLoadsUptoSaid : Prop := intentLoadsUptoRow.holds Try.pinned (OpenSpec.upto intentLoadsSpec)

/-- 'sodalitylaw17.IntentPlays', WHERE WHAT IT READS IS OF BULK AT MOST 1048576: true; the input reads as it did. -/
def intentPlaysUptoRow : OpenClaim := { program := "ytogohendjjgbiaa", sum := "ad90de7fc7d0e982695e0142e2d99aee501019439d8468b3dc30e2fd8d5d7baa", func := "sodality/sodalitylaw17.IntentPlays", spec := "intentPlays", inPlace := ["internal/reflectlite.ValueOf", "internal/reflectlite.Swapper", "(internal/reflectlite.Value).Len"], unfollowed := true, recurses := true, apart := false, narrowed := true }
def IntentPlaysUptoSaid : Prop := intentPlaysUptoRow.holds Try.pinned (OpenSpec.upto intentPlaysSpec)

/-- 'sodalitylaw17.IntentNone', WHERE WHAT IT READS IS OF BULK AT MOST 1048576: true; the input reads as it did. -/
def intentNoneUptoRow : OpenClaim := { program := "ytogohendjjgbiaa", sum := "ad90de7fc7d0e982695e0142e2d99aee501019439d8468b3dc30e2fd8d5d7baa", func := "sodality/sodalitylaw17.IntentNone", spec := "intentNone", inPlace := ["internal/reflectlite.ValueOf", "internal/reflectlite.Swapper", "(internal/reflectlite.Value).Len"], unfollowed := true, recurses := true, apart := false, narrowed := true }
def IntentNoneUptoSaid : Prop := intentNoneUptoRow.holds Try.pinned (OpenSpec.upto intentNoneSpec)

end Rows
end Go.Proofs.Ytogohendjjgbiaa
