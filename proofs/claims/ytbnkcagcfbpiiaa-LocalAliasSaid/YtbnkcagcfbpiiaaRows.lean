/-
  No cell of these rows narrows 'for every input' (looked for: loops, veiled, ifaces, maps, wideKeys, modest, calm, conditions, laid).
  DERIVED. THE GIVEN ROWS OF THIS SEAT. 4 by the template 'for every input the law returns true; each argument reads behind the call as it read before'; 0 by the template 'total and deterministic' (their statements: YtbnkcagcfbpiiaaTotals.lean).
  GIVEN WITH THE SEED: the statements are not yours to turn. If you find one false, say at which input.
  Laid BY PROGRAM, IN A SANDBOX (cutbox-rows.mjs): the forced cells as the released guide's own fill.sh prints them over the translation b743c1053bbef31a… (all of the seat's roots in one cut). By AI agents, Wed Nov 11 2026. No macro, syntax, notation, axiom, sorry.
-/
import Derived.Test.YtbnkcagcfbpiiaaChecked
import GoSem.Claim
import GoSem.ClaimJoined
import GoSem.ClaimMapViews
import Derived.JoinedTies
import Derived.KernelRfl
namespace Go.Proofs.Ytbnkcagcfbpiiaa
/- THE CELL 'sum', in the pinned program and in every row, IS THE sha256 OF THE DUMP (.gsa) THAT YtbnkcagcfbpiiaaProg.lean LOADS. Nothing in Lean hashes anything: it is a label: what it is worth is what the hold of that sum in a sandbox is worth. -/
noncomputable def Try.pinned : Pinned := { name := "ytbnkcagcfbpiiaa", sum := "b743c1053bbef31aab967a52e2985011a1fc6b6e05e0540123dc67755b2f5953", checked := Try.checked }
namespace Rows
def none {H : Type} : Left H := { results := [], args := [] }

/-- 'sodalitylaw26.LocalWhole': WHATEVER THE INPUT: true; the input reads as it did. -/
def localWholeSpec : ChangeSpec := { name := "localWhole", fn := fun _ => fun
  | [d] => { results := [.lit (.bool true)], args := [d] }
  | _ => none }
def localWholeRow : OpenClaim := { program := "ytbnkcagcfbpiiaa", sum := "b743c1053bbef31aab967a52e2985011a1fc6b6e05e0540123dc67755b2f5953", func := "sodality/sodalitylaw26.LocalWhole", spec := "localWhole", unfollowed := true, recurses := true, apart := false }
def LocalWholeSaid : Prop := localWholeRow.holds Try.pinned (OpenSpec.ofChange localWholeSpec)

/-- ITS FALSE NEIGHBOUR: 'it returns false'. Refute it at one input. -/
def localWholeWrong : ChangeSpec := { name := "localWhole", fn := fun _ => fun
  | [d] => { results := [.lit (.bool false)], args := [d] }
  | _ => none }
def LocalWholeWrongFalsely : Prop := localWholeRow.holds Try.pinned (OpenSpec.ofChange localWholeWrong)

/-- 'sodalitylaw26.LocalAlias': WHATEVER THE INPUT: true; the input reads as it did. -/
def localAliasSpec : ChangeSpec := { name := "localAlias", fn := fun _ => fun
  | [d1, d2] => { results := [.lit (.bool true)], args := [d1, d2] }
  | _ => none }
def localAliasRow : OpenClaim := { program := "ytbnkcagcfbpiiaa", sum := "b743c1053bbef31aab967a52e2985011a1fc6b6e05e0540123dc67755b2f5953", func := "sodality/sodalitylaw26.LocalAlias", spec := "localAlias", unfollowed := true, recurses := true, apart := false }
def LocalAliasSaid : Prop := localAliasRow.holds Try.pinned (OpenSpec.ofChange localAliasSpec)

/-- ITS FALSE NEIGHBOUR: 'it returns false'. Refute it at one input. -/
def localAliasWrong : ChangeSpec := { name := "localAlias", fn := fun _ => fun
  | [d1, d2] => { results := [.lit (.bool false)], args := [d1, d2] }
  | _ => none }
def LocalAliasWrongFalsely : Prop := localAliasRow.holds Try.pinned (OpenSpec.ofChange localAliasWrong)

/-- 'sodalitylaw26.LocalPlays': WHATEVER THE INPUT: true; the input reads as it did. -/
def localPlaysSpec : ChangeSpec := { name := "localPlays", fn := fun _ => fun
  | [d1, d2, d3] => { results := [.lit (.bool true)], args := [d1, d2, d3] }
  | _ => none }
def localPlaysRow : OpenClaim := { program := "ytbnkcagcfbpiiaa", sum := "b743c1053bbef31aab967a52e2985011a1fc6b6e05e0540123dc67755b2f5953", func := "sodality/sodalitylaw26.LocalPlays", spec := "localPlays", unfollowed := true, recurses := true, apart := false }
def LocalPlaysSaid : Prop := localPlaysRow.holds Try.pinned (OpenSpec.ofChange localPlaysSpec)

/-- ITS FALSE NEIGHBOUR: 'it returns false'. Refute it at one input. -/
def localPlaysWrong : ChangeSpec := { name := "localPlays", fn := fun _ => fun
  | [d1, d2, d3] => { results := [.lit (.bool false)], args := [d1, d2, d3] }
  | _ => none }
def LocalPlaysWrongFalsely : Prop := localPlaysRow.holds Try.pinned (OpenSpec.ofChange localPlaysWrong)

/-- 'sodalitylaw26.LocalNone': WHATEVER THE INPUT: true; the input reads as it did. -/
def localNoneSpec : ChangeSpec := { name := "localNone", fn := fun _ => fun
  | [d] => { results := [.lit (.bool true)], args := [d] }
  | _ => none }
def localNoneRow : OpenClaim := { program := "ytbnkcagcfbpiiaa", sum := "b743c1053bbef31aab967a52e2985011a1fc6b6e05e0540123dc67755b2f5953", func := "sodality/sodalitylaw26.LocalNone", spec := "localNone", unfollowed := true, recurses := true, apart := false }
def LocalNoneSaid : Prop := localNoneRow.holds Try.pinned (OpenSpec.ofChange localNoneSpec)

/-- ITS FALSE NEIGHBOUR: 'it returns false'. Refute it at one input. -/
def localNoneWrong : ChangeSpec := { name := "localNone", fn := fun _ => fun
  | [d] => { results := [.lit (.bool false)], args := [d] }
  | _ => none }
def LocalNoneWrongFalsely : Prop := localNoneRow.holds Try.pinned (OpenSpec.ofChange localNoneWrong)

/- THE SECOND FORM. 'bulk': how many values and letters a reading holds, each counted each time it is reached (what is shared counts as often as it is met; a slice's spare places count too). A statement '..UptoSaid' is the law's where the arguments, and the package variables that the reading takes, are together of bulk at most 1048576: NARROWER than '..Said'. Prove '..Said' where nothing that the law and all that it calls make is longer than what came in: it says more and counts as full. Else prove '..UptoSaid'. A law counts once. -/
mutual
def uptoBulk {H : Type} : DataW H → Nat
  | .lit (.string bytes) => bytes.length + 1
  | .lit _ => 1
  | .nil => 1
  | .ptr d => uptoBulk d + 1
  | .slice elems spare => uptoBulkAll elems + uptoBulkAll spare + 1
  | .agg parts => uptoBulkAll parts + 1
  | .iface _ d => uptoBulk d + 1
  | .map entries => uptoBulkEntries entries + 1
  | .held _ => 1
def uptoBulkAll {H : Type} : List (DataW H) → Nat
  | [] => 0
  | d :: r => uptoBulk d + uptoBulkAll r
def uptoBulkEntries {H : Type} : List (Lit × DataW H) → Nat
  | [] => 0
  | x :: r => uptoBulkEntry x + uptoBulkEntries r
def uptoBulkEntry {H : Type} : Lit × DataW H → Nat
  | (.string bytes, d) => bytes.length + uptoBulk d + 1
  | (_, d) => uptoBulk d + 1
 end
def uptoSmall : (H : Type) → List (DataW H) → Bool := fun _ ds => decide (uptoBulkAll ds ≤ 1048576)
def OpenSpec.upto (s : _root_.Go.ChangeSpec) : _root_.Go.OpenSpec := { _root_.Go.OpenSpec.ofChange s with cond := some uptoSmall }

/-- 'sodalitylaw26.LocalWhole', WHERE WHAT IT READS IS OF BULK AT MOST 1048576: true; the input reads as it did. -/
def localWholeUptoRow : OpenClaim := { program := "ytbnkcagcfbpiiaa", sum := "b743c1053bbef31aab967a52e2985011a1fc6b6e05e0540123dc67755b2f5953", func := "sodality/sodalitylaw26.LocalWhole", spec := "localWhole", unfollowed := true, recurses := true, apart := false, narrowed := true }
def LocalWholeUptoSaid : Prop := localWholeUptoRow.holds Try.pinned (OpenSpec.upto localWholeSpec)

/-- 'sodalitylaw26.LocalAlias', WHERE WHAT IT READS IS OF BULK AT MOST 1048576: true; the input reads as it did. -/
def localAliasUptoRow : OpenClaim := { program := "ytbnkcagcfbpiiaa", sum := "b743c1053bbef31aab967a52e2985011a1fc6b6e05e0540123dc67755b2f5953", func := "sodality/sodalitylaw26.LocalAlias", spec := "localAlias", unfollowed := true, recurses := true, apart := false, narrowed := true }
def LocalAliasUptoSaid : Prop := localAliasUptoRow.holds Try.pinned (OpenSpec.upto localAliasSpec)

/-- 'sodalitylaw26.LocalPlays', WHERE WHAT IT READS IS OF BULK AT MOST 1048576: true; the input reads as it did. -/
def localPlaysUptoRow : OpenClaim := { program := "ytbnkcagcfbpiiaa", sum := "b743c1053bbef31aab967a52e2985011a1fc6b6e05e0540123dc67755b2f5953", func := "sodality/sodalitylaw26.LocalPlays", spec := "localPlays", unfollowed := true, recurses := true, apart := false, narrowed := true }
def LocalPlaysUptoSaid : Prop := localPlaysUptoRow.holds Try.pinned (OpenSpec.upto localPlaysSpec)

/-- 'sodalitylaw26.LocalNone', WHERE WHAT IT READS IS OF BULK AT MOST 1048576: true; the input reads as it did. -/
def localNoneUptoRow : OpenClaim := { program := "ytbnkcagcfbpiiaa", sum := "b743c1053bbef31aab967a52e2985011a1fc6b6e05e0540123dc67755b2f5953", func := "sodality/sodalitylaw26.LocalNone", spec := "localNone", unfollowed := true, recurses := true, apart := false, narrowed := true }
def LocalNoneUptoSaid : Prop := localNoneUptoRow.holds Try.pinned (OpenSpec.upto localNoneSpec)

end Rows
end Go.Proofs.Ytbnkcagcfbpiiaa
