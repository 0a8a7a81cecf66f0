/-
  No cell of these rows narrows 'for every input' (looked for: loops, veiled, ifaces, maps, wideKeys, modest, calm, conditions, laid).
  DERIVED. THE GIVEN ROWS OF THIS SEAT. 6 by the template 'for every input the law returns true; each argument reads behind the call as it read before'; 0 by the template 'total and deterministic' (their statements: YtkmgnplaokogbaaTotals.lean).
  GIVEN WITH THE SEED: the statements are not yours to turn. If you find one false, say at which input.
  Laid BY PROGRAM, IN A SANDBOX (cutbox-rows.mjs): the forced cells as the released guide's own fill.sh prints them over the translation 01dd0e4339ffe28b… (all of the seat's roots in one cut). By AI agents, Wed Nov 11 2026. No macro, syntax, notation, axiom, sorry.
-/
import Derived.Test.YtkmgnplaokogbaaChecked
import GoSem.Claim
import GoSem.ClaimJoined
import GoSem.ClaimMapViews
import Derived.JoinedTies
import Derived.KernelRfl
namespace Go.Proofs.Ytkmgnplaokogbaa
/- THE CELL 'sum', in the pinned program and in every row, IS THE sha256 OF THE DUMP (.gsa) THAT YtkmgnplaokogbaaProg.lean LOADS. Nothing in Lean hashes anything: it is a label: what it is worth is what the hold of that sum in a sandbox is worth. -/
noncomputable def Try.pinned : Pinned := { name := "ytkmgnplaokogbaa", sum := "01dd0e4339ffe28b09a69dd59ca307ff06a1132c73681330122a930757acd897", checked := Try.checked }
namespace Rows
def none {H : Type} : Left H := { results := [], args := [] }

/-- 'sodalitylaw01.NameRights': WHATEVER THE INPUT: true; the input reads as it did. -/
def nameRightsSpec : ChangeSpec := { name := "nameRights", fn := fun _ => fun
  | [d1, d2] => { results := [.lit (.bool true)], args := [d1, d2] }
  | _ => none }
def nameRightsRow : OpenClaim := { program := "ytkmgnplaokogbaa", sum := "01dd0e4339ffe28b09a69dd59ca307ff06a1132c73681330122a930757acd897", func := "sodality/sodalitylaw01.NameRights", spec := "nameRights", inPlace := ["internal/bytealg.IndexByteString", "internal/bytealg.IndexString"], unfollowed := true, recurses := true, named := ["internal/bytealg.MaxLen"], apart := false }
def NameRightsSaid : Prop := nameRightsRow.holds Try.pinned (OpenSpec.ofChange nameRightsSpec)

/-- ITS FALSE NEIGHBOUR: 'it returns false'. Refute it at one input. -/
def nameRightsWrong : ChangeSpec := { name := "nameRights", fn := fun _ => fun
  | [d1, d2] => { results := [.lit (.bool false)], args := [d1, d2] }
  | _ => none }
def NameRightsWrongFalsely : Prop := nameRightsRow.holds Try.pinned (OpenSpec.ofChange nameRightsWrong)

/-- 'sodalitylaw01.NameTags': WHATEVER THE INPUT: true; the input reads as it did. -/
def nameTagsSpec : ChangeSpec := { name := "nameTags", fn := fun _ => fun
  | [d] => { results := [.lit (.bool true)], args := [d] }
  | _ => none }
def nameTagsRow : OpenClaim := { program := "ytkmgnplaokogbaa", sum := "01dd0e4339ffe28b09a69dd59ca307ff06a1132c73681330122a930757acd897", func := "sodality/sodalitylaw01.NameTags", spec := "nameTags", inPlace := ["internal/bytealg.IndexByteString", "internal/bytealg.IndexString"], unfollowed := true, recurses := true, named := ["internal/bytealg.MaxLen"], apart := false }
def NameTagsSaid : Prop := nameTagsRow.holds Try.pinned (OpenSpec.ofChange nameTagsSpec)

/-- ITS FALSE NEIGHBOUR: 'it returns false'. Refute it at one input. -/
def nameTagsWrong : ChangeSpec := { name := "nameTags", fn := fun _ => fun
  | [d] => { results := [.lit (.bool false)], args := [d] }
  | _ => none }
def NameTagsWrongFalsely : Prop := nameTagsRow.holds Try.pinned (OpenSpec.ofChange nameTagsWrong)

/-- 'sodalitylaw01.NameKeys': WHATEVER THE INPUT: true; the input reads as it did. -/
def nameKeysSpec : ChangeSpec := { name := "nameKeys", fn := fun _ => fun
  | [d1, d2] => { results := [.lit (.bool true)], args := [d1, d2] }
  | _ => none }
def nameKeysRow : OpenClaim := { program := "ytkmgnplaokogbaa", sum := "01dd0e4339ffe28b09a69dd59ca307ff06a1132c73681330122a930757acd897", func := "sodality/sodalitylaw01.NameKeys", spec := "nameKeys", inPlace := ["internal/bytealg.IndexByteString", "internal/bytealg.IndexString"], unfollowed := true, recurses := true, named := ["internal/bytealg.MaxLen"], apart := false }
def NameKeysSaid : Prop := nameKeysRow.holds Try.pinned (OpenSpec.ofChange nameKeysSpec)

/-- ITS FALSE NEIGHBOUR: 'it returns false'. Refute it at one input. -/
def nameKeysWrong : ChangeSpec := { name := "nameKeys", fn := fun _ => fun
  | [d1, d2] => { results := [.lit (.bool false)], args := [d1, d2] }
  | _ => none }
def NameKeysWrongFalsely : Prop := nameKeysRow.holds Try.pinned (OpenSpec.ofChange nameKeysWrong)

/-- 'sodalitylaw01.NameParts': WHATEVER THE INPUT: true; the input reads as it did. -/
def namePartsSpec : ChangeSpec := { name := "nameParts", fn := fun _ => fun
  | [d1, d2] => { results := [.lit (.bool true)], args := [d1, d2] }
  | _ => none }
def namePartsRow : OpenClaim := { program := "ytkmgnplaokogbaa", sum := "01dd0e4339ffe28b09a69dd59ca307ff06a1132c73681330122a930757acd897", func := "sodality/sodalitylaw01.NameParts", spec := "nameParts", inPlace := ["internal/bytealg.IndexByteString", "internal/bytealg.IndexString"], unfollowed := true, recurses := true, named := ["internal/bytealg.MaxLen"], apart := false }
def NamePartsSaid : Prop := namePartsRow.holds Try.pinned (OpenSpec.ofChange namePartsSpec)

/-- ITS FALSE NEIGHBOUR: 'it returns false'. Refute it at one input. -/
def namePartsWrong : ChangeSpec := { name := "nameParts", fn := fun _ => fun
  | [d1, d2] => { results := [.lit (.bool false)], args := [d1, d2] }
  | _ => none }
def NamePartsWrongFalsely : Prop := namePartsRow.holds Try.pinned (OpenSpec.ofChange namePartsWrong)

/-- 'sodalitylaw01.NameSorts': WHATEVER THE INPUT: true; the input reads as it did. -/
def nameSortsSpec : ChangeSpec := { name := "nameSorts", fn := fun _ => fun
  | [d1, d2] => { results := [.lit (.bool true)], args := [d1, d2] }
  | _ => none }
def nameSortsRow : OpenClaim := { program := "ytkmgnplaokogbaa", sum := "01dd0e4339ffe28b09a69dd59ca307ff06a1132c73681330122a930757acd897", func := "sodality/sodalitylaw01.NameSorts", spec := "nameSorts", inPlace := ["internal/bytealg.IndexByteString", "internal/bytealg.IndexString"], unfollowed := true, recurses := true, named := ["internal/bytealg.MaxLen"], apart := false }
def NameSortsSaid : Prop := nameSortsRow.holds Try.pinned (OpenSpec.ofChange nameSortsSpec)

/-- ITS FALSE NEIGHBOUR: 'it returns false'. Refute it at one input. -/
def nameSortsWrong : ChangeSpec := { name := "nameSorts", fn := fun _ => fun
  | [d1, d2] => { results := [.lit (.bool false)], args := [d1, d2] }
  | _ => none }
def NameSortsWrongFalsely : Prop := nameSortsRow.holds Try.pinned (OpenSpec.ofChange nameSortsWrong)

/-- 'sodalitylaw01.NameAgain': WHATEVER THE INPUT: true; the input reads as it did. -/
def nameAgainSpec : ChangeSpec := { name := "nameAgain", fn := fun _ => fun
  | [d1, d2] => { results := [.lit (.bool true)], args := [d1, d2] }
  | _ => none }
def nameAgainRow : OpenClaim := { program := "ytkmgnplaokogbaa", sum := "01dd0e4339ffe28b09a69dd59ca307ff06a1132c73681330122a930757acd897", func := "sodality/sodalitylaw01.NameAgain", spec := "nameAgain", inPlace := ["internal/bytealg.IndexByteString", "internal/bytealg.IndexString"], unfollowed := true, recurses := true, named := ["internal/bytealg.MaxLen"], apart := false }
def NameAgainSaid : Prop := nameAgainRow.holds Try.pinned (OpenSpec.ofChange nameAgainSpec)

/-- ITS FALSE NEIGHBOUR: 'it returns false'. Refute it at one input. -/
def nameAgainWrong : ChangeSpec := { name := "nameAgain", fn := fun _ => fun
  | [d1, d2] => { results := [.lit (.bool false)], args := [d1, d2] }
  | _ => none }
def NameAgainWrongFalsely : Prop := nameAgainRow.holds Try.pinned (OpenSpec.ofChange nameAgainWrong)

/- THE SECOND FORM. 'bulk': how many values and letters a reading holds, each counted each time it is reached (what is shared counts as often as it is met; a slice's spare places count too). A statement '..UptoSaid' is the law's where the arguments, and the package variables that the reading takes, are together of bulk at most 1048576: NARROWER than '..Said'. Prove '..Said' where nothing that the law and all that it calls make is longer than what came in: it says more and counts as full. Else prove '..UptoSaid'. A law counts once. -/
mutual
def uptoBulk {H : Type} : DataW H → Nat
  | .lit (.string bytes) => bytes.length + 1
  | .lit _ => 1
  | .nil => 1
  | .ptr d => uptoBulk d + 1
  | .slice elems spare => uptoBulkAll elems + uptoBulkAll spare + 1
  | .agg parts => uptoBulkAll parts + 1
  | .iface _ d => uptoBulk d + 1
  | .map entries => uptoBulkEntries entries + 1
  | .held _ => 1
def uptoBulkAll {H : Type} : List (DataW H) → Nat
  | [] => 0
  | d :: r => uptoBulk d + uptoBulkAll r
def uptoBulkEntries {H : Type} : List (Lit × DataW H) → Nat
  | [] => 0
  | x :: r => uptoBulkEntry x + uptoBulkEntries r
def uptoBulkEntry {H : Type} : Lit × DataW H → Nat
  | (.string bytes, d) => bytes.length + uptoBulk d + 1
  | (_, d) => uptoBulk d + 1
 end
def uptoSmall : (H : Type) → List (DataW H) → Bool := fun _ ds => decide (uptoBulkAll ds ≤ 1048576)
def OpenSpec.upto (s : _root_.Go.ChangeSpec) : _root_.Go.OpenSpec := { _root_.Go.OpenSpec.ofChange s with cond := some uptoSmall }

/-- 'sodalitylaw01.NameRights', WHERE WHAT IT READS IS OF BULK AT MOST 1048576: true; the input reads as it did. -/
def nameRightsUptoRow : OpenClaim := { program := "ytkmgnplaokogbaa", sum := "01dd0e4339ffe28b09a69dd59ca307ff06a1132c73681330122a930757acd897", func := "sodality/sodalitylaw01.NameRights", spec := "nameRights", inPlace := ["internal/bytealg.IndexByteString", "internal/bytealg.IndexString"], unfollowed := true, recurses := true, named := ["internal/bytealg.MaxLen"], apart := false, narrowed := true }
def NameRightsUptoSaid : Prop := nameRightsUptoRow.holds Try.pinned (OpenSpec.upto nameRightsSpec)

/-- 'sodalitylaw01.NameTags', WHERE WHAT IT READS IS OF BULK AT MOST 1048576: true; the input reads as it did. -/
def nameTagsUptoRow : OpenClaim := { program := "ytkmgnplaokogbaa", sum := "01dd0e4339ffe28b09a69dd59ca307ff06a1132c73681330122a930757acd897", func := "sodality/sodalitylaw01.NameTags", spec := "nameTags", inPlace := ["internal/bytealg.IndexByteString", "internal/bytealg.IndexString"], unfollowed := true, recurses := true, named := ["internal/bytealg.MaxLen"], apart := false, narrowed := true }
def NameTagsUptoSaid : Prop := nameTagsUptoRow.holds Try.pinned (OpenSpec.upto nameTagsSpec)

/-- 'sodalitylaw01.NameKeys', WHERE WHAT IT READS IS OF BULK AT MOST 1048576: true; the input reads as it did. -/
def nameKeysUptoRow : OpenClaim := { program := "ytkmgnplaokogbaa", sum := "01dd0e4339ffe28b09a69dd59ca307ff06a1132c73681330122a930757acd897", func := "sodality/sodalitylaw01.NameKeys", spec := "nameKeys", inPlace := ["internal/bytealg.IndexByteString", "internal/bytealg.IndexString"], unfollowed := true, recurses := true, named := ["internal/bytealg.MaxLen"], apart := false, narrowed := true }
def NameKeysUptoSaid : Prop := nameKeysUptoRow.holds Try.pinned (OpenSpec.upto nameKeysSpec)

/-- 'sodalitylaw01.NameParts', WHERE WHAT IT READS IS OF BULK AT MOST 1048576: true; the input reads as it did. -/
def namePartsUptoRow : OpenClaim := { program := "ytkmgnplaokogbaa", sum := "01dd0e4339ffe28b09a69dd59ca307ff06a1132c73681330122a930757acd897", func := "sodality/sodalitylaw01.NameParts", spec := "nameParts", inPlace := ["internal/bytealg.IndexByteString", "internal/bytealg.IndexString"], unfollowed := true, recurses := true, named := ["internal/bytealg.MaxLen"], apart := false, narrowed := true }
def NamePartsUptoSaid : Prop := namePartsUptoRow.holds Try.pinned (OpenSpec.upto namePartsSpec)

/-- 'sodalitylaw01.NameSorts', WHERE WHAT IT READS IS OF BULK AT MOST 1048576: true; the input reads as it did. -/
def nameSortsUptoRow : OpenClaim := { program := "ytkmgnplaokogbaa", sum := "01dd0e4339ffe28b09a69dd59ca307ff06a1132c73681330122a930757acd897", func := "sodality/sodalitylaw01.NameSorts", spec := "nameSorts", inPlace := ["internal/bytealg.IndexByteString", "internal/bytealg.IndexString"], unfollowed := true, recurses := true, named := ["internal/bytealg.MaxLen"], apart := false, narrowed := true }
def NameSortsUptoSaid : Prop := nameSortsUptoRow.holds Try.pinned (OpenSpec.upto nameSortsSpec)

/-- 'sodalitylaw01.NameAgain', WHERE WHAT IT READS IS OF BULK AT MOST 1048576: true; the input reads as it did. -/
def nameAgainUptoRow : OpenClaim := { program := "ytkmgnplaokogbaa", sum := "01dd0e4339ffe28b09a69dd59ca307ff06a1132c73681330122a930757acd897", func := "sodality/sodalitylaw01.NameAgain", spec := "nameAgain", inPlace := ["internal/bytealg.IndexByteString", "internal/bytealg.IndexString"], unfollowed := true, recurses := true, named := ["internal/bytealg.MaxLen"], apart := false, narrowed := true }
def NameAgainUptoSaid : Prop := nameAgainUptoRow.holds Try.pinned (OpenSpec.upto nameAgainSpec)

end Rows
end Go.Proofs.Ytkmgnplaokogbaa
