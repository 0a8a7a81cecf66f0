/-
  No cell of these rows narrows 'for every input' (looked for: loops, veiled, ifaces, maps, wideKeys, modest, calm, conditions, laid).
  DERIVED. THE GIVEN ROWS OF THIS SEAT. 5 by the template 'for every input the law returns true; each argument reads behind the call as it read before'; 0 by the template 'total and deterministic' (their statements: YtomdccdffennfaaTotals.lean).
  GIVEN WITH THE SEED: the statements are not yours to turn. If you find one false, say at which input.
  Laid BY PROGRAM, IN A SANDBOX (cutbox-rows.mjs): the forced cells as the released guide's own fill.sh prints them over the translation 9b37eed46cb485d4… (all of the seat's roots in one cut). By AI agents, Wed Nov 11 2026. No macro, syntax, notation, axiom, sorry.
-/
import Derived.Test.YtomdccdffennfaaChecked
import GoSem.Claim
import GoSem.ClaimJoined
import GoSem.ClaimMapViews
import Derived.JoinedTies
import Derived.KernelRfl
namespace Go.Proofs.Ytomdccdffennfaa
/- THE CELL 'sum', in the pinned program and in every row, IS THE sha256 OF THE DUMP (.gsa) THAT YtomdccdffennfaaProg.lean LOADS. Nothing in Lean hashes anything: it is a label: what it is worth is what the hold of that sum in a sandbox is worth. -/
noncomputable def Try.pinned : Pinned := { name := "ytomdccdffennfaa", sum := "9b37eed46cb485d41d5401b27ed0dd7f85ca3e5106081c2d68109110856a072c", checked := Try.checked }
namespace Rows
def none {H : Type} : Left H := { results := [], args := [] }

/-- 'sodalitylaw25.HealthRows': WHATEVER THE INPUT: true; the input reads as it did. -/
def healthRowsSpec : ChangeSpec := { name := "healthRows", fn := fun _ => fun
  | [d1, d2, d3] => { results := [.lit (.bool true)], args := [d1, d2, d3] }
  | _ => none }
def healthRowsRow : OpenClaim := { program := "ytomdccdffennfaa", sum := "9b37eed46cb485d41d5401b27ed0dd7f85ca3e5106081c2d68109110856a072c", func := "sodality/sodalitylaw25.HealthRows", spec := "healthRows", unfollowed := true, recurses := true, apart := false }
def HealthRowsSaid : Prop := healthRowsRow.holds Try.pinned (OpenSpec.ofChange healthRowsSpec)

/-- ITS FALSE NEIGHBOUR: 'it returns false'. Refute it at one input. -/
def healthRowsWrong : ChangeSpec := { name := "healthRows", fn := fun _ => fun
  | [d1, d2, d3] => { results := [.lit (.bool false)], args := [d1, d2, d3] }
  | _ => none }
def HealthRowsWrongFalsely : Prop := healthRowsRow.holds Try.pinned (OpenSpec.ofChange healthRowsWrong)

/-- 'sodalitylaw25.HealthLasts': WHATEVER THE INPUT: true; the input reads as it did. -/
def healthLastsSpec : ChangeSpec := { name := "healthLasts", fn := fun _ => fun
  | [d1, d2, d3] => { results := [.lit (.bool true)], args := [d1, d2, d3] }
  | _ => none }
def healthLastsRow : OpenClaim := { program := "ytomdccdffennfaa", sum := "9b37eed46cb485d41d5401b27ed0dd7f85ca3e5106081c2d68109110856a072c", func := "sodality/sodalitylaw25.HealthLasts", spec := "healthLasts", unfollowed := true, recurses := true, apart := false }
def HealthLastsSaid : Prop := healthLastsRow.holds Try.pinned (OpenSpec.ofChange healthLastsSpec)

/-- ITS FALSE NEIGHBOUR: 'it returns false'. Refute it at one input. -/
def healthLastsWrong : ChangeSpec := { name := "healthLasts", fn := fun _ => fun
  | [d1, d2, d3] => { results := [.lit (.bool false)], args := [d1, d2, d3] }
  | _ => none }
def HealthLastsWrongFalsely : Prop := healthLastsRow.holds Try.pinned (OpenSpec.ofChange healthLastsWrong)

/-- 'sodalitylaw25.HealthOver': WHATEVER THE INPUT: true; the input reads as it did. -/
def healthOverSpec : ChangeSpec := { name := "healthOver", fn := fun _ => fun
  | [d1, d2] => { results := [.lit (.bool true)], args := [d1, d2] }
  | _ => none }
def healthOverRow : OpenClaim := { program := "ytomdccdffennfaa", sum := "9b37eed46cb485d41d5401b27ed0dd7f85ca3e5106081c2d68109110856a072c", func := "sodality/sodalitylaw25.HealthOver", spec := "healthOver", unfollowed := true, recurses := true, apart := false }
def HealthOverSaid : Prop := healthOverRow.holds Try.pinned (OpenSpec.ofChange healthOverSpec)

/-- ITS FALSE NEIGHBOUR: 'it returns false'. Refute it at one input. -/
def healthOverWrong : ChangeSpec := { name := "healthOver", fn := fun _ => fun
  | [d1, d2] => { results := [.lit (.bool false)], args := [d1, d2] }
  | _ => none }
def HealthOverWrongFalsely : Prop := healthOverRow.holds Try.pinned (OpenSpec.ofChange healthOverWrong)

/-- 'sodalitylaw25.HealthPlays': WHATEVER THE INPUT: true; the input reads as it did. -/
def healthPlaysSpec : ChangeSpec := { name := "healthPlays", fn := fun _ => fun
  | [d1, d2] => { results := [.lit (.bool true)], args := [d1, d2] }
  | _ => none }
def healthPlaysRow : OpenClaim := { program := "ytomdccdffennfaa", sum := "9b37eed46cb485d41d5401b27ed0dd7f85ca3e5106081c2d68109110856a072c", func := "sodality/sodalitylaw25.HealthPlays", spec := "healthPlays", unfollowed := true, recurses := true, apart := false }
def HealthPlaysSaid : Prop := healthPlaysRow.holds Try.pinned (OpenSpec.ofChange healthPlaysSpec)

/-- ITS FALSE NEIGHBOUR: 'it returns false'. Refute it at one input. -/
def healthPlaysWrong : ChangeSpec := { name := "healthPlays", fn := fun _ => fun
  | [d1, d2] => { results := [.lit (.bool false)], args := [d1, d2] }
  | _ => none }
def HealthPlaysWrongFalsely : Prop := healthPlaysRow.holds Try.pinned (OpenSpec.ofChange healthPlaysWrong)

/-- 'sodalitylaw25.HealthNone': WHATEVER THE INPUT: true; the input reads as it did. -/
def healthNoneSpec : ChangeSpec := { name := "healthNone", fn := fun _ => fun
  | [d] => { results := [.lit (.bool true)], args := [d] }
  | _ => none }
def healthNoneRow : OpenClaim := { program := "ytomdccdffennfaa", sum := "9b37eed46cb485d41d5401b27ed0dd7f85ca3e5106081c2d68109110856a072c", func := "sodality/sodalitylaw25.HealthNone", spec := "healthNone", unfollowed := true, recurses := true, apart := false }
def HealthNoneSaid : Prop := healthNoneRow.holds Try.pinned (OpenSpec.ofChange healthNoneSpec)

/-- ITS FALSE NEIGHBOUR: 'it returns false'. Refute it at one input. -/
def healthNoneWrong : ChangeSpec := { name := "healthNone", fn := fun _ => fun
  | [d] => { results := [.lit (.bool false)], args := [d] }
  | _ => none }
def HealthNoneWrongFalsely : Prop := healthNoneRow.holds Try.pinned (OpenSpec.ofChange healthNoneWrong)

/- THE SECOND FORM. 'bulk': how many values and letters a reading holds, each counted each time it is reached (what is shared counts as often as it is met; a slice's spare places count too). A statement '..UptoSaid' is the law's where the arguments, and the package variables that the reading takes, are together of bulk at most 1048576: NARROWER than '..Said'. Prove '..Said' where nothing that the law and all that it calls make is longer than what came in: it says more and counts as full. Else prove '..UptoSaid'. A law counts once. -/
mutual
def uptoBulk {H : Type} : DataW H → Nat
  | .lit (.string bytes) => bytes.length + 1
  | .lit _ => 1
  | .nil => 1
  | .ptr d => uptoBulk d + 1
  | .slice elems spare => uptoBulkAll elems + uptoBulkAll spare + 1
  | .agg parts => uptoBulkAll parts + 1
  | .iface _ d => uptoBulk d + 1
  | .map entries => uptoBulkEntries entries + 1
  | .held _ => 1
def uptoBulkAll {H : Type} : List (DataW H) → Nat
  | [] => 0
  | d :: r => uptoBulk d + uptoBulkAll r
def uptoBulkEntries {H : Type} : List (Lit × DataW H) → Nat
  | [] => 0
  | x :: r => uptoBulkEntry x + uptoBulkEntries r
def uptoBulkEntry {H : Type} : Lit × DataW H → Nat
  | (.string bytes, d) => bytes.length + uptoBulk d + 1
  | (_, d) => uptoBulk d + 1
 end
def uptoSmall : (H : Type) → List (DataW H) → Bool := fun _ ds => decide (uptoBulkAll ds ≤ 1048576)
def OpenSpec.upto (s : _root_.Go.ChangeSpec) : _root_.Go.OpenSpec := { _root_.Go.OpenSpec.ofChange s with cond := some uptoSmall }

/-- 'sodalitylaw25.HealthRows', WHERE WHAT IT READS IS OF BULK AT MOST 1048576: true; the input reads as it did. -/
def healthRowsUptoRow : OpenClaim := { program := "ytomdccdffennfaa", sum := "9b37eed46cb485d41d5401b27ed0dd7f85ca3e5106081c2d68109110856a072c", func := "sodality/sodalitylaw25.HealthRows", spec := "healthRows", unfollowed := true, recurses := true, apart := false, narrowed := true }
def HealthRowsUptoSaid : Prop := healthRowsUptoRow.holds Try.pinned (OpenSpec.upto healthRowsSpec)

/-- 'sodalitylaw25.HealthLasts', WHERE WHAT IT READS IS OF BULK AT MOST 1048576: true; the input reads as it did. -/
def healthLastsUptoRow : OpenClaim := { program := "ytomdccdffennfaa", sum := "9b37eed46cb485d41d5401b27ed0dd7f85ca3e5106081c2d68109110856a072c", func := "sodality/sodalitylaw25.HealthLasts", spec := "healthLasts", unfollowed := true, recurses := true, apart := false, narrowed := true }
def HealthLastsUptoSaid : Prop := healthLastsUptoRow.holds Try.pinned (OpenSpec.upto healthLastsSpec)

/-- 'sodalitylaw25.HealthOver', WHERE WHAT IT READS IS OF BULK AT MOST 1048576: true; the input reads as it did. -/
def healthOverUptoRow : OpenClaim := { program := "ytomdccdffennfaa", sum := "9b37eed46cb485d41d5401b27ed0dd7f85ca3e5106081c2d68109110856a072c", func := "sodality/sodalitylaw25.HealthOver", spec := "healthOver", unfollowed := true, recurses := true, apart := false, narrowed := true }
def HealthOverUptoSaid : Prop := healthOverUptoRow.holds Try.pinned (OpenSpec.upto healthOverSpec)

/-- 'sodalitylaw25.HealthPlays', WHERE WHAT IT READS IS OF BULK AT MOST 1048576: true; the input reads as it did. -/
def healthPlaysUptoRow : OpenClaim := { program := "ytomdccdffennfaa", sum := "9b37eed46cb485d41d5401b27ed0dd7f85ca3e5106081c2d68109110856a072c", func := "sodality/sodalitylaw25.HealthPlays", spec := "healthPlays", unfollowed := true, recurses := true, apart := false, narrowed := true }
def HealthPlaysUptoSaid : Prop := healthPlaysUptoRow.holds Try.pinned (OpenSpec.upto healthPlaysSpec)

/-- 'sodalitylaw25.HealthNone', WHERE WHAT IT READS IS OF BULK AT MOST 1048576: true; the input reads as it did. -/
def healthNoneUptoRow : OpenClaim := { program := "ytomdccdffennfaa", sum := "9b37eed46cb485d41d5401b27ed0dd7f85ca3e5106081c2d68109110856a072c", func := "sodality/sodalitylaw25.HealthNone", spec := "healthNone", unfollowed := true, recurses := true, apart := false, narrowed := true }
def HealthNoneUptoSaid : Prop := healthNoneUptoRow.holds Try.pinned (OpenSpec.upto healthNoneSpec)

end Rows
end Go.Proofs.Ytomdccdffennfaa
