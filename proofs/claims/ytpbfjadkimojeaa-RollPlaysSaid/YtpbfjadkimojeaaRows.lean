/-
  No cell of these rows narrows 'for every input' (looked for: loops, veiled, ifaces, maps, wideKeys, modest, calm, conditions, laid).
  DERIVED. THE GIVEN ROWS OF THIS SEAT. 5 by the template 'for every input the law returns true; each argument reads behind the call as it read before'; 0 by the template 'total and deterministic' (their statements: YtpbfjadkimojeaaTotals.lean).
  GIVEN WITH THE SEED: the statements are not yours to turn. If you find one false, say at which input.
  Laid BY PROGRAM, IN A SANDBOX (cutbox-rows.mjs): the forced cells as the released guide's own fill.sh prints them over the translation c163dc9018af895a… (all of the seat's roots in one cut). By AI agents, Wed Nov 11 2026. No macro, syntax, notation, axiom, sorry.
-/
import Derived.Test.YtpbfjadkimojeaaChecked
import GoSem.Claim
import GoSem.ClaimJoined
import GoSem.ClaimMapViews
import Derived.JoinedTies
import Derived.KernelRfl
namespace Go.Proofs.Ytpbfjadkimojeaa
/- THE CELL 'sum', in the pinned program and in every row, IS THE sha256 OF THE DUMP (.gsa) THAT YtpbfjadkimojeaaProg.lean LOADS. Nothing in Lean hashes anything: it is a label: what it is worth is what the hold of that sum in a sandbox is worth. -/
noncomputable def Try.pinned : Pinned := { name := "ytpbfjadkimojeaa", sum := "c163dc9018af895adaa6ef0ea3e1136cfbad8864ca7d114b792eb3feb6c4fc3a", checked := Try.checked }
namespace Rows
def none {H : Type} : Left H := { results := [], args := [] }

/-- 'sodalitylaw09.RollAlive': WHATEVER THE INPUT: true; the input reads as it did. -/
def rollAliveSpec : ChangeSpec := { name := "rollAlive", fn := fun _ => fun
  | [d1, d2, d3] => { results := [.lit (.bool true)], args := [d1, d2, d3] }
  | _ => none }
def rollAliveRow : OpenClaim := { program := "ytpbfjadkimojeaa", sum := "c163dc9018af895adaa6ef0ea3e1136cfbad8864ca7d114b792eb3feb6c4fc3a", func := "sodality/sodalitylaw09.RollAlive", spec := "rollAlive", apart := false }
def RollAliveSaid : Prop := rollAliveRow.holds Try.pinned (OpenSpec.ofChange rollAliveSpec)

/-- ITS FALSE NEIGHBOUR: 'it returns false'. Refute it at one input. -/
def rollAliveWrong : ChangeSpec := { name := "rollAlive", fn := fun _ => fun
  | [d1, d2, d3] => { results := [.lit (.bool false)], args := [d1, d2, d3] }
  | _ => none }
def RollAliveWrongFalsely : Prop := rollAliveRow.holds Try.pinned (OpenSpec.ofChange rollAliveWrong)

/-- 'sodalitylaw09.RollRises': WHATEVER THE INPUT: true; the input reads as it did. -/
def rollRisesSpec : ChangeSpec := { name := "rollRises", fn := fun _ => fun
  | [d1, d2, d3] => { results := [.lit (.bool true)], args := [d1, d2, d3] }
  | _ => none }
def rollRisesRow : OpenClaim := { program := "ytpbfjadkimojeaa", sum := "c163dc9018af895adaa6ef0ea3e1136cfbad8864ca7d114b792eb3feb6c4fc3a", func := "sodality/sodalitylaw09.RollRises", spec := "rollRises", unfollowed := true, recurses := true, apart := false }
def RollRisesSaid : Prop := rollRisesRow.holds Try.pinned (OpenSpec.ofChange rollRisesSpec)

/-- ITS FALSE NEIGHBOUR: 'it returns false'. Refute it at one input. -/
def rollRisesWrong : ChangeSpec := { name := "rollRises", fn := fun _ => fun
  | [d1, d2, d3] => { results := [.lit (.bool false)], args := [d1, d2, d3] }
  | _ => none }
def RollRisesWrongFalsely : Prop := rollRisesRow.holds Try.pinned (OpenSpec.ofChange rollRisesWrong)

/-- 'sodalitylaw09.RollJoins': WHATEVER THE INPUT: true; the input reads as it did. -/
def rollJoinsSpec : ChangeSpec := { name := "rollJoins", fn := fun _ => fun
  | [d1, d2] => { results := [.lit (.bool true)], args := [d1, d2] }
  | _ => none }
def rollJoinsRow : OpenClaim := { program := "ytpbfjadkimojeaa", sum := "c163dc9018af895adaa6ef0ea3e1136cfbad8864ca7d114b792eb3feb6c4fc3a", func := "sodality/sodalitylaw09.RollJoins", spec := "rollJoins", unfollowed := true, recurses := true, apart := false }
def RollJoinsSaid : Prop := rollJoinsRow.holds Try.pinned (OpenSpec.ofChange rollJoinsSpec)

/-- ITS FALSE NEIGHBOUR: 'it returns false'. Refute it at one input. -/
def rollJoinsWrong : ChangeSpec := { name := "rollJoins", fn := fun _ => fun
  | [d1, d2] => { results := [.lit (.bool false)], args := [d1, d2] }
  | _ => none }
def RollJoinsWrongFalsely : Prop := rollJoinsRow.holds Try.pinned (OpenSpec.ofChange rollJoinsWrong)

/-- 'sodalitylaw09.RollPlays': WHATEVER THE INPUT: true; the input reads as it did. -/
def rollPlaysSpec : ChangeSpec := { name := "rollPlays", fn := fun _ => fun
  | [d1, d2, d3] => { results := [.lit (.bool true)], args := [d1, d2, d3] }
  | _ => none }
def rollPlaysRow : OpenClaim := { program := "ytpbfjadkimojeaa", sum := "c163dc9018af895adaa6ef0ea3e1136cfbad8864ca7d114b792eb3feb6c4fc3a", func := "sodality/sodalitylaw09.RollPlays", spec := "rollPlays", unfollowed := true, recurses := true, apart := false }
def RollPlaysSaid : Prop := rollPlaysRow.holds Try.pinned (OpenSpec.ofChange rollPlaysSpec)

/-- ITS FALSE NEIGHBOUR: 'it returns false'. Refute it at one input. -/
def rollPlaysWrong : ChangeSpec := { name := "rollPlays", fn := fun _ => fun
  | [d1, d2, d3] => { results := [.lit (.bool false)], args := [d1, d2, d3] }
  | _ => none }
def RollPlaysWrongFalsely : Prop := rollPlaysRow.holds Try.pinned (OpenSpec.ofChange rollPlaysWrong)

/-- 'sodalitylaw09.RollNone': WHATEVER THE INPUT: true; the input reads as it did. -/
def rollNoneSpec : ChangeSpec := { name := "rollNone", fn := fun _ => fun
  | [d] => { results := [.lit (.bool true)], args := [d] }
  | _ => none }
def rollNoneRow : OpenClaim := { program := "ytpbfjadkimojeaa", sum := "c163dc9018af895adaa6ef0ea3e1136cfbad8864ca7d114b792eb3feb6c4fc3a", func := "sodality/sodalitylaw09.RollNone", spec := "rollNone", unfollowed := true, recurses := true, apart := false }
def RollNoneSaid : Prop := rollNoneRow.holds Try.pinned (OpenSpec.ofChange rollNoneSpec)

/-- ITS FALSE NEIGHBOUR: 'it returns false'. Refute it at one input. -/
def rollNoneWrong : ChangeSpec := { name := "rollNone", fn := fun _ => fun
  | [d] => { results := [.lit (.bool false)], args := [d] }
  | _ => none }
def RollNoneWrongFalsely : Prop := rollNoneRow.holds Try.pinned (OpenSpec.ofChange rollNoneWrong)

/- THE SECOND FORM. 'bulk': how many values and letters a reading holds, each counted each time it is reached (what is shared counts as often as it is met; a slice's spare places count too). A statement '..UptoSaid' is the law's where the arguments, and the package variables that the reading takes, are together of bulk at most 1048576: NARROWER than '..Said'. Prove '..Said' where nothing that the law and all that it calls make is longer than what came in: it says more and counts as full. Else prove '..UptoSaid'. A law counts once. -/
mutual
def uptoBulk {H : Type} : DataW H → Nat
  | .lit (.string bytes) => bytes.length + 1
  | .lit _ => 1
  | .nil => 1
  | .ptr d => uptoBulk d + 1
  | .slice elems spare => uptoBulkAll elems + uptoBulkAll spare + 1
  | .agg parts => uptoBulkAll parts + 1
  | .iface _ d => uptoBulk d + 1
  | .map entries => uptoBulkEntries entries + 1
  | .held _ => 1
def uptoBulkAll {H : Type} : List (DataW H) → Nat
  | [] => 0
  | d :: r => uptoBulk d + uptoBulkAll r
def uptoBulkEntries {H : Type} : List (Lit × DataW H) → Nat
  | [] => 0
  | x :: r => uptoBulkEntry x + uptoBulkEntries r
def uptoBulkEntry {H : Type} : Lit × DataW H → Nat
  | (.string bytes, d) => bytes.length + uptoBulk d + 1
  | (_, d) => uptoBulk d + 1
 end
def uptoSmall : (H : Type) → List (DataW H) → Bool := fun _ ds => decide (uptoBulkAll ds ≤ 1048576)
def OpenSpec.upto (s : _root_.Go.ChangeSpec) : _root_.Go.OpenSpec := { _root_.Go.OpenSpec.ofChange s with cond := some uptoSmall }

/-- 'sodalitylaw09.RollAlive', WHERE WHAT IT READS IS OF BULK AT MOST 1048576: true; the input reads as it did. -/
def rollAliveUptoRow : OpenClaim := { program := "ytpbfjadkimojeaa", sum := "c163dc9018af895adaa6ef0ea3e1136cfbad8864ca7d114b792eb3feb6c4fc3a", func := "sodality/sodalitylaw09.RollAlive", spec := "rollAlive", apart := false, narrowed := true }
def RollAliveUptoSaid : Prop := rollAliveUptoRow.holds Try.pinned (OpenSpec.upto rollAliveSpec)

/-- 'sodalitylaw09.RollRises', WHERE WHAT IT READS IS OF BULK AT MOST 1048576: true; the input reads as it did. -/
def rollRisesUptoRow : OpenClaim := { program := "ytpbfjadkimojeaa", sum := "c163dc9018af895adaa6ef0ea3e1136cfbad8864ca7d114b792eb3feb6c4fc3a", func := "sodality/sodalitylaw09.RollRises", spec := "rollRises", unfollowed := true, recurses := true, apart := false, narrowed := true }
def RollRisesUptoSaid : Prop := rollRisesUptoRow.holds Try.pinned (OpenSpec.upto rollRisesSpec)

/-- 'sodalitylaw09.RollJoins', WHERE WHAT IT READS IS OF BULK AT MOST 1048576: true; the input reads as it did. -/
def rollJoinsUptoRow : OpenClaim := { program := "ytpbfjadkimojeaa", sum := "c163dc9018af895adaa6ef0ea3e1136cfbad8864ca7d114b792eb3feb6c4fc3a", func := "sodality/sodalitylaw09.RollJoins", spec := "rollJoins", unfollowed := true, recurses := true, apart := false, narrowed := true }
def RollJoinsUptoSaid : Prop := rollJoinsUptoRow.holds Try.pinned (OpenSpec.upto rollJoinsSpec)

/-- 'sodalitylaw09.RollPlays', WHERE WHAT IT READS IS OF BULK AT MOST 1048576: true; the input reads as it did. -/
def rollPlaysUptoRow : OpenClaim := { program := "ytpbfjadkimojeaa", sum := "c163dc9018af895adaa6ef0ea3e1136cfbad8864ca7d114b792eb3feb6c4fc3a", func := "sodality/sodalitylaw09.RollPlays", spec := "rollPlays", unfollowed := true, recurses := true, apart := false, narrowed := true }
def RollPlaysUptoSaid : Prop := rollPlaysUptoRow.holds Try.pinned (OpenSpec.upto rollPlaysSpec)

/-- 'sodalitylaw09.RollNone', WHERE WHAT IT READS IS OF BULK AT MOST 1048576: true; the input reads as it did. -/
def rollNoneUptoRow : OpenClaim := { program := "ytpbfjadkimojeaa", sum := "c163dc9018af895adaa6ef0ea3e1136cfbad8864ca7d114b792eb3feb6c4fc3a", func := "sodality/sodalitylaw09.RollNone", spec := "rollNone", unfollowed := true, recurses := true, apart := false, narrowed := true }
def RollNoneUptoSaid : Prop := rollNoneUptoRow.holds Try.pinned (OpenSpec.upto rollNoneSpec)

end Rows
end Go.Proofs.Ytpbfjadkimojeaa
