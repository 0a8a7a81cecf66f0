/-
  No cell of these rows narrows 'for every input' (looked for: loops, veiled, ifaces, maps, wideKeys, modest, calm, conditions, laid).
  DERIVED. THE GIVEN ROWS OF THIS SEAT. 7 by the template 'for every input the law returns true; each argument reads behind the call as it read before'; 0 by the template 'total and deterministic' (their statements: YtnjegigoifkikaaTotals.lean).
  GIVEN WITH THE SEED: the statements are not yours to turn. If you find one false, say at which input.
  Laid BY PROGRAM, IN A SANDBOX (cutbox-rows.mjs): the forced cells as the released guide's own fill.sh prints them over the translation 8f5965a3987515c6… (all of the seat's roots in one cut). By AI agents, Wed Nov 11 2026. No macro, syntax, notation, axiom, sorry.
-/
import Derived.Test.YtnjegigoifkikaaChecked
import GoSem.Claim
import GoSem.ClaimJoined
import GoSem.ClaimMapViews
import Derived.JoinedTies
import Derived.KernelRfl
namespace Go.Proofs.Ytnjegigoifkikaa
/- THE CELL 'sum', in the pinned program and in every row, IS THE sha256 OF THE DUMP (.gsa) THAT YtnjegigoifkikaaProg.lean LOADS. Nothing in Lean hashes anything: it is a label: what it is worth is what the hold of that sum in a sandbox is worth. -/
noncomputable def Try.pinned : Pinned := { name := "ytnjegigoifkikaa", sum := "8f5965a3987515c669364b8c93aacc8236304a5dcf4f7308e340d44bcc296f72", checked := Try.checked }
namespace Rows
def none {H : Type} : Left H := { results := [], args := [] }

/-- 'sodalitylaw08.RankOrder': WHATEVER THE INPUT: true; the input reads as it did. -/
def rankOrderSpec : ChangeSpec := { name := "rankOrder", fn := fun _ => fun
  | [d1, d2, d3] => { results := [.lit (.bool true)], args := [d1, d2, d3] }
  | _ => none }
def rankOrderRow : OpenClaim := { program := "ytnjegigoifkikaa", sum := "8f5965a3987515c669364b8c93aacc8236304a5dcf4f7308e340d44bcc296f72", func := "sodality/sodalitylaw08.RankOrder", spec := "rankOrder", apart := false }
def RankOrderSaid : Prop := rankOrderRow.holds Try.pinned (OpenSpec.ofChange rankOrderSpec)

/-- ITS FALSE NEIGHBOUR: 'it returns false'. Refute it at one input. -/
def rankOrderWrong : ChangeSpec := { name := "rankOrder", fn := fun _ => fun
  | [d1, d2, d3] => { results := [.lit (.bool false)], args := [d1, d2, d3] }
  | _ => none }
def RankOrderWrongFalsely : Prop := rankOrderRow.holds Try.pinned (OpenSpec.ofChange rankOrderWrong)

/-- 'sodalitylaw08.RankRefutes': WHATEVER THE INPUT: true; the input reads as it did. -/
def rankRefutesSpec : ChangeSpec := { name := "rankRefutes", fn := fun _ => fun
  | [d1, d2] => { results := [.lit (.bool true)], args := [d1, d2] }
  | _ => none }
def rankRefutesRow : OpenClaim := { program := "ytnjegigoifkikaa", sum := "8f5965a3987515c669364b8c93aacc8236304a5dcf4f7308e340d44bcc296f72", func := "sodality/sodalitylaw08.RankRefutes", spec := "rankRefutes", apart := false }
def RankRefutesSaid : Prop := rankRefutesRow.holds Try.pinned (OpenSpec.ofChange rankRefutesSpec)

/-- ITS FALSE NEIGHBOUR: 'it returns false'. Refute it at one input. -/
def rankRefutesWrong : ChangeSpec := { name := "rankRefutes", fn := fun _ => fun
  | [d1, d2] => { results := [.lit (.bool false)], args := [d1, d2] }
  | _ => none }
def RankRefutesWrongFalsely : Prop := rankRefutesRow.holds Try.pinned (OpenSpec.ofChange rankRefutesWrong)

/-- 'sodalitylaw08.RankAlive': WHATEVER THE INPUT: true; the input reads as it did. -/
def rankAliveSpec : ChangeSpec := { name := "rankAlive", fn := fun _ => fun
  | [d1, d2] => { results := [.lit (.bool true)], args := [d1, d2] }
  | _ => none }
def rankAliveRow : OpenClaim := { program := "ytnjegigoifkikaa", sum := "8f5965a3987515c669364b8c93aacc8236304a5dcf4f7308e340d44bcc296f72", func := "sodality/sodalitylaw08.RankAlive", spec := "rankAlive", apart := false }
def RankAliveSaid : Prop := rankAliveRow.holds Try.pinned (OpenSpec.ofChange rankAliveSpec)

/-- ITS FALSE NEIGHBOUR: 'it returns false'. Refute it at one input. -/
def rankAliveWrong : ChangeSpec := { name := "rankAlive", fn := fun _ => fun
  | [d1, d2] => { results := [.lit (.bool false)], args := [d1, d2] }
  | _ => none }
def RankAliveWrongFalsely : Prop := rankAliveRow.holds Try.pinned (OpenSpec.ofChange rankAliveWrong)

/-- 'sodalitylaw08.RankAboves': WHATEVER THE INPUT: true; the input reads as it did. -/
def rankAbovesSpec : ChangeSpec := { name := "rankAboves", fn := fun _ => fun
  | [d1, d2] => { results := [.lit (.bool true)], args := [d1, d2] }
  | _ => none }
def rankAbovesRow : OpenClaim := { program := "ytnjegigoifkikaa", sum := "8f5965a3987515c669364b8c93aacc8236304a5dcf4f7308e340d44bcc296f72", func := "sodality/sodalitylaw08.RankAboves", spec := "rankAboves", apart := false }
def RankAbovesSaid : Prop := rankAbovesRow.holds Try.pinned (OpenSpec.ofChange rankAbovesSpec)

/-- ITS FALSE NEIGHBOUR: 'it returns false'. Refute it at one input. -/
def rankAbovesWrong : ChangeSpec := { name := "rankAboves", fn := fun _ => fun
  | [d1, d2] => { results := [.lit (.bool false)], args := [d1, d2] }
  | _ => none }
def RankAbovesWrongFalsely : Prop := rankAbovesRow.holds Try.pinned (OpenSpec.ofChange rankAbovesWrong)

/-- 'sodalitylaw08.RankLattice': WHATEVER THE INPUT: true; the input reads as it did. -/
def rankLatticeSpec : ChangeSpec := { name := "rankLattice", fn := fun _ => fun
  | [d1, d2, d3] => { results := [.lit (.bool true)], args := [d1, d2, d3] }
  | _ => none }
def rankLatticeRow : OpenClaim := { program := "ytnjegigoifkikaa", sum := "8f5965a3987515c669364b8c93aacc8236304a5dcf4f7308e340d44bcc296f72", func := "sodality/sodalitylaw08.RankLattice", spec := "rankLattice", unfollowed := true, recurses := true, apart := false }
def RankLatticeSaid : Prop := rankLatticeRow.holds Try.pinned (OpenSpec.ofChange rankLatticeSpec)

/-- ITS FALSE NEIGHBOUR: 'it returns false'. Refute it at one input. -/
def rankLatticeWrong : ChangeSpec := { name := "rankLattice", fn := fun _ => fun
  | [d1, d2, d3] => { results := [.lit (.bool false)], args := [d1, d2, d3] }
  | _ => none }
def RankLatticeWrongFalsely : Prop := rankLatticeRow.holds Try.pinned (OpenSpec.ofChange rankLatticeWrong)

/-- 'sodalitylaw08.RankJoins': WHATEVER THE INPUT: true; the input reads as it did. -/
def rankJoinsSpec : ChangeSpec := { name := "rankJoins", fn := fun _ => fun
  | [d1, d2, d3] => { results := [.lit (.bool true)], args := [d1, d2, d3] }
  | _ => none }
def rankJoinsRow : OpenClaim := { program := "ytnjegigoifkikaa", sum := "8f5965a3987515c669364b8c93aacc8236304a5dcf4f7308e340d44bcc296f72", func := "sodality/sodalitylaw08.RankJoins", spec := "rankJoins", unfollowed := true, recurses := true, apart := false }
def RankJoinsSaid : Prop := rankJoinsRow.holds Try.pinned (OpenSpec.ofChange rankJoinsSpec)

/-- ITS FALSE NEIGHBOUR: 'it returns false'. Refute it at one input. -/
def rankJoinsWrong : ChangeSpec := { name := "rankJoins", fn := fun _ => fun
  | [d1, d2, d3] => { results := [.lit (.bool false)], args := [d1, d2, d3] }
  | _ => none }
def RankJoinsWrongFalsely : Prop := rankJoinsRow.holds Try.pinned (OpenSpec.ofChange rankJoinsWrong)

/-- 'sodalitylaw08.RankRises': WHATEVER THE INPUT: true; the input reads as it did. -/
def rankRisesSpec : ChangeSpec := { name := "rankRises", fn := fun _ => fun
  | [d1, d2] => { results := [.lit (.bool true)], args := [d1, d2] }
  | _ => none }
def rankRisesRow : OpenClaim := { program := "ytnjegigoifkikaa", sum := "8f5965a3987515c669364b8c93aacc8236304a5dcf4f7308e340d44bcc296f72", func := "sodality/sodalitylaw08.RankRises", spec := "rankRises", unfollowed := true, recurses := true, apart := false }
def RankRisesSaid : Prop := rankRisesRow.holds Try.pinned (OpenSpec.ofChange rankRisesSpec)

/-- ITS FALSE NEIGHBOUR: 'it returns false'. Refute it at one input. -/
def rankRisesWrong : ChangeSpec := { name := "rankRises", fn := fun _ => fun
  | [d1, d2] => { results := [.lit (.bool false)], args := [d1, d2] }
  | _ => none }
def RankRisesWrongFalsely : Prop := rankRisesRow.holds Try.pinned (OpenSpec.ofChange rankRisesWrong)

/- THE SECOND FORM. 'bulk': how many values and letters a reading holds, each counted each time it is reached (what is shared counts as often as it is met; a slice's spare places count too). A statement '..UptoSaid' is the law's where the arguments, and the package variables that the reading takes, are together of bulk at most 1048576: NARROWER than '..Said'. Prove '..Said' where nothing that the law and all that it calls make is longer than what came in: it says more and counts as full. Else prove '..UptoSaid'. A law counts once. -/
mutual
def uptoBulk {H : Type} : DataW H → Nat
  | .lit (.string bytes) => bytes.length + 1
  | .lit _ => 1
  | .nil => 1
  | .ptr d => uptoBulk d + 1
  | .slice elems spare => uptoBulkAll elems + uptoBulkAll spare + 1
  | .agg parts => uptoBulkAll parts + 1
  | .iface _ d => uptoBulk d + 1
  | .map entries => uptoBulkEntries entries + 1
  | .held _ => 1
def uptoBulkAll {H : Type} : List (DataW H) → Nat
  | [] => 0
  | d :: r => uptoBulk d + uptoBulkAll r
def uptoBulkEntries {H : Type} : List (Lit × DataW H) → Nat
  | [] => 0
  | x :: r => uptoBulkEntry x + uptoBulkEntries r
def uptoBulkEntry {H : Type} : Lit × DataW H → Nat
  | (.string bytes, d) => bytes.length + uptoBulk d + 1
  | (_, d) => uptoBulk d + 1
 end
def uptoSmall : (H : Type) → List (DataW H) → Bool := fun _ ds => decide (uptoBulkAll ds ≤ 1048576)
def OpenSpec.upto (s : _root_.Go.ChangeSpec) : _root_.Go.OpenSpec := { _root_.Go.OpenSpec.ofChange s with cond := some uptoSmall }

/-- 'sodalitylaw08.RankOrder', WHERE WHAT IT READS IS OF BULK AT MOST 1048576: true; the input reads as it did. -/
def rankOrderUptoRow : OpenClaim := { program := "ytnjegigoifkikaa", sum := "8f5965a3987515c669364b8c93aacc8236304a5dcf4f7308e340d44bcc296f72", func := "sodality/sodalitylaw08.RankOrder", spec := "rankOrder", apart := false, narrowed := true }
def RankOrderUptoSaid : Prop := rankOrderUptoRow.holds Try.pinned (OpenSpec.upto rankOrderSpec)

/-- 'sodalitylaw08.RankRefutes', WHERE WHAT IT READS IS OF BULK AT MOST 1048576: true; the input reads as it did. -/
def rankRefutesUptoRow : OpenClaim := { program := "ytnjegigoifkikaa", sum := "8f5965a3987515c669364b8c93aacc8236304a5dcf4f7308e340d44bcc296f72", func := "sodality/sodalitylaw08.RankRefutes", spec := "rankRefutes", apart := false, narrowed := true }
def RankRefutesUptoSaid : Prop := rankRefutesUptoRow.holds Try.pinned (OpenSpec.upto rankRefutesSpec)

/-- 'sodalitylaw08.RankAlive', WHERE WHAT IT READS IS OF BULK AT MOST 1048576: true; the input reads as it did. -/
def rankAliveUptoRow : OpenClaim := { program := "ytnjegigoifkikaa", sum := "8f5965a3987515c669364b8c93aacc8236304a5dcf4f7308e340d44bcc296f72", func := "sodality/sodalitylaw08.RankAlive", spec := "rankAlive", apart := false, narrowed := true }
def RankAliveUptoSaid : Prop := rankAliveUptoRow.holds Try.pinned (OpenSpec.upto rankAliveSpec)

/-- 'sodalitylaw08.RankAboves', WHERE WHAT IT READS IS OF BULK AT MOST 1048576: true; the input reads as it did. -/
def rankAbovesUptoRow : OpenClaim := { program := "ytnjegigoifkikaa", sum := "8f5965a3987515c669364b8c93aacc8236304a5dcf4f7308e340d44bcc296f72", func := "sodality/sodalitylaw08.RankAboves", spec := "rankAboves", apart := false, narrowed := true }
def RankAbovesUptoSaid : Prop := rankAbovesUptoRow.holds Try.pinned (OpenSpec.upto rankAbovesSpec)

/-- 'sodalitylaw08.RankLattice', WHERE WHAT IT READS IS OF BULK AT MOST 1048576: true; the input reads as it did. -/
def rankLatticeUptoRow : OpenClaim := { program := "ytnjegigoifkikaa", sum := "8f5965a3987515c669364b8c93aacc8236304a5dcf4f7308e340d44bcc296f72", func := "sodality/sodalitylaw08.RankLattice", spec := "rankLattice", unfollowed := true, recurses := true, apart := false, narrowed := true }
def RankLatticeUptoSaid : Prop := rankLatticeUptoRow.holds Try.pinned (OpenSpec.upto rankLatticeSpec)

/-- 'sodalitylaw08.RankJoins', WHERE WHAT IT READS IS OF BULK AT MOST 1048576: true; the input reads as it did. -/
def rankJoinsUptoRow : OpenClaim := { program := "ytnjegigoifkikaa", sum := "8f5965a3987515c669364b8c93aacc8236304a5dcf4f7308e340d44bcc296f72", func := "sodality/sodalitylaw08.RankJoins", spec := "rankJoins", unfollowed := true, recurses := true, apart := false, narrowed := true }
def RankJoinsUptoSaid : Prop := rankJoinsUptoRow.holds Try.pinned (OpenSpec.upto rankJoinsSpec)

/-- 'sodalitylaw08.RankRises', WHERE WHAT IT READS IS OF BULK AT MOST 1048576: true; the input reads as it did. -/
def rankRisesUptoRow : OpenClaim := { program := "ytnjegigoifkikaa", sum := "8f5965a3987515c669364b8c93aacc8236304a5dcf4f7308e340d44bcc296f72", func := "sodality/sodalitylaw08.RankRises", spec := "rankRises", unfollowed := true, recurses := true, apart := false, narrowed := true }
def RankRisesUptoSaid : Prop := rankRisesUptoRow.holds Try.pinned (OpenSpec.upto rankRisesSpec)

end Rows
end Go.Proofs.Ytnjegigoifkikaa
