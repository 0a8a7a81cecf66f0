/-
  No cell of these rows narrows 'for every input' (looked for: loops, veiled, ifaces, maps, wideKeys, modest, calm, conditions, laid).
  DERIVED. THE GIVEN ROWS OF THIS SEAT. 5 by the template 'for every input the law returns true; each argument reads behind the call as it read before'; 0 by the template 'total and deterministic' (their statements: YtpajeienbdnkfaaTotals.lean).
  GIVEN WITH THE SEED: the statements are not yours to turn. If you find one false, say at which input.
  Laid BY PROGRAM, IN A SANDBOX (cutbox-rows.mjs): the forced cells as the released guide's own fill.sh prints them over the translation 5afdaab4dcfeb6ef… (all of the seat's roots in one cut). By AI agents, Wed Nov 11 2026. No macro, syntax, notation, axiom, sorry.
-/
import Derived.Test.YtpajeienbdnkfaaChecked
import GoSem.Claim
import GoSem.ClaimJoined
import GoSem.ClaimMapViews
import Derived.JoinedTies
import Derived.KernelRfl
namespace Go.Proofs.Ytpajeienbdnkfaa
/- THE CELL 'sum', in the pinned program and in every row, IS THE sha256 OF THE DUMP (.gsa) THAT YtpajeienbdnkfaaProg.lean LOADS. Nothing in Lean hashes anything: it is a label: what it is worth is what the hold of that sum in a sandbox is worth. -/
noncomputable def Try.pinned : Pinned := { name := "ytpajeienbdnkfaa", sum := "5afdaab4dcfeb6efac7a72b25a3a876424373a239012af00e769780faf7c2a9a", checked := Try.checked }
namespace Rows
def none {H : Type} : Left H := { results := [], args := [] }

/-- 'sodalitylaw02.SumPieces': WHATEVER THE INPUT: true; the input reads as it did. -/
def sumPiecesSpec : ChangeSpec := { name := "sumPieces", fn := fun _ => fun
  | [d1, d2] => { results := [.lit (.bool true)], args := [d1, d2] }
  | _ => none }
def sumPiecesRow : OpenClaim := { program := "ytpajeienbdnkfaa", sum := "5afdaab4dcfeb6efac7a72b25a3a876424373a239012af00e769780faf7c2a9a", func := "sodality/sodalitylaw02.SumPieces", spec := "sumPieces", unfollowed := true, recurses := true, apart := false }
def SumPiecesSaid : Prop := sumPiecesRow.holds Try.pinned (OpenSpec.ofChange sumPiecesSpec)

/-- ITS FALSE NEIGHBOUR: 'it returns false'. Refute it at one input. -/
def sumPiecesWrong : ChangeSpec := { name := "sumPieces", fn := fun _ => fun
  | [d1, d2] => { results := [.lit (.bool false)], args := [d1, d2] }
  | _ => none }
def SumPiecesWrongFalsely : Prop := sumPiecesRow.holds Try.pinned (OpenSpec.ofChange sumPiecesWrong)

/-- 'sodalitylaw02.SumFrom': WHATEVER THE INPUT: true; the input reads as it did. -/
def sumFromSpec : ChangeSpec := { name := "sumFrom", fn := fun _ => fun
  | [d1, d2] => { results := [.lit (.bool true)], args := [d1, d2] }
  | _ => none }
def sumFromRow : OpenClaim := { program := "ytpajeienbdnkfaa", sum := "5afdaab4dcfeb6efac7a72b25a3a876424373a239012af00e769780faf7c2a9a", func := "sodality/sodalitylaw02.SumFrom", spec := "sumFrom", unfollowed := true, recurses := true, apart := false }
def SumFromSaid : Prop := sumFromRow.holds Try.pinned (OpenSpec.ofChange sumFromSpec)

/-- ITS FALSE NEIGHBOUR: 'it returns false'. Refute it at one input. -/
def sumFromWrong : ChangeSpec := { name := "sumFrom", fn := fun _ => fun
  | [d1, d2] => { results := [.lit (.bool false)], args := [d1, d2] }
  | _ => none }
def SumFromWrongFalsely : Prop := sumFromRow.holds Try.pinned (OpenSpec.ofChange sumFromWrong)

/-- 'sodalitylaw02.SumLaid': WHATEVER THE INPUT: true; the input reads as it did. -/
def sumLaidSpec : ChangeSpec := { name := "sumLaid", fn := fun _ => fun
  | [d1, d2, d3] => { results := [.lit (.bool true)], args := [d1, d2, d3] }
  | _ => none }
def sumLaidRow : OpenClaim := { program := "ytpajeienbdnkfaa", sum := "5afdaab4dcfeb6efac7a72b25a3a876424373a239012af00e769780faf7c2a9a", func := "sodality/sodalitylaw02.SumLaid", spec := "sumLaid", unfollowed := true, recurses := true, apart := false }
def SumLaidSaid : Prop := sumLaidRow.holds Try.pinned (OpenSpec.ofChange sumLaidSpec)

/-- ITS FALSE NEIGHBOUR: 'it returns false'. Refute it at one input. -/
def sumLaidWrong : ChangeSpec := { name := "sumLaid", fn := fun _ => fun
  | [d1, d2, d3] => { results := [.lit (.bool false)], args := [d1, d2, d3] }
  | _ => none }
def SumLaidWrongFalsely : Prop := sumLaidRow.holds Try.pinned (OpenSpec.ofChange sumLaidWrong)

/-- 'sodalitylaw02.SumSealed': WHATEVER THE INPUT: true; the input reads as it did. -/
def sumSealedSpec : ChangeSpec := { name := "sumSealed", fn := fun _ => fun
  | [d] => { results := [.lit (.bool true)], args := [d] }
  | _ => none }
def sumSealedRow : OpenClaim := { program := "ytpajeienbdnkfaa", sum := "5afdaab4dcfeb6efac7a72b25a3a876424373a239012af00e769780faf7c2a9a", func := "sodality/sodalitylaw02.SumSealed", spec := "sumSealed", unfollowed := true, recurses := true, apart := false }
def SumSealedSaid : Prop := sumSealedRow.holds Try.pinned (OpenSpec.ofChange sumSealedSpec)

/-- ITS FALSE NEIGHBOUR: 'it returns false'. Refute it at one input. -/
def sumSealedWrong : ChangeSpec := { name := "sumSealed", fn := fun _ => fun
  | [d] => { results := [.lit (.bool false)], args := [d] }
  | _ => none }
def SumSealedWrongFalsely : Prop := sumSealedRow.holds Try.pinned (OpenSpec.ofChange sumSealedWrong)

/-- 'sodalitylaw02.SumBursts': WHATEVER THE INPUT: true; the input reads as it did. -/
def sumBurstsSpec : ChangeSpec := { name := "sumBursts", fn := fun _ => fun
  | [d1, d2] => { results := [.lit (.bool true)], args := [d1, d2] }
  | _ => none }
def sumBurstsRow : OpenClaim := { program := "ytpajeienbdnkfaa", sum := "5afdaab4dcfeb6efac7a72b25a3a876424373a239012af00e769780faf7c2a9a", func := "sodality/sodalitylaw02.SumBursts", spec := "sumBursts", unfollowed := true, recurses := true, apart := false }
def SumBurstsSaid : Prop := sumBurstsRow.holds Try.pinned (OpenSpec.ofChange sumBurstsSpec)

/-- ITS FALSE NEIGHBOUR: 'it returns false'. Refute it at one input. -/
def sumBurstsWrong : ChangeSpec := { name := "sumBursts", fn := fun _ => fun
  | [d1, d2] => { results := [.lit (.bool false)], args := [d1, d2] }
  | _ => none }
def SumBurstsWrongFalsely : Prop := sumBurstsRow.holds Try.pinned (OpenSpec.ofChange sumBurstsWrong)

/- THE SECOND FORM. 'bulk': how many values and letters a reading holds, each counted each time it is reached (what is shared counts as often as it is met; a slice's spare places count too). A statement '..UptoSaid' is the law's where the arguments, and the package variables that the reading takes, are together of bulk at most 1048576: NARROWER than '..Said'. Prove '..Said' where nothing that the law and all that it calls make is longer than what came in: it says more and counts as full. Else prove '..UptoSaid'. A law counts once. -/
mutual
def uptoBulk {H : Type} : DataW H → Nat
  | .lit (.string bytes) => bytes.length + 1
  | .lit _ => 1
  | .nil => 1
  | .ptr d => uptoBulk d + 1
  | .slice elems spare => uptoBulkAll elems + uptoBulkAll spare + 1
  | .agg parts => uptoBulkAll parts + 1
  | .iface _ d => uptoBulk d + 1
  | .map entries => uptoBulkEntries entries + 1
  | .held _ => 1
def uptoBulkAll {H : Type} : List (DataW H) → Nat
  | [] => 0
  | d :: r => uptoBulk d + uptoBulkAll r
def uptoBulkEntries {H : Type} : List (Lit × DataW H) → Nat
  | [] => 0
  | x :: r => uptoBulkEntry x + uptoBulkEntries r
def uptoBulkEntry {H : Type} : Lit × DataW H → Nat
  | (.string bytes, d) => bytes.length + uptoBulk d + 1
  | (_, d) => uptoBulk d + 1
 end
def uptoSmall : (H : Type) → List (DataW H) → Bool := fun _ ds => decide (uptoBulkAll ds ≤ 1048576)
def OpenSpec.upto (s : _root_.Go.ChangeSpec) : _root_.Go.OpenSpec := { _root_.Go.OpenSpec.ofChange s with cond := some uptoSmall }

/-- 'sodalitylaw02.SumPieces', WHERE WHAT IT READS IS OF BULK AT MOST 1048576: true; the input reads as it did. -/
def sumPiecesUptoRow : OpenClaim := { program := "ytpajeienbdnkfaa", sum := "5afdaab4dcfeb6efac7a72b25a3a876424373a239012af00e769780faf7c2a9a", func := "sodality/sodalitylaw02.SumPieces", spec := "sumPieces", unfollowed := true, recurses := true, apart := false, narrowed := true }
def SumPiecesUptoSaid : Prop := sumPiecesUptoRow.holds Try.pinned (OpenSpec.upto sumPiecesSpec)

/-- 'sodalitylaw02.SumFrom', WHERE WHAT IT READS IS OF BULK AT MOST 1048576: true; the input reads as it did. -/
def sumFromUptoRow : OpenClaim := { program := "ytpajeienbdnkfaa", sum := "5afdaab4dcfeb6efac7a72b25a3a876424373a239012af00e769780faf7c2a9a", func := "sodality/sodalitylaw02.SumFrom", spec := "sumFrom", unfollowed := true, recurses := true, apart := false, narrowed := true }
def SumFromUptoSaid : Prop := sumFromUptoRow.holds Try.pinned (OpenSpec.upto sumFromSpec)

/-- 'sodalitylaw02.SumLaid', WHERE WHAT IT READS IS OF BULK AT MOST 1048576: true; the input reads as it did. -/
def sumLaidUptoRow : OpenClaim := { program := "ytpajeienbdnkfaa", sum := "5afdaab4dcfeb6efac7a72b25a3a876424373a239012af00e769780faf7c2a9a", func := "sodality/sodalitylaw02.SumLaid", spec := "sumLaid", unfollowed := true, recurses := true, apart := false, narrowed := true }
def SumLaidUptoSaid : Prop := sumLaidUptoRow.holds Try.pinned (OpenSpec.upto sumLaidSpec)

/-- 'sodalitylaw02.SumSealed', WHERE WHAT IT READS IS OF BULK AT MOST 1048576: true; the input reads as it did. -/
def sumSealedUptoRow : OpenClaim := { program := "ytpajeienbdnkfaa", sum := "5afdaab4dcfeb6efac7a72b25a3a876424373a239012af00e769780faf7c2a9a", func := "sodality/sodalitylaw02.SumSealed", spec := "sumSealed", unfollowed := true, recurses := true, apart := false, narrowed := true }
def SumSealedUptoSaid : Prop := sumSealedUptoRow.holds Try.pinned (OpenSpec.upto sumSealedSpec)

/-- 'sodalitylaw02.SumBursts', WHERE WHAT IT READS IS OF BULK AT MOST 1048576: true; the input reads as it did. -/
def sumBurstsUptoRow : OpenClaim := { program := "ytpajeienbdnkfaa", sum := "5afdaab4dcfeb6efac7a72b25a3a876424373a239012af00e769780faf7c2a9a", func := "sodality/sodalitylaw02.SumBursts", spec := "sumBursts", unfollowed := true, recurses := true, apart := false, narrowed := true }
def SumBurstsUptoSaid : Prop := sumBurstsUptoRow.holds Try.pinned (OpenSpec.upto sumBurstsSpec)

end Rows
end Go.Proofs.Ytpajeienbdnkfaa
