/-
  No cell of these rows narrows 'for every input' (looked for: loops, veiled, ifaces, maps, wideKeys, modest, calm, conditions, laid).
  DERIVED. THE GIVEN ROWS OF THIS SEAT. 4 by the template 'for every input the law returns true; each argument reads behind the call as it read before'; 0 by the template 'total and deterministic' (their statements: YtpnkcoahbadnjaaTotals.lean).
  GIVEN WITH THE SEED: the statements are not yours to turn. If you find one false, say at which input.
  Laid BY PROGRAM, IN A SANDBOX (cutbox-rows.mjs): the forced cells as the released guide's own fill.sh prints them over the translation b3b61454043f5d9b… (all of the seat's roots in one cut). By AI agents, Wed Nov 11 2026. No macro, syntax, notation, axiom, sorry.
-/
import Derived.Test.YtpnkcoahbadnjaaChecked
import GoSem.Claim
import GoSem.ClaimJoined
import GoSem.ClaimMapViews
import Derived.JoinedTies
import Derived.KernelRfl
namespace Go.Proofs.Ytpnkcoahbadnjaa
/- THE CELL 'sum', in the pinned program and in every row, IS THE sha256 OF THE DUMP (.gsa) THAT YtpnkcoahbadnjaaProg.lean LOADS. Nothing in Lean hashes anything: it is a label: what it is worth is what the hold of that sum in a sandbox is worth. -/
noncomputable def Try.pinned : Pinned := { name := "ytpnkcoahbadnjaa", sum := "b3b61454043f5d9b50cbfb9f973f9eb86a90e7597170ad3beb4b9a551943b1af", checked := Try.checked }
namespace Rows
def none {H : Type} : Left H := { results := [], args := [] }

/-- 'sodalitylaw07.FlightKept': WHATEVER THE INPUT: true; the input reads as it did. -/
def flightKeptSpec : ChangeSpec := { name := "flightKept", fn := fun _ => fun
  | [d1, d2] => { results := [.lit (.bool true)], args := [d1, d2] }
  | _ => none }
def flightKeptRow : OpenClaim := { program := "ytpnkcoahbadnjaa", sum := "b3b61454043f5d9b50cbfb9f973f9eb86a90e7597170ad3beb4b9a551943b1af", func := "sodality/sodalitylaw07.FlightKept", spec := "flightKept", inPlace := ["sync/atomic.AddInt64"], apart := false }
def FlightKeptSaid : Prop := flightKeptRow.holds Try.pinned (OpenSpec.ofChange flightKeptSpec)

/-- ITS FALSE NEIGHBOUR: 'it returns false'. Refute it at one input. -/
def flightKeptWrong : ChangeSpec := { name := "flightKept", fn := fun _ => fun
  | [d1, d2] => { results := [.lit (.bool false)], args := [d1, d2] }
  | _ => none }
def FlightKeptWrongFalsely : Prop := flightKeptRow.holds Try.pinned (OpenSpec.ofChange flightKeptWrong)

/-- 'sodalitylaw07.FlightOnce': WHATEVER THE INPUT: true; the input reads as it did. -/
def flightOnceSpec : ChangeSpec := { name := "flightOnce", fn := fun _ => fun
  | [d] => { results := [.lit (.bool true)], args := [d] }
  | _ => none }
def flightOnceRow : OpenClaim := { program := "ytpnkcoahbadnjaa", sum := "b3b61454043f5d9b50cbfb9f973f9eb86a90e7597170ad3beb4b9a551943b1af", func := "sodality/sodalitylaw07.FlightOnce", spec := "flightOnce", inPlace := ["sync/atomic.AddInt64", "sync/atomic.LoadInt64"], apart := false }
def FlightOnceSaid : Prop := flightOnceRow.holds Try.pinned (OpenSpec.ofChange flightOnceSpec)

/-- ITS FALSE NEIGHBOUR: 'it returns false'. Refute it at one input. -/
def flightOnceWrong : ChangeSpec := { name := "flightOnce", fn := fun _ => fun
  | [d] => { results := [.lit (.bool false)], args := [d] }
  | _ => none }
def FlightOnceWrongFalsely : Prop := flightOnceRow.holds Try.pinned (OpenSpec.ofChange flightOnceWrong)

/-- 'sodalitylaw07.FlightPlays': WHATEVER THE INPUT: true; the input reads as it did. -/
def flightPlaysSpec : ChangeSpec := { name := "flightPlays", fn := fun _ => fun
  | [d1, d2] => { results := [.lit (.bool true)], args := [d1, d2] }
  | _ => none }
def flightPlaysRow : OpenClaim := { program := "ytpnkcoahbadnjaa", sum := "b3b61454043f5d9b50cbfb9f973f9eb86a90e7597170ad3beb4b9a551943b1af", func := "sodality/sodalitylaw07.FlightPlays", spec := "flightPlays", inPlace := ["sync/atomic.AddInt64", "sync/atomic.LoadInt64"], apart := false }
def FlightPlaysSaid : Prop := flightPlaysRow.holds Try.pinned (OpenSpec.ofChange flightPlaysSpec)

/-- ITS FALSE NEIGHBOUR: 'it returns false'. Refute it at one input. -/
def flightPlaysWrong : ChangeSpec := { name := "flightPlays", fn := fun _ => fun
  | [d1, d2] => { results := [.lit (.bool false)], args := [d1, d2] }
  | _ => none }
def FlightPlaysWrongFalsely : Prop := flightPlaysRow.holds Try.pinned (OpenSpec.ofChange flightPlaysWrong)

/-- 'sodalitylaw07.FlightNone': WHATEVER THE INPUT: true; the input reads as it did. -/
def flightNoneSpec : ChangeSpec := { name := "flightNone", fn := fun _ => fun
  | [d] => { results := [.lit (.bool true)], args := [d] }
  | _ => none }
def flightNoneRow : OpenClaim := { program := "ytpnkcoahbadnjaa", sum := "b3b61454043f5d9b50cbfb9f973f9eb86a90e7597170ad3beb4b9a551943b1af", func := "sodality/sodalitylaw07.FlightNone", spec := "flightNone", inPlace := ["sync/atomic.AddInt64", "sync/atomic.LoadInt64"], apart := false }
def FlightNoneSaid : Prop := flightNoneRow.holds Try.pinned (OpenSpec.ofChange flightNoneSpec)

/-- ITS FALSE NEIGHBOUR: 'it returns false'. Refute it at one input. -/
def flightNoneWrong : ChangeSpec := { name := "flightNone", fn := fun _ => fun
  | [d] => { results := [.lit (.bool false)], args := [d] }
  | _ => none }
def FlightNoneWrongFalsely : Prop := flightNoneRow.holds Try.pinned (OpenSpec.ofChange flightNoneWrong)

/- THE SECOND FORM. 'bulk': how many values and letters a reading holds, each counted each time it is reached (what is shared counts as often as it is met; a slice's spare places count too). A statement '..UptoSaid' is the law's where the arguments, and the package variables that the reading takes, are together of bulk at most 1048576: NARROWER than '..Said'. Prove '..Said' where nothing that the law and all that it calls make is longer than what came in: it says more and counts as full. Else prove '..UptoSaid'. A law counts once. -/
mutual
def uptoBulk {H : Type} : DataW H → Nat
  | .lit (.string bytes) => bytes.length + 1
  | .lit _ => 1
  | .nil => 1
  | .ptr d => uptoBulk d + 1
  | .slice elems spare => uptoBulkAll elems + uptoBulkAll spare + 1
  | .agg parts => uptoBulkAll parts + 1
  | .iface _ d => uptoBulk d + 1
  | .map entries => uptoBulkEntries entries + 1
  | .held _ => 1
def uptoBulkAll {H : Type} : List (DataW H) → Nat
  | [] => 0
  | d :: r => uptoBulk d + uptoBulkAll r
def uptoBulkEntries {H : Type} : List (Lit × DataW H) → Nat
  | [] => 0
  | x :: r => uptoBulkEntry x + uptoBulkEntries r
def uptoBulkEntry {H : Type} : Lit × DataW H → Nat
  | (.string bytes, d) => bytes.length + uptoBulk d + 1
  | (_, d) => uptoBulk d + 1
 end
def uptoSmall : (H : Type) → List (DataW H) → Bool := fun _ ds => decide (uptoBulkAll ds ≤ 1048576)
def OpenSpec.upto (s : _root_.Go.ChangeSpec) : _root_.Go.OpenSpec := { _root_.Go.OpenSpec.ofChange s with cond := some uptoSmall }

/-- 'sodalitylaw07.FlightKept', WHERE WHAT IT READS IS OF BULK AT MOST 1048576: true; the input reads as it did. -/
def flightKeptUptoRow : OpenClaim := { program := "ytpnkcoahbadnjaa", sum := "b3b61454043f5d9b50cbfb9f973f9eb86a90e7597170ad3beb4b9a551943b1af", func := "sodality/sodalitylaw07.FlightKept", spec := "flightKept", inPlace := ["sync/atomic.AddInt64"], apart := false, narrowed := true }
def FlightKeptUptoSaid : Prop := flightKeptUptoRow.holds Try.pinned (OpenSpec.upto flightKeptSpec)

/-- 'sodalitylaw07.FlightOnce', WHERE WHAT IT READS IS OF BULK AT MOST 1048576: true; the input reads as it did. -/
def flightOnceUptoRow : OpenClaim := { program := "ytpnkcoahbadnjaa", sum := "b3b61454043f5d9b50cbfb9f973f9eb86a90e7597170ad3beb4b9a551943b1af", func := "sodality/sodalitylaw07.FlightOnce", spec := "flightOnce", inPlace := ["sync/atomic.AddInt64", "sync/atomic.LoadInt64"], apart := false, narrowed := true }
def FlightOnceUptoSaid : Prop := flightOnceUptoRow.holds Try.pinned (OpenSpec.upto flightOnceSpec)

/-- 'sodalitylaw07.FlightPlays', WHERE WHAT IT READS IS OF BULK AT MOST 1048576: true; the input reads as it did. -/
def flightPlaysUptoRow : OpenClaim := { program := "ytpnkcoahbadnjaa", sum := "b3b61454043f5d9b50cbfb9f973f9eb86a90e7597170ad3beb4b9a551943b1af", func := "sodality/sodalitylaw07.FlightPlays", spec := "flightPlays", inPlace := ["sync/atomic.AddInt64", "sync/atomic.LoadInt64"], apart := false, narrowed := true }
def FlightPlaysUptoSaid : Prop := flightPlaysUptoRow.holds Try.pinned (OpenSpec.upto flightPlaysSpec)

/-- 'sodalitylaw07.FlightNone', WHERE WHAT IT READS IS OF BULK AT MOST 1048576: true; the input reads as it did. -/
def flightNoneUptoRow : OpenClaim := { program := "ytpnkcoahbadnjaa", sum := "b3b61454043f5d9b50cbfb9f973f9eb86a90e7597170ad3beb4b9a551943b1af", func := "sodality/sodalitylaw07.FlightNone", spec := "flightNone", inPlace := ["sync/atomic.AddInt64", "sync/atomic.LoadInt64"], apart := false, narrowed := true }
def FlightNoneUptoSaid : Prop := flightNoneUptoRow.holds Try.pinned (OpenSpec.upto flightNoneSpec)

end Rows
end Go.Proofs.Ytpnkcoahbadnjaa
