/- What FlightOnce leans on, in plain words: what is in flight was sent; numbers given = numbers gone and in flight. -/
import Derived.Test.YtpnkcoahbadnjaaFh
set_option linter.unusedSimpArgs false
set_option linter.unusedVariables false
set_option maxRecDepth 100000
set_option maxHeartbeats 16000000
namespace Go.Proofs.Ytpnkcoahbadnjaa
open Go.RowKit
/-- A step of a law: what, a number, a packet (its body's place and bytes). -/
structure Stp where
  k : Int
  n : Int
  f : Int
  t : Int
  v : Value
  b : List UInt8
@[reducible] def sr (y : Stp) : List Value := [.int .i64 y.k, .int .i64 y.n, .int .i64 y.f, .int .i64 y.t, y.v]
def StB (w : World) (y : Stp) : Prop := RdRow w y.v 1 (y.b.map by1c)
/-- A packet that was sent, as an argument has it. -/
@[reducible] def pr (y : Stp) : List Value := [.int .i64 y.f, .int .i64 y.t, y.v]
def Said (sent : List Stp) (l : List Fl) : Prop := ∀ x ∈ l, ∃ y ∈ sent, y.f = x.f ∧ y.t = x.t ∧ y.b = x.b
theorem Said.mono {s s' : List Stp} {l : List Fl} (h : Said s l) (hs : ∀ y ∈ s, y ∈ s') : Said s' l := fun x hx => by
  obtain ⟨y, hy, e⟩ := h x hx
  exact ⟨y, hs y hy, e⟩
theorem Said.sub {s : List Stp} {l l' : List Fl} (h : Said s l) (hs : ∀ x ∈ l', x ∈ l) : Said s l' := fun x hx => h x (hs x hx)
theorem said_send {s : List Stp} {l : List Fl} {most given : Int} {y : Stp} {bv : Value} (h : Said s l) : Said (s ++ [y]) (sendL most given l y.f y.t bv y.b) := by
  classical
  unfold sendL
  split
  · exact h.mono fun z hz => List.mem_append_left _ hz
  · intro x hx
    rcases List.mem_append.1 hx with hx | hx
    · exact h.mono (fun z hz => List.mem_append_left _ hz) x hx
    · simp only [List.mem_singleton] at hx
      subst hx
      exact ⟨y, List.mem_append_right _ (List.mem_singleton.2 rfl), rfl, rfl, rfl⟩
theorem said_out {s : List Stp} {l : List Fl} (k : Int) (h : Said s l) : Said s (outL l k) := h.sub fun x hx => (List.eraseIdx_sublist ..).subset hx
theorem said_keep {s : List Stp} {l : List Fl} (to : Int) (h : Said s l) : Said s (keepL to l) := h.sub fun x hx => (List.mem_filter.1 hx).1
theorem said_outP {s : List Stp} {l : List Fl} {k : Int} (h : Said s l) (ho : (outX l k).isSome = true) : ∃ y ∈ s, y.f = (outP l k).f ∧ y.t = (outP l k).t ∧ y.b = (outP l k).b := by
  obtain ⟨x, hx⟩ := Option.isSome_iff_exists.1 ho
  have e : outP l k = x := by unfold outP; rw [hx]; rfl
  rw [e]
  exact h x (List.mem_of_getElem? hx)
theorem said_copy {s : List Stp} {l : List Fl} {most given k : Int} {bv : Value} (h : Said s l) : Said s (cpL most given l k bv) := by
  classical
  unfold cpL
  split
  · exact h
  · rename_i he
    obtain ⟨x, hx, _⟩ := out_some (k := k) he
    have e : outP l k = x := by unfold outP; rw [hx]; rfl
    rw [e]
    unfold sendL
    split
    · exact h
    · intro z hz
      rcases List.mem_append.1 hz with hz | hz
      · exact h z hz
      · simp only [List.mem_singleton] at hz
        subst hz
        exact h x (List.mem_of_getElem? hx)
theorem out_len {l : List Fl} {k : Int} : ((outL l k).length : Int) = l.length - (if (outX l k).isSome = true then 1 else 0) := by
  unfold outL outX
  by_cases h : pk l k < l.length
  · rw [List.getElem?_eq_getElem h, if_pos (show (some l[pk l k]).isSome = true from rfl), List.length_eraseIdx, if_pos h]
    omega
  · rw [List.getElem?_eq_none (by omega), if_neg (by simp), List.eraseIdx_of_length_le (by omega)]
    omega
theorem send_bal {l : List Fl} {most given f t : Int} {bv : Value} {bs : List UInt8} : sendG most given l bs - (sendL most given l f t bv bs).length = given - l.length := by
  classical
  unfold sendG sendL
  split
  · rfl
  · rw [List.length_append]
    show given + 1 - ((l.length + 1 : Nat) : Int) = _
    omega
theorem copy_bal {l : List Fl} {most given k : Int} {bv : Value} : cpG most given l k - (cpL most given l k bv).length = given - l.length := by
  classical
  unfold cpG cpL
  split
  · rfl
  · exact send_bal
end Go.Proofs.Ytpnkcoahbadnjaa
