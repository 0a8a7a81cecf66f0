/- Deliver, Drop and Copy, whatever is in flight. -/
import Derived.Test.YtpnkcoahbadnjaaFg
set_option linter.unusedSimpArgs false
set_option linter.unusedVariables false
set_option maxRecDepth 100000
set_option maxHeartbeats 4000000
namespace Go.Proofs.Ytpnkcoahbadnjaa
open Go.RowKit
section
variable {b : Nat} {v : Value} {most given : Int} {B D : List (Nat × Obj)} {l : List Fl} {w : World}
/-- What came out; a packet without anything where there was none. -/
def outP (l : List Fl) (k : Int) : Fl := (outX l k).getD zf
theorem out_empty {l : List Fl} (h : l = []) (k : Int) : outX l k = none ∧ outP l k = zf ∧ outL l k = l := by
  subst h
  exact ⟨rfl, rfl, rfl⟩
theorem deliver_any (k : Int) (hm : ¬ most = 0) (hl : l.length ≤ 100000) (hab : AllBd D l) (hsl : Sl 32 4 v (l.map fr) B) (hown : Own w (FO b v most given B D)) :
    Ret Try.prog 10 #[.pointer (some ⟨b, 0, none⟩), .int .i64 k] w fun u w' => u = .tuple #[.agg #[.int .i64 (outP l k).f, .int .i64 (outP l k).t, (outP l k).v], .bool (outX l k).isSome] ∧ ∃ v' B', Sl 32 4 v' ((outL l k).map fr) B' ∧ St w ((FO b v most given B D).map Prod.fst) (FO b v' most given B' D) w' := by
  by_cases he : l = []
  · refine (deliver_nil k hm he hl hsl hown).mono ?_
    rintro u w' ⟨rfl, h⟩
    obtain ⟨e1, e2, e3⟩ := out_empty he k
    rw [e1, e2, e3]
    exact ⟨rfl, v, B, hsl, h⟩
  · obtain ⟨x, hx, hp⟩ := out_some (k := k) he
    refine (deliver_one k x hm he hx hp hl hab hsl hown).mono ?_
    rintro u w' ⟨rfl, h⟩
    have e : outP l k = x := by unfold outP; rw [hx]; rfl
    rw [hx, e]
    exact ⟨rfl, h⟩
theorem drop_any (k : Int) (hm : ¬ most = 0) (hl : l.length ≤ 100000) (hab : AllBd D l) (hsl : Sl 32 4 v (l.map fr) B) (hown : Own w (FO b v most given B D)) :
    Ret Try.prog 14 #[.pointer (some ⟨b, 0, none⟩), .int .i64 k] w fun u w' => u = .tuple #[.int .i64 (outP l k).id, .bool (outX l k).isSome] ∧ ∃ v' B', Sl 32 4 v' ((outL l k).map fr) B' ∧ St w ((FO b v most given B D).map Prod.fst) (FO b v' most given B' D) w' := by
  by_cases he : l = []
  · refine (drop_nil k hm he hl hsl hown).mono ?_
    rintro u w' ⟨rfl, h⟩
    obtain ⟨e1, e2, e3⟩ := out_empty he k
    rw [e1, e2, e3]
    exact ⟨rfl, v, B, hsl, h⟩
  · obtain ⟨x, hx, hp⟩ := out_some (k := k) he
    refine (drop_one k x hm he hx hp hl hab hsl hown).mono ?_
    rintro u w' ⟨rfl, h⟩
    have e : outP l k = x := by unfold outP; rw [hx]; rfl
    rw [hx, e]
    exact ⟨rfl, h⟩
open Classical in
noncomputable def cpL (most given : Int) (l : List Fl) (k : Int) (bv : Value) : List Fl := if l = [] then l else sendL most given l (outP l k).f (outP l k).t bv (outP l k).b
open Classical in
noncomputable def cpG (most given : Int) (l : List Fl) (k : Int) : Int := if l = [] then given else sendG most given l (outP l k).b
open Classical in
noncomputable def cpI (most given : Int) (l : List Fl) (k : Int) : Int := if l = [] then 0 else sendI most given l (outP l k).b
open Classical in
noncomputable def cpB (most : Int) (l : List Fl) (k : Int) : Bool := if l = [] then false else !decide (full most l (outP l k).b)
theorem copy_any (k : Int) (hm : ¬ most = 0) (hg : 0 ≤ given ∧ given ≤ 1000000) (hl : l.length ≤ 100000) (hab : AllBd D l) (hsl : Sl 32 4 v (l.map fr) B) (hown : Own w (FO b v most given B D)) :
    Ret Try.prog 15 #[.pointer (some ⟨b, 0, none⟩), .int .i64 k] w fun u w' => u = .tuple #[.int .i64 (cpI most given l k), .bool (cpB most l k)] ∧ ∃ bv v' B' D', Sl 32 4 v' ((cpL most given l k bv).map fr) B' ∧ (∀ c ∈ D, c ∈ D') ∧ AllBd D' (cpL most given l k bv) ∧ St w ((FO b v most given B D).map Prod.fst) (FO b v' most (cpG most given l k) B' D') w' := by
  by_cases he : l = []
  · refine (copy_nil (given := given) k hm he hl hsl hown).mono ?_
    rintro u w' ⟨rfl, h⟩
    rw [show cpI most given l k = 0 from if_pos he, show cpB most l k = false from if_pos he, show cpG most given l k = given from if_pos he]
    have eL : ∀ bv, cpL most given l k bv = l := fun bv => if_pos he
    simp only [eL]
    exact ⟨trivial, .slice none 0 0, v, B, D, hsl, fun c hc => hc, hab, h⟩
  · obtain ⟨x, hx, hp⟩ := out_some (k := k) he
    refine (copy_one k x hm hg he hx hp hl hab hsl hown).mono ?_
    rintro u w' ⟨rfl, h⟩
    have e : outP l k = x := by unfold outP; rw [hx]; rfl
    rw [show cpI most given l k = sendI most given l x.b from by unfold cpI; rw [if_neg he, e], show cpB most l k = _ from by unfold cpB; rw [if_neg he, e], show cpG most given l k = sendG most given l x.b from by unfold cpG; rw [if_neg he, e]]
    have eL : ∀ bv, cpL most given l k bv = sendL most given l x.f x.t bv x.b := fun bv => by unfold cpL; rw [if_neg he, e]
    simp only [eL]
    exact ⟨trivial, h⟩
end
end Go.Proofs.Ytpnkcoahbadnjaa
