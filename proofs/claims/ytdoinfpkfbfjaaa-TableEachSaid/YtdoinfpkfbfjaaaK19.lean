/- What one's own memory says to the law of a range over a function, and what the law says to it. -/
import Derived.Test.YtdoinfpkfbfjaaaK18
set_option linter.unusedVariables false
namespace Go.Proofs.Ytdoinfpkfbfjaaa
open Go.RowKit
/-- Whatever is listed is cells, or lay ahead of B. -/
def Low (B : Nat) (L : List (Nat × Obj)) : Prop := ∀ c ∈ L, c.2.isCells = true ∨ c.1 < B
section
variable {W W' w0 : World} {X : List Nat} {L L' R : List (Nat × Obj)} {B : Nat}
/-- A round that turned only what it owned keeps whatever is no cells. -/
theorem St.keepsFrom (hown : Own W L) (hc : Low B L) (h : St W (L.map Prod.fst) L' W') : KeepsFrom B W W' := ⟨h.size, fun k o hB hk ho => by
  have hlt := (Array.getElem?_eq_some_iff.1 hk).1
  by_cases hm : k ∈ L.map Prod.fst
  · obtain ⟨c, hcm, rfl⟩ := List.mem_map.1 hm
    have h1 := hown.1 c hcm
    rw [hk] at h1
    have h2 : o = c.2 := Option.some.inj h1
    rcases hc c hcm with h3 | h3
    · rw [h2, h3] at ho; cases ho
    · omega
  · rw [h.old k hlt hm]; exact hk⟩
/-- What a loop's own steps turn is no cells, and new: one's own memory abides it. -/
theorem St.grown {row : Option Nat} (hS : St w0 X L W) (hc : Low B L) (hB : w0.heap.size ≤ B) (hg : W.grownBy W' row) (hr : ∀ r, row = some r → B ≤ r ∧ ∃ o : Obj, W.heap[r]? = some o ∧ o.isCells = false) : St w0 X L W' := by
  refine ⟨hg.os.trans hS.os, hg.tape.trans hS.tape, hg.output.trans hS.output, Nat.le_trans hS.size hg.size, fun k hk hx => ?_, fun c hcm => ?_, hS.nd, hS.wr⟩
  · rw [hg.block k (Nat.lt_of_lt_of_le hk hS.size) (fun e => by have := (hr k e.symm).1; omega)]
    exact hS.old k hk hx
  · have h1 := hS.own c hcm
    rw [hg.block c.1 (Array.getElem?_eq_some_iff.1 h1).1 (fun e => ?_)]
    · exact h1
    · obtain ⟨h2, o, h3, h4⟩ := hr c.1 e.symm
      rw [h1] at h3
      have h5 : c.2 = o := Option.some.inj h3
      rcases hc c hcm with h6 | h6
      · rw [h5, h4] at h6; cases h6
      · omega
/-- What the iterator reads stays as it lies. -/
def Stays (R : List (Nat × Obj)) (W W' : World) : Prop := ∀ c ∈ R, W.heap[c.1]? = some c.2 → W'.heap[c.1]? = some c.2
theorem stays_trans {A B C : World} (h : Stays R A B) (k : Stays R B C) : Stays R A C := fun c hc h1 => k c hc (h c hc h1)
theorem stays_putObj {B : Nat} (hR : ∀ c ∈ R, c.1 < B) (W : World) (l : Nat) (o o' : Obj) (hl : B ≤ l) (_ : W.heap[l]? = some o) (_ : o.isCells = false) (_ : o.isWalk = false) : Stays R W (W.putObj l o') := fun c hc h1 => by
  rw [World.putObj_heap_other (by have := hR c hc; omega)]
  exact h1
theorem St.stays (h : St w0 X L W') (hR : ∀ c ∈ R, c ∈ L) : Stays R W W' := fun c hc _ => h.own c (hR c hc)
/-- An iterator's own steps: nothing that lay has turned; so the caller's invariant stands (AbidesFrom). -/
theorem St.grownBy0 (hown : Own W R) (h : St W (R.map Prod.fst) L W') (hR : ∀ c ∈ R, c ∈ L) : W.grownBy W' none := by
  refine ⟨h.os, h.tape, h.output, h.size, fun k hk _ => ?_⟩
  by_cases hm : k ∈ R.map Prod.fst
  · obtain ⟨c, hcm, rfl⟩ := List.mem_map.1 hm
    rw [h.own c (hR c hcm), hown.1 c hcm]
  · exact h.old k hk hm
theorem St.abides {β : Type} {B0 : Nat} {J : β → World → Prop} {s : β} (hJ : AbidesFrom B0 J) (hj : J s W) (hown : Own W R) (h : St W (R.map Prod.fst) L W') (hR : ∀ c ∈ R, c ∈ L) : J s W' := hJ s W W' none hj (h.grownBy0 hown hR) (fun r e => by cases e)
/-- What an iterator reads lies there still behind a round. -/
theorem Own.stays (hown : Own W R) (h : Stays R W W') : Own W' R := ⟨fun c hc => h c hc (hown.1 c hc), hown.2⟩
theorem Own.below {B : Nat} (hown : Own W R) (hB : Below B W W') (hR : ∀ c ∈ R, c.1 < B) : Own W' R := ⟨fun c hc => by
  rw [hB.block c.1 (hR c hc)]
  exact hown.1 c hc, hown.2⟩
end
end Go.Proofs.Ytdoinfpkfbfjaaa
