/- A slice that lies in a struct's leaf, opened. -/
import Derived.Test.YtdoinfpkfbfjaaaK2
namespace Go.Proofs.Ytdoinfpkfbfjaaa
open Go.RowKit Go.ChangeShapes Go.WideShapes Go.ChangeAt
section
variable {H : Type} {enc : TypeId × Value → H} {P : Program} {w : World} {held : Bool}
theorem leaf_rows {t e : TypeId} {v : Value} {l : List TypeId} (m : Nat) (hu : P.underlying t = some (.slice e)) (hl : leaves P m e = some l) (hk : P.cellsOf e = l.length) (hpos : 0 < l.length)
    (h : LeafAt enc P w 0 (fun _ => true) held t v) :
    ∃ xs : List (List Value), RdRow w v l.length xs ∧ (∀ r ∈ xs, AllLeaf (LeafAt enc P w 0 (fun _ => true) held) l r) := by
  obtain ⟨n, x, hn⟩ := h
  rcases Go.Deep.open_slice hu hn with ⟨hcs, _⟩ | ⟨a, len, cap, m', n', D, Pl, hcs, _, hle, hcap, hm, _, hx⟩
  · obtain rfl : v = .slice none 0 0 := by simpa using hcs
    exact ⟨[], ⟨none, 0, rfl, by simp, by simp, fun h => by simp at h⟩, fun r hr => by cases hr⟩
  · obtain rfl : v = .slice (some a) len cap := by simpa using hcs
    have hm2 : m' = cap := by simpa using hm
    subst hm2
    have hrow : ∀ i, i < len → ∃ r : List Value, (r.length = l.length ∧ ∀ j u, r[j]? = some u → w.cell? (a.add (i * l.length + j)) = some u) ∧ AllLeaf (LeafAt enc P w 0 (fun _ => true) held) l r := by
      intro i hi
      obtain ⟨cs, h1, h2⟩ := hx i (by omega)
      obtain ⟨_, hlen, hc⟩ := World.cells?_some h1
      have hA := trod_leaves m e l n' cs _ hl h2
      refine ⟨cs, ⟨by omega, fun j u hj => ?_⟩, hA⟩
      have hjl : j < cs.length := (List.getElem?_eq_some_iff.1 hj).1
      rw [← hk, ← Go.Deep.add_add, hc j (by omega)]
      exact hj
    obtain ⟨xs, hxl, hxs⟩ := list_choose (p := fun (i : Nat) (r : List Value) => (r.length = l.length ∧ ∀ j u, r[j]? = some u → w.cell? (a.add (i * l.length + j)) = some u) ∧ AllLeaf (LeafAt enc P w 0 (fun _ => true) held) l r) len (fun i => i) hrow
    refine ⟨xs, ⟨some a, m', by rw [hxl], by rw [hxl]; exact hle, by rw [hxl]; unfold maxLen at hcap; omega, fun hp => ?_⟩, fun r hr => ?_⟩
    · obtain ⟨r0, h0, ⟨hr0, hc0⟩, _⟩ := hxs 0 (by omega)
      have hc00 := hc0 0 (r0[0]'(by omega)) (by simp)
      simp only [Nat.zero_mul, Nat.add_zero] at hc00
      have ha : a.add 0 = a := by simp [Addr.add]
      rw [ha] at hc00
      have hsp := cell_spot hc00
      refine ⟨a.block, a.off, by rw [hsp], World.block_lt_of_cell? w a hc00, fun i r hr => ?_⟩
      have hi : i < len := by rw [← hxl]; exact (List.getElem?_eq_some_iff.1 hr).1
      obtain ⟨r', h1, ⟨h2, h3⟩, _⟩ := hxs i hi
      obtain rfl : r' = r := by rw [h1] at hr; exact Option.some.inj hr
      refine ⟨h2, fun j u hj => ?_⟩
      have := h3 j u hj
      rw [hsp, add_at] at this
      exact this
    · obtain ⟨i, hi⟩ := List.getElem?_of_mem hr
      have hil : i < len := by rw [← hxl]; exact (List.getElem?_eq_some_iff.1 hi).1
      obtain ⟨r', h1, _, h3⟩ := hxs i hil
      obtain rfl : r' = r := by rw [h1] at hi; exact Option.some.inj hi
      exact h3
end
end Go.Proofs.Ytdoinfpkfbfjaaa
