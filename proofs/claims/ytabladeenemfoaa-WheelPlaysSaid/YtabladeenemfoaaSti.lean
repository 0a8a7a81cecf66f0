/- sort.Ints at rows of one's own. -/
import Derived.Test.YtabladeenemfoaaS
import Derived.Test.YtabladeenemfoaaK13
import Derived.Sort.OwnSortedInts
set_option linter.unusedSimpArgs false
set_option linter.unusedVariables false
set_option maxRecDepth 100000
set_option maxHeartbeats 1000000
namespace Go.Proofs.Ytabladeenemfoaa
open Go.RowKit Go.Sort
@[reducible] def ri (x : Int) : List Value := [.int .i64 x]
def srt (ss : List Int) : List Int := ss.mergeSort fun x y => decide (x ≤ y)
theorem flat_ri (ss : List Int) : (ss.map ri).flatten = ss.map (Value.int .i64) := by
  induction ss with
  | nil => rfl
  | cons a l ih => simp only [List.map_cons, List.flatten_cons, ih]; rfl
theorem sort_any (ss : List Int) {T : TypeId} {v : Value} {B : List (Nat × Obj)} {w : World} (hsl : Sl T 1 v (ss.map ri) B) (hown : Own w B) (hl : ss.length ≤ 1000000) :
    Ret Try.prog 25 #[v] w fun u w' => u = .tuple #[] ∧ ∃ B', Sl T 1 v ((srt ss).map ri) B' ∧ St w (B.map Prod.fst) B' w' := by
  generalize hrows : ss.map ri = rows at hsl
  cases hsl with
  | nil =>
    obtain rfl : ss = [] := by simpa using hrows
    refine Calls.mono (Any.sort_Ints_none lays191 none 0 w) ?_
    rintro e w' ⟨rfl, rfl⟩
    exact ⟨_, rfl, rfl, [], by simpa [srt] using Sl.nil, St.init hown⟩
  | @own g cap cur rows h1 h2 h3 h4 h5 =>
    subst hrows
    have hb : w.heap[g]? = some (.cells cur.toArray T (0, 0)) := hown.1 _ List.mem_cons_self
    rw [List.length_map] at h3 h5 ⊢
    rw [Nat.mul_one, flat_ri] at h5
    rw [Nat.mul_one] at h2
    have hH : Holds (Value.int .i64) w g 0 ss.toArray := holds_of_blockI hb (by simpa using h5)
    refine Calls.mono (Any.sort_Ints lays191 g 0 cap ss w hH (Array.getElem?_eq_some_iff.1 hb).1 (by omega)) ?_
    rintro e w' ⟨rfl, n, os, rfl⟩
    have hlen : (srt ss).length = ss.length := by simp [srt]
    have hs := heap_sortedI (n := n) (os := os) (srt ss).toArray hb
    have hgr := grownBy_sortedI (w := w) (g := g) (n := n) (os := os) (srt ss).toArray
    refine ⟨_, rfl, rfl, [(g, C T (putCells (Value.int .i64) 0 (srt ss).toArray cur.toArray).toList)], ?_, ?_⟩
    · have := Sl.own (T := T) (k := 1) (g := g) (cap := cap) (cur := (putCells (Value.int .i64) 0 (srt ss).toArray cur.toArray).toList) (rows := (srt ss).map ri) (by intro r hr; obtain ⟨x, _, rfl⟩ := List.mem_map.1 hr; rfl)
        (by simp [putCells, h2]) (by rw [List.length_map, hlen]; exact h3) h4 (by rw [List.length_map, Nat.mul_one, flat_ri]; exact take_putCellsI cur.toArray (srt ss) (by rw [hlen, List.size_toArray]; omega))
      rwa [List.length_map, hlen] at this
    · refine ⟨hgr.os, hgr.tape, hgr.output, hgr.size, fun k hk hx => ?_, ?_, by simp, fun c hc => ?_⟩
      · exact hgr.block k hk (fun e => hx (by cases e; simp))
      · intro c hc
        rw [List.mem_singleton] at hc
        subst hc
        rw [show C T (putCells (Value.int .i64) 0 (srt ss).toArray cur.toArray).toList = .cells (putCells (Value.int .i64) 0 (srt ss).toArray cur.toArray) T (0, 0) by simp [C]]
        exact hs
      · rw [List.mem_singleton] at hc
        subst hc
        exact .inl (by simp)
end Go.Proofs.Ytabladeenemfoaa
