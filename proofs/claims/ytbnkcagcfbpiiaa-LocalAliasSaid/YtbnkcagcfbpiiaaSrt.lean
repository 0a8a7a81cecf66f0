/- sort.Strings at rows of one's own. -/
import Derived.Test.YtbnkcagcfbpiiaaS
import Derived.Test.YtbnkcagcfbpiiaaK13
import Derived.Sort.OwnSorted
set_option linter.unusedSimpArgs false
set_option linter.unusedVariables false
set_option maxRecDepth 100000
set_option maxHeartbeats 1000000
open Go.Proofs
namespace Go.Proofs.Ytbnkcagcfbpiiaa
open Go.RowKit Go.Sort
@[reducible] def rs (x : List UInt8) : List Value := [str x]
def srt (ss : List (List UInt8)) : List (List UInt8) := ss.mergeSort fun x y => decide (x ≤ y)
theorem flat_rs (ss : List (List UInt8)) : (ss.map rs).flatten = ss.map encStr := by
  induction ss with
  | nil => rfl
  | cons a l ih => simp only [List.map_cons, List.flatten_cons, ih]; rfl
theorem sort_any (ss : List (List UInt8)) {T : TypeId} {v : Value} {B : List (Nat × Obj)} {w : World} (hsl : Sl T 1 v (ss.map rs) B) (hown : Own w B) (hl : ss.length ≤ 1000000) :
    Ret Try.prog 65 #[v] w fun u w' => u = .tuple #[] ∧ ∃ B', Sl T 1 v ((srt ss).map rs) B' ∧ St w (B.map Prod.fst) B' w' := by
  generalize hrows : ss.map rs = rows at hsl
  cases hsl with
  | nil =>
    obtain rfl : ss = [] := by simpa using hrows
    refine Calls.mono (Any.sort_Strings_none lays192 none 0 w) ?_
    rintro e w' ⟨rfl, rfl⟩
    exact ⟨_, rfl, rfl, [], by simpa [srt] using Sl.nil, St.init hown⟩
  | @own g cap cur rows h1 h2 h3 h4 h5 =>
    subst hrows
    have hb : w.heap[g]? = some (.cells cur.toArray T (0, 0)) := hown.1 _ List.mem_cons_self
    rw [List.length_map] at h3 h5 ⊢
    rw [Nat.mul_one, flat_rs] at h5
    rw [Nat.mul_one] at h2
    have hH : Holds encStr w g 0 ss.toArray := holds_of_block hb (by simpa using h5)
    refine Calls.mono (Any.sort_Strings lays192 g 0 cap ss w hH (Array.getElem?_eq_some_iff.1 hb).1 (by omega)) ?_
    rintro e w' ⟨rfl, n, os, rfl⟩
    have hlen : (srt ss).length = ss.length := by simp [srt]
    have hs := heap_sorted (n := n) (os := os) (srt ss).toArray hb
    have hgr := grownBy_sorted (w := w) (g := g) (n := n) (os := os) (srt ss).toArray
    refine ⟨_, rfl, rfl, [(g, C T (putCells encStr 0 (srt ss).toArray cur.toArray).toList)], ?_, ?_⟩
    · have := Sl.own (T := T) (k := 1) (g := g) (cap := cap) (cur := (putCells encStr 0 (srt ss).toArray cur.toArray).toList) (rows := (srt ss).map rs) (by intro r hr; obtain ⟨x, _, rfl⟩ := List.mem_map.1 hr; rfl)
        (by simp [putCells, h2]) (by rw [List.length_map, hlen]; exact h3) h4 (by rw [List.length_map, Nat.mul_one, flat_rs]; exact take_putCells cur.toArray (srt ss) (by rw [hlen, List.size_toArray]; omega))
      rwa [List.length_map, hlen] at this
    · refine ⟨hgr.os, hgr.tape, hgr.output, hgr.size, fun k hk hx => ?_, ?_, by simp, fun c hc => ?_⟩
      · exact hgr.block k hk (fun e => hx (by cases e; simp))
      · intro c hc
        rw [List.mem_singleton] at hc
        subst hc
        rw [show C T (putCells encStr 0 (srt ss).toArray cur.toArray).toList = .cells (putCells encStr 0 (srt ss).toArray cur.toArray) T (0, 0) by simp [C]]
        exact hs
      · rw [List.mem_singleton] at hc
        subst hc
        exact .inl (by simp)
end Go.Proofs.Ytbnkcagcfbpiiaa
