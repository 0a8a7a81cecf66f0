/- Plain facts of the table: its keys rise, its rows' stamps stay below the last one. -/
import Derived.Test.YtdoinfpkfbfjaaaT
set_option linter.unusedSimpArgs false
set_option linter.unusedVariables false
namespace Go.Proofs.Ytdoinfpkfbfjaaa
open Go.RowKit
def Asc (rows : List Tr) : Prop := rows.Pairwise fun a b => a.k < b.k
def AllB (rows : List Tr) (last : Int) : Prop := ∀ r ∈ rows, r.m ≤ r.x ∧ r.x ≤ last
theorem kt {a b c : List UInt8} (h : a < b) (h' : b < c) : a < c := List.lt_trans h h'
theorem asc_get {rows : List Tr} (h : Asc rows) {i j : Nat} (hij : i < j) (hj : j < rows.length) : (rows.getD i zr).k < (rows.getD j zr).k := by
  have := List.pairwise_iff_getElem.1 h i j (by omega) hj hij
  simpa [List.getD, List.getElem?_eq_getElem hj, List.getElem?_eq_getElem (show i < rows.length by omega)] using this
theorem below {rows : List Tr} {key : List UInt8} {k : Nat} {fd : Bool} (h : Asc rows) (hf : FoundAt rows key k fd) {r : Tr} (hr : r ∈ rows.take k) : r.k < key := by
  obtain ⟨j, hj⟩ := List.getElem?_of_mem hr
  have hlt := (List.getElem?_eq_some_iff.1 hj).1
  rw [List.length_take] at hlt
  rw [List.getElem?_take_of_lt (by omega)] at hj
  have e : rows.getD j zr = r := by simp [hj]
  rcases Nat.lt_or_ge j (k - 1) with h1 | h1
  · rw [← e]
    exact kt (asc_get h h1 (by have := hf.1; omega)) (hf.2.1 (by omega))
  · rw [← e, show j = k - 1 by omega]
    exact hf.2.1 (by omega)
theorem above {rows : List Tr} {key : List UInt8} {k : Nat} (h : Asc rows) (hf : FoundAt rows key k false) {r : Tr} (hr : r ∈ rows.drop k) : key < r.k := by
  obtain ⟨j, hj⟩ := List.getElem?_of_mem hr
  rw [List.getElem?_drop] at hj
  have hlt := (List.getElem?_eq_some_iff.1 hj).1
  have e : rows.getD (k + j) zr = r := by simp [hj]
  have hk : key < (rows.getD k zr).k := by
    rcases lt_tri (rows.getD k zr).k key with h1 | h1 | h1
    · exact absurd h1 (hf.2.2.1 (by omega))
    · exact absurd (hf.2.2.2.2 ⟨by omega, h1⟩) (by decide)
    · exact h1
  rcases Nat.eq_zero_or_pos j with h0 | h0
  · subst h0
    rw [← e]
    exact hk
  · rw [← e]
    exact kt hk (asc_get h (by omega) hlt)
theorem asc_put {rows : List Tr} {key : List UInt8} {k : Nat} {fd : Bool} {r : Tr} (h : Asc rows) (hf : FoundAt rows key k fd) (hr : r.k = key) : Asc (putR rows k fd r) := by
  cases fd with
  | false =>
    unfold putR
    rw [if_neg (by decide)]
    unfold Asc
    have hs : rows.Pairwise fun a b => a.k < b.k := h
    rw [← List.take_append_drop k rows, List.pairwise_append] at hs
    rw [List.pairwise_append, List.pairwise_append]
    refine ⟨⟨hs.1, List.pairwise_singleton _ _, fun a ha b hb => ?_⟩, hs.2.1, fun a ha b hb => ?_⟩
    · rw [List.mem_singleton] at hb
      subst hb
      rw [hr]
      exact below h hf ha
    · rcases List.mem_append.1 ha with ha | ha
      · exact hs.2.2 a ha b hb
      · rw [List.mem_singleton] at ha
        subst ha
        rw [hr]
        exact above h hf hb
  | true =>
    unfold putR
    rw [if_pos rfl]
    obtain ⟨hk, hke⟩ := hf.2.2.2.1 rfl
    unfold Asc
    have e : (rows.set k { r with m := (rows.getD k zr).m }).map (·.k) = rows.map (·.k) := by
      rw [List.map_set]
      dsimp only
      rw [hr, ← hke]
      apply List.ext_getElem?
      intro j
      rw [List.getElem?_set]
      split
      · rename_i e
        subst e
        rw [if_pos (by simpa using hk), List.getElem?_map, getD_at hk]
        rfl
      · rfl
    have h1 : (rows.map (·.k)).Pairwise (· < ·) := List.pairwise_map.2 h
    rw [← e] at h1
    exact List.pairwise_map.1 h1
theorem asc_erase {rows : List Tr} (k : Nat) (h : Asc rows) : Asc (rows.eraseIdx k) := List.Pairwise.sublist (List.eraseIdx_sublist rows k) h
theorem allb_erase {rows : List Tr} {last l2 : Int} (k : Nat) (h : AllB rows last) (hl : last ≤ l2) : AllB (rows.eraseIdx k) l2 := fun r hr => by
  have := h r (List.mem_of_mem_eraseIdx hr)
  omega
theorem allb_put {rows : List Tr} {last ix : Int} {k : Nat} {fd : Bool} {key : List UInt8} {x : Int} (h : AllB rows last) (hl : last ≤ ix) (hf : FoundAt rows key k fd) : AllB (putR rows k fd ⟨key, x, ix, ix⟩) (max last ix) := by
  cases fd with
  | false =>
    unfold putR
    rw [if_neg (by decide)]
    intro r hr
    rcases List.mem_append.1 hr with hr | hr
    · rcases List.mem_append.1 hr with hr | hr
      · have := h r (List.mem_of_mem_take hr); omega
      · rw [List.mem_singleton] at hr; subst hr; dsimp only; omega
    · have := h r (List.mem_of_mem_drop hr); omega
  | true =>
    unfold putR
    rw [if_pos rfl]
    obtain ⟨hk, hke⟩ := hf.2.2.2.1 rfl
    intro r hr
    rcases List.mem_or_eq_of_mem_set hr with hr | rfl
    · have := h r hr; omega
    · have := h _ (List.mem_of_getElem? (getD_at hk))
      dsimp only
      omega
theorem put_length (rows : List Tr) (k : Nat) (fd : Bool) (r : Tr) : (putR rows k fd r).length ≤ rows.length + 1 := by
  unfold putR
  split
  · simp
  · simp; omega
theorem erase_length (rows : List Tr) (k : Nat) : (rows.eraseIdx k).length ≤ rows.length := (List.eraseIdx_sublist rows k).length_le
end Go.Proofs.Ytdoinfpkfbfjaaa
