/- The two wheels answer alike, in plain words. -/
import Derived.Test.YtabladeenemfoaaRb
set_option linter.unusedSimpArgs false
set_option linter.unusedVariables false
set_option maxHeartbeats 1000000
namespace Go.Proofs.Ytabladeenemfoaa
open Go.RowKit
structure Rel (W : Wl) (l : List (Int × Nat)) : Prop where
  perm : (prs W).Perm l
  sorted : l.Pairwise fun p q => p.1 < q.1
theorem Rel.len {W : Wl} {l : List (Int × Nat)} (h : Rel W l) : l.length = W.ts.length := by
  have := h.perm.length_eq
  rw [List.length_map] at this
  exact this.symm
theorem srt_self {l : List Int} (h : l.Pairwise fun a b => a < b) : srt l = l := by
  refine List.Perm.eq_of_pairwise (le := fun a b : Int => decide (a ≤ b) = true) ?_ (List.pairwise_mergeSort le_trans' le_total' l) (h.imp fun h => by simp; omega) (List.mergeSort_perm ..)
  intro a b _ _ h h'
  simp at h h'
  omega
theorem Rel.ids {W : Wl} {l : List (Int × Nat)} (h : Rel W l) : srt (idsW W) = l.map Prod.fst := by
  have h1 : (idsW W).Perm (l.map Prod.fst) := by
    have := h.perm.map Prod.fst
    rw [List.map_map] at this
    exact this
  rw [srt_perm h1]
  exact srt_self (List.pairwise_map.2 h.sorted)
theorem find_mem {l : List (Int × Nat)} {i : Int} : (l.find? fun p => decide (p.1 = i)).isSome = true ↔ ∃ d, (i, d) ∈ l := by
  rw [List.find?_isSome]
  constructor
  · rintro ⟨p, hp, e⟩
    exact ⟨p.2, by rw [← of_decide_eq_true e]; exact hp⟩
  · rintro ⟨d, hd⟩
    exact ⟨_, hd, by simp⟩
theorem Rel.has {W : Wl} {l : List (Int × Nat)} (hi : Inv W) (h : Rel W l) (i : Int) : (l.find? fun p => decide (p.1 = i)).isSome = (tget W.ts i).isSome := by
  rw [Bool.eq_iff_iff, find_mem]
  show _ ↔ hasT W i
  rw [has_iff hi]
  exact ⟨fun ⟨d, hd⟩ => ⟨d, h.perm.mem_iff.2 hd⟩, fun ⟨d, hd⟩ => ⟨d, h.perm.mem_iff.1 hd⟩⟩
theorem lft_of {W : Wl} {l : List (Int × Nat)} (hi : Inv W) (h : Rel W l) {p : Int × Nat} (hp : p ∈ l) : hasT W p.1 ∧ lft W p.1 = (p.2 : Int) - W.now := by
  have hm := h.perm.mem_iff.2 hp
  have hh : hasT W p.1 := (has_iff hi _).2 ⟨p.2, hm⟩
  obtain ⟨t, ht, rfl⟩ := List.mem_map.1 hm
  refine ⟨hh, ?_⟩
  unfold lft
  rw [if_pos hh, tof_of hi.nd ht]
theorem Rel.left {W : Wl} {l : List (Int × Nat)} (hi : Inv W) (h : Rel W l) (i : Int) : (leftP l W.now i).1 = lft W i ∧ (leftP l W.now i).2 = (tget W.ts i).isSome := by
  have hh := h.has hi i
  unfold leftP
  cases hf : l.find? fun p => decide (p.1 = i) with
  | none =>
    rw [hf] at hh
    refine ⟨?_, hh⟩
    unfold lft
    rw [if_neg (by rw [← hh]; decide)]
  | some p =>
    rw [hf] at hh
    have he := List.find?_some hf
    have hp := List.mem_of_find?_eq_some hf
    simp only [decide_eq_true_eq] at he
    subst he
    exact ⟨(lft_of hi h hp).2.symm, hh⟩
theorem foldl_same {α β : Type} {f g : β → α → β} {l : List α} (h : ∀ q, ∀ x ∈ l, f q x = g q x) (q : β) : l.foldl f q = l.foldl g q := by
  induction l generalizing q with
  | nil => rfl
  | cons y l ih =>
    rw [List.foldl_cons, List.foldl_cons, h q y List.mem_cons_self]
    exact ih (fun q x hx => h q x (List.mem_cons_of_mem _ hx)) _
theorem Rel.next {W : Wl} {l : List (Int × Nat)} (hi : Inv W) (h : Rel W l) : nextP l W.now = aNext W := by
  unfold nextP aNext
  rw [h.ids, List.foldl_map]
  refine foldl_same (fun q p hp => ?_) _
  obtain ⟨h1, h2⟩ := lft_of hi h hp
  unfold lstep nstep
  rw [h2]
  by_cases hc : q.2 = false ∨ (p.2 : Int) - W.now < q.1
  · rw [if_pos hc, if_pos ⟨h1, hc⟩]
  · rw [if_neg hc, if_neg fun h => hc h.2]
theorem Rel.ok {W : Wl} {l : List (Int × Nat)} (hi : Inv W) (h : Rel W l) (i n : Int) : rokP l i n ↔ setOk W i n := by
  unfold rokP setOk
  rw [h.has hi, h.len]
theorem insP_perm (x : Int × Nat) (l : List (Int × Nat)) : (insP x false l).Perm (x :: l) := by
  induction l with
  | nil => exact .refl _
  | cons y l ih =>
    unfold insP
    split
    · exact .refl _
    · exact (ih.cons y).trans (.swap ..)
theorem insP_sorted {x : Int × Nat} {l : List (Int × Nat)} (h : l.Pairwise fun p q => p.1 < q.1) (hx : ∀ p ∈ l, p.1 ≠ x.1) : (insP x false l).Pairwise fun p q => p.1 < q.1 := by
  induction l with
  | nil => exact List.pairwise_singleton ..
  | cons y l ih =>
    rw [List.pairwise_cons] at h
    unfold insP
    split
    · rename_i hlt
      rw [List.pairwise_cons, List.pairwise_cons]
      refine ⟨fun p hp => ?_, h⟩
      rcases List.mem_cons.1 hp with rfl | hp
      · exact hlt
      · have := h.1 p hp; omega
    · rename_i hlt
      rw [List.pairwise_cons]
      refine ⟨fun p hp => ?_, ih h.2 fun p hp => hx p (List.mem_cons_of_mem _ hp)⟩
      rcases List.mem_cons.1 ((insP_perm x l).mem_iff.1 hp) with rfl | hp
      · have := hx y List.mem_cons_self; omega
      · exact h.1 p hp
theorem Rel.set {W : Wl} {l : List (Int × Nat)} (hi : Inv W) (h : Rel W l) (i n : Int) : Rel (aSet W i n) (rsetP l W.now i n) := by
  by_cases hok : setOk W i n
  · unfold rsetP
    rw [if_pos ((h.ok hi i n).2 hok)]
    refine ⟨(aset_inv hi hok).2.1.trans (List.Perm.trans ((h.perm.filter _).cons _) (insP_perm _ _).symm), insP_sorted (h.sorted.sublist List.filter_sublist) fun p hp => ?_⟩
    simpa using (List.mem_filter.1 hp).2
  · unfold rsetP
    rw [if_neg fun e => hok ((h.ok hi i n).1 e), aset_no hok]
    exact h
theorem Rel.stop {W : Wl} {l : List (Int × Nat)} (hi : Inv W) (h : Rel W l) (i : Int) : Rel (aStop W i) (outP l i) :=
  ⟨(astop_inv hi i).2.1.trans (h.perm.filter _), h.sorted.sublist List.filter_sublist⟩
theorem Rel.tick {W : Wl} {l : List (Int × Nat)} (hi : Inv W) (h : Rel W l) : Rel (aTick W).1 (notP l (W.now + 1)) ∧ (aTick W).2 = (dueP l (W.now + 1)).map Prod.fst := by
  obtain ⟨_, _, h2, h3⟩ := inv_tick hi
  refine ⟨⟨h2.trans (h.perm.filter _), h.sorted.sublist List.filter_sublist⟩, ?_⟩
  rw [h3, srt_perm ((h.perm.filter _).map Prod.fst)]
  exact srt_self (List.pairwise_map.2 (h.sorted.sublist List.filter_sublist))
theorem rel_new : Rel w0 [] := ⟨.refl _, .nil⟩
theorem Rel.due {W : Wl} {l : List (Int × Nat)} (hi : Inv W) (h : Rel W l) (hn : W.now ≤ 1000000) : ∀ p ∈ l, p.2 ≤ 2000000000 := fun p hp => by
  obtain ⟨t, ht, rfl⟩ := List.mem_map.1 (h.perm.mem_iff.2 hp)
  have := (inv_lt hi ht).2
  show t.due ≤ _
  omega
end Go.Proofs.Ytabladeenemfoaa
