/- The document's list and the program's map say the same. Plain facts. -/
import Derived.Test.YtpbfjadkimojeaaRf
import Derived.Test.YtpbfjadkimojeaaLi
set_option linter.unusedSimpArgs false
set_option linter.unusedVariables false
set_option maxRecDepth 100000
namespace Go.Proofs.Ytpbfjadkimojeaa
open Go.RowKit
def WfM (m : Mem) : Prop := ∀ p ∈ m, (0 ≤ p.1 ∧ p.1 < 8) ∧ p.2.n = p.1 ∧ 0 ≤ p.2.s
theorem wf_look {m : Mem} (h : WfM m) {k : Int} {u : Upd} (e : look m k = some u) : (0 ≤ k ∧ k < 8) ∧ u.n = k ∧ 0 ≤ u.s := by
  induction m with
  | nil => cases e
  | cons p ps ih =>
    unfold look at e
    split at e
    · rename_i hk
      subst hk
      obtain rfl := Option.some.inj e
      exact h p List.mem_cons_self
    · exact ih (fun q hq => h q (List.mem_cons_of_mem _ hq)) e
theorem wf_put {m : Mem} (h : WfM m) {k : Int} {u : Upd} (hk : 0 ≤ k ∧ k < 8) (hn : u.n = k) (hs : 0 ≤ u.s) : WfM (lput m k u) := by
  induction m with
  | nil => intro p hp; simp only [lput, List.mem_singleton] at hp; subst hp; exact ⟨hk, hn, hs⟩
  | cons q qs ih =>
    unfold lput
    have hqs : WfM qs := fun p hp => h p (List.mem_cons_of_mem _ hp)
    split
    · intro p hp
      rcases List.mem_cons.1 hp with rfl | hp
      · exact ⟨hk, hn, hs⟩
      · exact hqs p hp
    · intro p hp
      rcases List.mem_cons.1 hp with rfl | hp
      · exact h _ List.mem_cons_self
      · exact ih hqs p hp
theorem wf_at {m : Mem} (h : WfM m) {k : Int} (hk : (look m k).isSome = true) : (at_ m k).n = k ∧ 0 ≤ (at_ m k).s := by
  obtain ⟨u, hu⟩ := Option.isSome_iff_exists.1 hk
  unfold at_
  rw [hu]
  exact (wf_look h hu).2
def seenL (m : Mem) (ks : List Nat) : List Upd := ks.filterMap fun (k : Nat) => look m (k : Int)
theorem seen_L (m : Mem) (i : Nat) : seen m i = seenL m (List.range i) := rfl
theorem mem_seenL {m : Mem} (h : WfM m) {ks : List Nat} {u : Upd} (hu : u ∈ seenL m ks) : ∃ k ∈ ks, u.n = (k : Int) ∧ 0 ≤ u.s := by
  obtain ⟨k, hk, e⟩ := List.mem_filterMap.1 hu
  exact ⟨k, hk, (wf_look h e).2⟩
theorem split8 {j : Nat} (h : j < 8) : List.range 8 = List.range j ++ ([j] ++ List.range' (j + 1) (7 - j)) := by
  match j, h with
  | 0, _ | 1, _ | 2, _ | 3, _ | 4, _ | 5, _ | 6, _ | 7, _ => rfl
theorem putR_low {u : Upd} {b : List Upd} : ∀ {a : List Upd}, (∀ x ∈ a, x.n < u.n) → putR u false (a ++ b) = a ++ putR u false b
  | [], _ => rfl
  | x :: a, h => by
    have hx := h x List.mem_cons_self
    rw [List.cons_append, putR_lt (by omega) (.inr (by omega)), putR_low (fun y hy => h y (List.mem_cons_of_mem _ hy))]
    rfl
theorem putR_done {u : Upd} : ∀ {b : List Upd}, (∀ x ∈ b, u.n < x.n) → putR u true b = b
  | [], _ => rfl
  | x :: b, h => by
    have hx := h x List.mem_cons_self
    rw [putR_lt (by omega) (.inl rfl), putR_done (fun y hy => h y (List.mem_cons_of_mem _ hy))]
theorem putR_high {u : Upd} {b : List Upd} (h : ∀ x ∈ b, u.n < x.n) : putR u false b = u :: b := by
  cases b with
  | nil => rfl
  | cons x b =>
    have hx := h x List.mem_cons_self
    rw [putR_gt (by omega) hx, putR_done (fun y hy => h y (List.mem_cons_of_mem _ hy))]
theorem seenL_put {m : Mem} {j : Int} {u : Upd} {ks : List Nat} (h : ∀ k ∈ ks, ¬ (k : Int) = j) : seenL (lput m j u) ks = seenL m ks := by
  induction ks with
  | nil => rfl
  | cons k ks ih =>
    unfold seenL at *
    rw [List.filterMap_cons, List.filterMap_cons, look_put, if_neg (h k List.mem_cons_self), ih (fun q hq => h q (List.mem_cons_of_mem _ hq))]
theorem put_seen {m : Mem} (h : WfM m) {u : Upd} (hu : 0 ≤ u.n ∧ u.n < 8) : putR u false (seen m 8) = seen (lput m u.n u) 8 := by
  obtain ⟨j, hj⟩ : ∃ j : Nat, u.n = (j : Int) := ⟨u.n.toNat, by omega⟩
  have hj8 : j < 8 := by omega
  have s1 : ∀ m', seen m' 8 = seenL m' (List.range j) ++ (seenL m' [j] ++ seenL m' (List.range' (j + 1) (7 - j))) := fun m' => by
    rw [seen_L, split8 hj8]
    unfold seenL
    rw [List.filterMap_append, List.filterMap_append]
  rw [s1, s1, putR_low (fun x hx => by
    obtain ⟨k, hk, e, _⟩ := mem_seenL h hx
    have := List.mem_range.1 hk
    omega)]
  rw [seenL_put (ks := List.range j) (fun k hk e => by have := List.mem_range.1 hk; omega), seenL_put (ks := List.range' (j + 1) (7 - j)) (fun k hk e => by have := List.mem_range'_1.1 hk; omega)]
  congr 1
  have hhigh : ∀ x ∈ seenL m (List.range' (j + 1) (7 - j)), u.n < x.n := fun x hx => by
    obtain ⟨k, hk, e, _⟩ := mem_seenL h hx
    have := List.mem_range'_1.1 hk
    omega
  have e1 : seenL (lput m u.n u) [j] = [u] := by
    unfold seenL
    rw [List.filterMap_cons, look_put, if_pos hj.symm]
    rfl
  rw [e1]
  cases hl : look m (j : Int) with
  | none =>
    have e2 : seenL m [j] = [] := by unfold seenL; rw [List.filterMap_cons, hl]; rfl
    rw [e2, List.nil_append, putR_high hhigh]
    rfl
  | some x =>
    have e2 : seenL m [j] = [x] := by unfold seenL; rw [List.filterMap_cons, hl]; rfl
    have hx := (wf_look h hl).2.1
    rw [e2, List.cons_append, List.nil_append, putR_eq (by omega), putR_done hhigh]
    rfl
theorem find_app (a b : List Upd) (n : Int) : find (a ++ b) n = if (find a n).2 = true then find a n else find b n := by
  unfold find
  rw [List.find?_append]
  cases List.find? (fun u => decide (u.n = n)) a <;> simp
theorem find_one (u : Upd) (k : Int) : find [u] k = if u.n = k then (u, true) else (z3, false) := by
  unfold find
  by_cases e : u.n = k
  · rw [List.find?_cons_of_pos (by simpa using e), if_pos e]
  · rw [List.find?_cons_of_neg (by simpa using e), if_neg e]
    rfl
theorem find_upto {m : Mem} (h : WfM m) (k : Int) : ∀ i : Nat, find (seen m i) k = if 0 ≤ k ∧ k < (i : Int) then (at_ m k, (look m k).isSome) else (z3, false)
  | 0 => by rw [if_neg (by omega)]; rfl
  | i + 1 => by
    rw [seen_next, find_app, find_upto h k i]
    by_cases h1 : 0 ≤ k ∧ k < (i : Int)
    · rw [if_pos h1, if_pos (show 0 ≤ k ∧ k < ((i + 1 : Nat) : Int) by omega)]
      cases hl : look m k with
      | none =>
        rw [if_neg (by simp)]
        unfold at_
        rw [hl]
        cases hi : look m (i : Int) with
        | none => rfl
        | some u =>
          have := (wf_look h hi).2.1
          rw [Option.toList_some, find_one, if_neg (by omega)]
          rfl
      | some u => rw [if_pos (by rfl)]
    · rw [if_neg h1, if_neg (by simp)]
      cases hi : look m (i : Int) with
      | none =>
        by_cases h2 : k = (i : Int)
        · subst h2
          rw [if_pos (by omega)]
          unfold at_
          rw [hi]
          rfl
        · rw [if_neg (show ¬ (0 ≤ k ∧ k < ((i + 1 : Nat) : Int)) by omega)]
          rfl
      | some u =>
        have hn := (wf_look h hi).2.1
        rw [Option.toList_some, find_one]
        by_cases h2 : k = (i : Int)
        · subst h2
          rw [if_pos hn, if_pos (by omega)]
          unfold at_
          rw [hi]
          rfl
        · rw [if_neg (by omega), if_neg (show ¬ (0 ≤ k ∧ k < ((i + 1 : Nat) : Int)) by omega)]
theorem find_seen {m : Mem} (h : WfM m) (k : Int) : find (seen m 8) k = (at_ m k, (look m k).isSome) := by
  rw [find_upto h]
  by_cases hk : 0 ≤ k ∧ k < ((8 : Nat) : Int)
  · rw [if_pos hk]
  · rw [if_neg hk]
    cases hl : look m k with
    | none => unfold at_; rw [hl]; rfl
    | some u =>
      have := (wf_look h hl).1
      exact absurd (by omega) hk
theorem apply_same {me : Int} {m : Mem} (h : WfM m) (hm : 0 ≤ me ∧ me < 8) (u : Upd) : applyR me (seen m 8) u = ((applyC me m u).1, seen (applyC me m u).2 8) ∧ WfM (applyC me m u).2 := by
  have hf := find_seen h u.n
  by_cases h1 : 0 ≤ u.n ∧ u.n < 8 ∧ 0 ≤ u.s ∧ u.s ≤ 3
  · have n1 : ¬ ¬ (0 ≤ u.n ∧ u.n < 8 ∧ 0 ≤ u.s ∧ u.s ≤ 3) := fun h => h h1
    by_cases h2 : u.n = me
    · have eC : applyC me m u = mineC me m u := by unfold applyC; rw [if_neg n1, if_pos h2]
      have eR : applyR me (seen m 8) u = if (at_ m me).s = 3 ∨ ¬ abv u (at_ m me) = true then (⟨0, z3, z3⟩, seen m 8)
          else if ¬ (inc (at_ m me).i u.i).2 = 0 then (⟨4, at_ m me, at_ m me⟩, seen m 8)
          else (⟨3, at_ m me, ⟨me, (inc (at_ m me).i u.i).1, 0⟩⟩, putR ⟨me, (inc (at_ m me).i u.i).1, 0⟩ false (seen m 8)) := by
        unfold applyR
        rw [hf, if_neg n1, if_pos h2, h2]
      rw [eC, eR]
      unfold mineC
      by_cases h3 : (at_ m me).s = 3 ∨ ¬ abv u (at_ m me) = true
      · rw [if_pos h3, if_pos h3]
        exact ⟨rfl, h⟩
      · rw [if_neg h3, if_neg h3]
        by_cases h4 : ¬ (inc (at_ m me).i u.i).2 = 0
        · rw [if_pos h4, if_pos h4]
          exact ⟨rfl, h⟩
        · rw [if_neg h4, if_neg h4]
          refine ⟨?_, wf_put h hm rfl (Int.le_refl 0)⟩
          rw [put_seen h (u := ⟨me, (inc (at_ m me).i u.i).1, 0⟩) hm]
    · by_cases h3 : (look m u.n).isSome = false
      · have eC : applyC me m u = (⟨1, z3, u⟩, lput m u.n u) := by unfold applyC; rw [if_neg n1, if_neg h2, if_pos h3]
        have eR : applyR me (seen m 8) u = (⟨1, z3, u⟩, putR u false (seen m 8)) := by unfold applyR; rw [hf, if_neg n1, if_neg h2, if_pos h3]
        rw [eC, eR, put_seen h ⟨h1.1, h1.2.1⟩]
        exact ⟨rfl, wf_put h ⟨h1.1, h1.2.1⟩ rfl h1.2.2.1⟩
      · by_cases h4 : abv u (at_ m u.n) = true
        · have eC : applyC me m u = (⟨2, at_ m u.n, u⟩, lput m u.n u) := by unfold applyC; rw [if_neg n1, if_neg h2, if_neg h3, if_pos h4]
          have eR : applyR me (seen m 8) u = (⟨2, at_ m u.n, u⟩, putR u false (seen m 8)) := by unfold applyR; rw [hf, if_neg n1, if_neg h2, if_neg h3, if_neg (fun h => h h4)]
          rw [eC, eR, put_seen h ⟨h1.1, h1.2.1⟩]
          exact ⟨rfl, wf_put h ⟨h1.1, h1.2.1⟩ rfl h1.2.2.1⟩
        · have eC : applyC me m u = (⟨0, z3, z3⟩, m) := by unfold applyC; rw [if_neg n1, if_neg h2, if_neg h3, if_neg h4]
          have eR : applyR me (seen m 8) u = (⟨0, z3, z3⟩, seen m 8) := by unfold applyR; rw [hf, if_neg n1, if_neg h2, if_neg h3, if_pos h4]
          rw [eC, eR]
          exact ⟨rfl, h⟩
  · have eC : applyC me m u = (⟨0, z3, z3⟩, m) := by unfold applyC; rw [if_pos h1]
    have eR : applyR me (seen m 8) u = (⟨0, z3, z3⟩, seen m 8) := by unfold applyR; rw [if_pos h1]
    rw [eC, eR]
    exact ⟨rfl, h⟩
/-- Its own node stands there. -/
def Mine (me : Int) (m : Mem) : Prop := (look m me).isSome = true
theorem leave_same {me : Int} {m : Mem} (h : WfM m) (hm : 0 ≤ me ∧ me < 8) (hi : Mine me m) : leaveR me (seen m 8) = ((leaveC me m).1, (leaveC me m).2.1, seen (leaveC me m).2.2 8) ∧ WfM (leaveC me m).2.2 := by
  unfold leaveR leaveC
  rw [find_seen h]
  dsimp only
  have hn := (wf_at h hi).1
  by_cases h3 : (at_ m me).s = 3
  · rw [if_pos h3, if_pos h3]
    exact ⟨rfl, h⟩
  · rw [if_neg h3, if_neg h3]
    refine ⟨?_, wf_put h hm hn (show (0 : Int) ≤ 3 by decide)⟩
    rw [put_seen h (by rw [hn]; exact hm)]
    dsimp only
    rw [hn]
theorem mine_put {me k : Int} {m : Mem} {u : Upd} (h : Mine me m) : Mine me (lput m k u) := by
  unfold Mine at *
  rw [look_put]
  split
  · rfl
  · exact h
theorem mine_apply {me : Int} {m : Mem} {u : Upd} (h : Mine me m) : Mine me (applyC me m u).2 := by
  unfold applyC mineC
  repeat' split
  all_goals first | exact h | exact mine_put h
theorem mine_leave {me : Int} {m : Mem} (h : Mine me m) : Mine me (leaveC me m).2.2 := by
  unfold leaveC
  split
  · exact h
  · exact mine_put h
theorem inb_leave {me : Int} {m : Mem} (h : InB m) : InB (leaveC me m).2.2 := by
  unfold leaveC
  split
  · exact h
  · exact inb_put h _ (inb_at h me)
theorem lv_same {m : Mem} (h : WfM m) (me : Int) : lvR false me (seen m 8) = lv (seen m 8) := by
  unfold lvR lv
  congr 1
  apply List.filter_congr
  intro u hu
  obtain ⟨k, _, _, hs⟩ := mem_seenL h (seen_L m 8 ▸ hu)
  unfold lives
  rw [Bool.eq_iff_iff]
  simp only [decide_eq_true_eq, Bool.or_eq_true, Bool.false_eq_true, false_and, not_false_eq_true, and_true]
  omega
theorem peers_same {m : Mem} (h : WfM m) (me : Int) : lvR true me (seen m 8) = (lv (seen m 8)).filter fun n => decide (¬ n = me) := by
  rw [← lv_same h me]
  unfold lvR
  rw [List.filter_map, List.filter_filter]
  congr 1
  apply List.filter_congr
  intro u hu
  rw [Bool.eq_iff_iff]
  simp only [Function.comp, decide_eq_true_eq, Bool.and_eq_true, Bool.false_eq_true, false_and, not_false_eq_true, and_true, true_and]
  constructor
  · rintro ⟨a, b⟩; exact ⟨b, a⟩
  · rintro ⟨a, b⟩; exact ⟨b, a⟩
theorem seen_new (me i : Int) (hm : 0 ≤ me ∧ me < 8) : seen [(me, ⟨me, i, 0⟩)] 8 = [⟨me, i, 0⟩] := by
  have h : WfM [] := fun p hp => by cases hp
  have := put_seen h (u := ⟨me, i, 0⟩) hm
  rw [show lput [] (Upd.mk me i 0).n ⟨me, i, 0⟩ = [(me, ⟨me, i, 0⟩)] from rfl] at this
  rw [← this]
  rfl
end Go.Proofs.Ytpbfjadkimojeaa
