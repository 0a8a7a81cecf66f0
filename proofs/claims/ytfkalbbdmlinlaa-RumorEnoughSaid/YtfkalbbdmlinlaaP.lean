/- What holds of a queue, in plain words. -/
import Derived.Test.YtfkalbbdmlinlaaW
set_option linter.unusedSimpArgs false
set_option linter.unusedVariables false
namespace Go.Proofs.Ytfkalbbdmlinlaa
open Go.RowKit
/-- Each item is at its node; it was passed on not too often. -/
def WfT (t : Tab) : Prop := ∀ k x, t k = some x → x.n = k ∧ 0 ≤ x.c ∧ x.c ≤ 600
def Keeps (t t' : Tab) : Prop := ∀ k x y, t k = some x → t' k = some y → abv (up x) (up y) = false
theorem WfT.tabB {t : Tab} (h : WfT t) : TabB t := fun k x hx => by have := h k x hx; omega
theorem wf_nT : WfT (fun _ => none) := fun k x h => by cases h
theorem abv_irr (u : Upd) : abv u u = false := by unfold abv; simp
theorem abv_asym {u v : Upd} (h : abv u v = true) : abv v u = false := by
  unfold abv at *
  simp only [decide_eq_true_eq, decide_eq_false_iff_not] at *
  omega
theorem Keeps.refl (t : Tab) : Keeps t t := fun k x y h1 h2 => by rw [h1] at h2; cases h2; exact abv_irr _
theorem push_wf {t : Tab} {wh : Int} {u : Upd} (h : WfT t) : WfT (pushQ t wh u).2.1 ∧ Keeps t (pushQ t wh u).2.1 := by
  unfold pushQ
  split
  · exact ⟨h, .refl _⟩
  · split
    · exact ⟨h, .refl _⟩
    · rename_i h1 h2
      constructor
      · intro k x hx
        simp only [setT] at hx
        split at hx
        · rename_i e
          cases hx
          exact ⟨e.symm, by show (0 : Int) ≤ 0; decide, by show (0 : Int) ≤ 600; decide⟩
        · exact h k x hx
      · intro k x y hx hy
        simp only [setT] at hy
        split at hy
        · rename_i e
          subst e
          cases hy
          have e1 : at_ t u.n = x := by unfold at_; rw [hx]; rfl
          rw [hx, e1] at h2
          have : abv u (up x) = true := by
            cases hq : abv u (up x) with
            | true => rfl
            | false => exact absurd ⟨rfl, hq⟩ h2
          exact abv_asym this
        · exact Keeps.refl t k x y hx hy
theorem pushQ_w {t : Tab} {wh : Int} {u : Upd} : wh ≤ (pushQ t wh u).2.2 ∧ (pushQ t wh u).2.2 ≤ wh + 1 := by
  unfold pushQ
  split
  · dsimp only; omega
  · split <;> dsimp only <;> omega
/-- The same updates are there, or fewer. -/
def Sub (t t' : Tab) : Prop := ∀ k y, t' k = some y → ∃ x, t k = some x ∧ up y = up x
theorem Sub.keeps {t t' : Tab} (h : Sub t t') : Keeps t t' := fun k x y hx hy => by
  obtain ⟨z, hz, e⟩ := h k y hy
  rw [hx] at hz
  cases hz
  rw [e]
  exact abv_irr _
theorem take_wf {lim : Int} (hlim : lim ≤ 504) (t0 : Tab) (h0 : WfT t0) : ∀ (xs : List It) (t : Tab), WfT t → Sub t0 t → (∀ x ∈ xs, t0 x.n = some x) → WfT (xs.foldl (takeF lim) t) ∧ Sub t0 (xs.foldl (takeF lim) t)
  | [], t, hw, hs, _ => ⟨hw, hs⟩
  | x :: xs, t, hw, hs, hx => by
    have hx0 := hx x (List.mem_cons_self ..)
    have hxc := h0 _ _ hx0
    refine take_wf hlim t0 h0 xs (takeF lim t x) ?_ ?_ (fun y hy => hx y (List.mem_cons_of_mem _ hy))
    · intro k y hy
      unfold takeF setT at hy
      split at hy
      · rename_i e
        split at hy
        · cases hy
        · cases hy
          exact ⟨e.symm, by show 0 ≤ x.c + 1; omega, by show x.c + 1 ≤ 600; omega⟩
      · exact hw k y hy
    · intro k y hy
      unfold takeF setT at hy
      split at hy
      · rename_i e
        subst e
        split at hy
        · cases hy
        · cases hy
          exact ⟨x, hx0, rfl⟩
      · exact hs k y hy
theorem coll_ne {t : Tab} (h : WfT t) (n : Nat) : (coll t n).Pairwise (fun a b => a.n ≠ b.n) := by
  induction n with
  | zero => exact List.Pairwise.nil
  | succ n ih =>
    rw [coll_next]
    refine List.pairwise_append.2 ⟨ih, ?_, fun a ha b hb => ?_⟩
    · cases t (n : Int) with
      | none => exact List.Pairwise.nil
      | some x => exact List.pairwise_singleton _ _
    · obtain ⟨k, hk, hx⟩ := mem_coll.1 ha
      have h1 := (h _ _ hx).1
      have h2 := (h _ _ (Option.mem_toList.1 hb)).1
      omega
theorem ds_ne {t : Tab} {ds : List It} (h : WfT t) (hp : ds.Perm (coll t 8)) : ds.Pairwise (fun a b => a.n ≠ b.n) :=
  (hp.pairwise_iff (fun hab => Ne.symm hab)).2 (coll_ne h 8)
theorem ds_at {t : Tab} {ds : List It} {x : It} (h : WfT t) (hp : ds.Perm (coll t 8)) (hx : x ∈ ds) : t x.n = some x := by
  obtain ⟨k, hk, e⟩ := mem_coll.1 (hp.mem_iff.1 hx)
  rw [(h _ _ e).1]
  exact e
theorem pair_at {α : Type} {R : α → α → Prop} {l : List α} {i j : Nat} {x y : α} (h : l.Pairwise R) (hj : j < i) (hx : l[j]? = some x) (hy : l[i]? = some y) : R x y := by
  obtain ⟨h1, e1⟩ := List.getElem?_eq_some_iff.1 hx
  obtain ⟨h2, e2⟩ := List.getElem?_eq_some_iff.1 hy
  have := List.pairwise_iff_getElem.1 h j i h1 h2 hj
  rwa [e1, e2] at this
theorem two_at {t : Tab} {ds : List It} (h : WfT t) (hp : ds.Perm (coll t 8)) (hs : ds.Pairwise (fun a b => ltI b a = false)) {i j : Nat} {x y : It} (hj : j < i) (hx : ds[j]? = some x) (hy : ds[i]? = some y) : x.n ≠ y.n ∧ ¬ y.c < x.c := by
  refine ⟨pair_at (R := fun a b : It => a.n ≠ b.n) (ds_ne h hp) hj hx hy, fun hc => ?_⟩
  have := pair_at (R := fun a b : It => ltI b a = false) hs hj hx hy
  unfold ltI at this
  rw [if_neg (by omega)] at this
  simp only [decide_eq_false_iff_not] at this
  exact this hc
theorem keep_at {t t' : Tab} {bs cs : List It} {x y : It} (h : WfT t) (h' : WfT t') (hk : Keeps t t') (hp : bs.Perm (coll t 8)) (hp' : cs.Perm (coll t' 8)) (hx : x ∈ bs) (hy : y ∈ cs) : abv (up x) (up y) = false := by
  have e1 := ds_at h hp hx
  have e2 := ds_at h' hp' hy
  by_cases hn : x.n = y.n
  · rw [← hn] at e2
    exact hk _ _ _ e1 e2
  · unfold abv up
    simp only [decide_eq_false_iff_not]
    exact fun e => hn e.1
end Go.Proofs.Ytfkalbbdmlinlaa
