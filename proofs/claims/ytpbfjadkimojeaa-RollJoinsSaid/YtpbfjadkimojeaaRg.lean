/- What counts of a node in a list of news: the greatest; joins do not ask for order or for how often. Plain facts. -/
import Derived.Test.YtpbfjadkimojeaaRj
set_option linter.unusedSimpArgs false
set_option linter.unusedVariables false
set_option maxRecDepth 100000
namespace Go.Proofs.Ytpbfjadkimojeaa
open Go.RowKit
def step (node : Nat) (cur : Option Upd) (u : Upd) : Option Upd := if right u = true ∧ u.n = (node : Int) then some (over cur u) else cur
theorem put_step {tab : List (Option Upd)} {y : Upd} {node : Nat} {x : Option Upd} (hn : node < 8) (hl : tab.length = 8) (hx : tab[node]? = some x) : (put tab y)[node]? = some (step node x y) := by
  unfold put step
  by_cases hr : right y = true
  · have hr' := hr
    simp only [right, decide_eq_true_eq] at hr'
    rw [if_pos hr]
    by_cases e : y.n = (node : Int)
    · have e' : y.n.toNat = node := by omega
      rw [if_pos ⟨hr, e⟩, e', hx, List.getElem?_set_self (by omega)]
      rfl
    · rw [if_neg (fun h => e h.2), List.getElem?_set_ne (by omega)]
      exact hx
  · rw [if_neg hr, if_neg (fun h => hr h.1)]
    exact hx
theorem fold_step {node : Nat} (hn : node < 8) (l : List Upd) : ∀ {tab : List (Option Upd)} {x : Option Upd}, tab.length = 8 → tab[node]? = some x → (l.foldl put tab)[node]? = some (l.foldl (step node) x) := by
  induction l with
  | nil => intro tab x _ hx; exact hx
  | cons y l ih => intro tab x hl hx; exact ih ((put_len tab y).trans hl) (put_step hn hl hx)
theorem tabOf_at {node : Nat} (hn : node < 8) (ys zs : List Upd) : (tabOf ys zs)[node]? = some ((ys ++ zs).foldl (step node) none) := by
  have h : tabOf ys zs = (ys ++ zs).foldl put emp := by rw [List.foldl_append]; rfl
  rw [h]
  refine fold_step hn _ rfl ?_
  match node, hn with
  | 0, _ | 1, _ | 2, _ | 3, _ | 4, _ | 5, _ | 6, _ | 7, _ => rfl
theorem step_a {i : Nat} {cur : Option Upd} {y : Upd} (h4 : 0 ≤ y.n ∧ y.n < 8 ∧ 0 ≤ y.s ∧ y.s ≤ 3) (h5 : y.n = (i : Int)) (h6 : cur.isSome = true) (h7 : abv ⟨y.n, y.i, y.s⟩ ⟨(ox cur).n, (ox cur).i, (ox cur).s⟩ = true) : step i cur y = some y := by
  obtain ⟨c, rfl⟩ := Option.isSome_iff_exists.1 h6
  unfold step
  rw [if_pos ⟨by simp only [right, decide_eq_true_eq]; exact h4, h5⟩]
  unfold over best
  dsimp only
  rw [if_pos (show abv y c = true from h7)]
theorem step_b {i : Nat} {cur : Option Upd} {y : Upd} (h4 : 0 ≤ y.n ∧ y.n < 8 ∧ 0 ≤ y.s ∧ y.s ≤ 3) (h5 : y.n = (i : Int)) (h6 : cur.isSome = true) (h7 : abv ⟨y.n, y.i, y.s⟩ ⟨(ox cur).n, (ox cur).i, (ox cur).s⟩ = false) : step i cur y = cur := by
  obtain ⟨c, rfl⟩ := Option.isSome_iff_exists.1 h6
  have h7' : ¬ abv y c = true := by rw [show abv y c = false from h7]; simp
  unfold step
  rw [if_pos ⟨by simp only [right, decide_eq_true_eq]; exact h4, h5⟩]
  unfold over best
  dsimp only
  rw [if_neg h7']
theorem step_c {i : Nat} {cur : Option Upd} {y : Upd} (h4 : 0 ≤ y.n ∧ y.n < 8 ∧ 0 ≤ y.s ∧ y.s ≤ 3) (h5 : y.n = (i : Int)) (h6 : cur.isSome = false) : step i cur y = some y := by
  cases cur with
  | some c => cases h6
  | none =>
    unfold step
    rw [if_pos ⟨by simp only [right, decide_eq_true_eq]; exact h4, h5⟩]
    rfl
theorem step_d {i : Nat} {cur : Option Upd} {y : Upd} (h4 : ¬ (0 ≤ y.n ∧ y.n < 8 ∧ 0 ≤ y.s ∧ y.s ≤ 3)) : step i cur y = cur := by
  unfold step
  rw [if_neg (fun h => h4 (by simpa only [right, decide_eq_true_eq] using h.1))]
theorem step_e {i : Nat} {cur : Option Upd} {y : Upd} (h5 : ¬ y.n = (i : Int)) : step i cur y = cur := by
  unfold step
  rw [if_neg (fun h => h5 h.2)]
def Cnt (node : Nat) (u : Upd) : Prop := right u = true ∧ u.n = (node : Int)
def Le (u m : Upd) : Prop := u.i < m.i ∨ u.i = m.i ∧ u.s ≤ m.s
theorem Le.trans {a b c : Upd} (h : Le a b) (h' : Le b c) : Le a c := by unfold Le at *; omega
theorem Le.refl (a : Upd) : Le a a := by unfold Le; omega
theorem Le.anti {a b : Upd} (hn : a.n = b.n) (h : Le a b) (h' : Le b a) : a = b := by
  obtain ⟨n, i, s⟩ := a
  obtain ⟨n', i', s'⟩ := b
  unfold Le at *
  simp only [Upd.mk.injEq] at *
  omega
def IsMax (node : Nat) (l : List Upd) : Option Upd → Prop
  | none => ∀ u ∈ l, ¬ Cnt node u
  | some m => m ∈ l ∧ Cnt node m ∧ ∀ u ∈ l, Cnt node u → Le u m
theorem step_max {node : Nat} {l : List Upd} {cur : Option Upd} {y : Upd} (h : IsMax node l cur) : IsMax node (l ++ [y]) (step node cur y) := by
  unfold step
  by_cases hc : right y = true ∧ y.n = (node : Int)
  · rw [if_pos hc]
    cases cur with
    | none =>
      refine ⟨by simp [over], hc, fun u hu hcu => ?_⟩
      rcases List.mem_append.1 hu with hu | hu
      · exact absurd hcu (h u hu)
      · obtain rfl : u = y := by simpa using hu
        exact Le.refl _
    | some m =>
      obtain ⟨h1, h2, h3⟩ := h
      unfold over best
      dsimp only
      by_cases ha : abv y m = true
      · rw [if_pos ha]
        simp only [abv, decide_eq_true_eq] at ha
        refine ⟨by simp, hc, fun u hu hcu => ?_⟩
        rcases List.mem_append.1 hu with hu | hu
        · have := h3 u hu hcu
          unfold Le at *
          omega
        · obtain rfl : u = y := by simpa using hu
          exact Le.refl _
      · rw [if_neg ha]
        simp only [abv, decide_eq_true_eq] at ha
        refine ⟨by simp [h1], h2, fun u hu hcu => ?_⟩
        rcases List.mem_append.1 hu with hu | hu
        · exact h3 u hu hcu
        · obtain rfl : u = y := by simpa using hu
          have e1 := hc.2
          have e2 := h2.2
          unfold Le
          omega
  · rw [if_neg hc]
    cases cur with
    | none =>
      intro u hu
      rcases List.mem_append.1 hu with hu | hu
      · exact h u hu
      · obtain rfl : u = y := by simpa using hu
        exact hc
    | some m =>
      obtain ⟨h1, h2, h3⟩ := h
      refine ⟨by simp [h1], h2, fun u hu hcu => ?_⟩
      rcases List.mem_append.1 hu with hu | hu
      · exact h3 u hu hcu
      · obtain rfl : u = y := by simpa using hu
        exact absurd hcu hc
theorem fold_max {node : Nat} : ∀ (l' l : List Upd) (cur : Option Upd), IsMax node l cur → IsMax node (l ++ l') (l'.foldl (step node) cur)
  | [], l, cur, h => by simpa using h
  | y :: l', l, cur, h => by
    have := fold_max l' (l ++ [y]) (step node cur y) (step_max h)
    simpa using this
/-- What counts of a node. -/
def mx (node : Nat) (l : List Upd) : Option Upd := l.foldl (step node) none
theorem mx_spec (node : Nat) (l : List Upd) : IsMax node l (mx node l) := by
  have := fold_max (node := node) l [] none (fun u hu => by cases hu)
  unfold mx
  simpa using this
def Dom (node : Nat) (l l' : List Upd) : Prop := ∀ u ∈ l, Cnt node u → ∃ v ∈ l', Cnt node v ∧ Le u v
theorem mx_dom {node : Nat} {l l' : List Upd} (h : Dom node l l') (h' : Dom node l' l) : mx node l = mx node l' := by
  have h1 := mx_spec node l
  have h2 := mx_spec node l'
  cases e1 : mx node l with
  | none =>
    rw [e1] at h1
    cases e2 : mx node l' with
    | none => rfl
    | some m =>
      rw [e2] at h2
      obtain ⟨v, hv, hc, _⟩ := h' m h2.1 h2.2.1
      exact absurd hc (h1 v hv)
  | some m =>
    rw [e1] at h1
    cases e2 : mx node l' with
    | none =>
      rw [e2] at h2
      obtain ⟨v, hv, hc, _⟩ := h m h1.1 h1.2.1
      exact absurd hc (h2 v hv)
    | some m' =>
      rw [e2] at h2
      obtain ⟨v, hv, hc, hle⟩ := h m h1.1 h1.2.1
      obtain ⟨v', hv', hc', hle'⟩ := h' m' h2.1 h2.2.1
      exact congrArg some (Le.anti (h1.2.1.2.trans h2.2.1.2.symm) (hle.trans (h2.2.2 v hv hc)) (hle'.trans (h1.2.2 v' hv' hc')))
theorem jn_dom {a b c d : List Upd} (h : ∀ node, Dom node (a ++ b) (c ++ d)) (h' : ∀ node, Dom node (c ++ d) (a ++ b)) : jn a b = jn c d := by
  unfold jn
  congr 1
  apply List.ext_getElem?
  intro i
  by_cases hi : i < 8
  · rw [tabOf_at hi, tabOf_at hi]
    exact congrArg some (mx_dom (h i) (h' i))
  · rw [List.getElem?_eq_none (by rw [tabOf_len]; omega), List.getElem?_eq_none (by rw [tabOf_len]; omega)]
theorem mem_jn {a b : List Upd} {u : Upd} : u ∈ jn a b ↔ ∃ node, node < 8 ∧ mx node (a ++ b) = some u := by
  unfold jn
  rw [List.mem_filterMap]
  constructor
  · rintro ⟨x, hx, rfl⟩
    obtain ⟨i, hi⟩ := List.getElem?_of_mem hx
    have hlt : i < 8 := by
      have := (List.getElem?_eq_some_iff.1 hi).1
      rwa [tabOf_len] at this
    rw [tabOf_at hlt] at hi
    exact ⟨i, hlt, Option.some.inj hi⟩
  · rintro ⟨i, hi, h⟩
    refine ⟨some u, ?_, rfl⟩
    have := tabOf_at hi a b
    rw [show (a ++ b).foldl (step i) none = some u from h] at this
    exact List.mem_of_getElem? this
theorem jn_sub {a b : List Upd} {u : Upd} (h : u ∈ jn a b) : u ∈ a ++ b := by
  obtain ⟨i, hi, h⟩ := mem_jn.1 h
  have := mx_spec i (a ++ b)
  rw [h] at this
  exact this.1
theorem jn_up {a b : List Upd} {node : Nat} {u : Upd} (hu : u ∈ a ++ b) (hc : Cnt node u) : ∃ v ∈ jn a b, Cnt node v ∧ Le u v := by
  have hn : node < 8 := by
    have h1 := hc.1
    have h2 := hc.2
    simp only [right, decide_eq_true_eq] at h1
    omega
  have := mx_spec node (a ++ b)
  cases e : mx node (a ++ b) with
  | none =>
    rw [e] at this
    exact absurd hc (this u hu)
  | some m =>
    rw [e] at this
    exact ⟨m, mem_jn.2 ⟨node, hn, e⟩, this.2.1, this.2.2 u hu hc⟩
theorem jn_len (a b : List Upd) : (jn a b).length ≤ 8 := by
  unfold jn
  exact Nat.le_trans (List.length_filterMap_le ..) (by rw [tabOf_len]; omega)
theorem Dom.sub {node : Nat} {l l' : List Upd} (h : ∀ u ∈ l, u ∈ l') : Dom node l l' := fun u hu hc => ⟨u, h u hu, hc, Le.refl _⟩
theorem jn_comm (a b : List Upd) : jn a b = jn b a := jn_dom (fun _ => Dom.sub (by simp [or_comm])) (fun _ => Dom.sub (by simp [or_comm]))
theorem jn_assoc (a b c : List Upd) : jn a (jn b c) = jn (jn a b) c := by
  refine jn_dom (fun node u hu hc => ?_) (fun node u hu hc => ?_)
  · rcases List.mem_append.1 hu with hu | hu
    · obtain ⟨v, hv, hcv, hle⟩ := jn_up (a := a) (b := b) (List.mem_append_left _ hu) hc
      exact ⟨v, List.mem_append_left _ hv, hcv, hle⟩
    · rcases List.mem_append.1 (jn_sub hu) with hu | hu
      · obtain ⟨v, hv, hcv, hle⟩ := jn_up (a := a) (b := b) (List.mem_append_right _ hu) hc
        exact ⟨v, List.mem_append_left _ hv, hcv, hle⟩
      · exact ⟨u, List.mem_append_right _ hu, hc, Le.refl _⟩
  · rcases List.mem_append.1 hu with hu | hu
    · rcases List.mem_append.1 (jn_sub hu) with hu | hu
      · exact ⟨u, List.mem_append_left _ hu, hc, Le.refl _⟩
      · obtain ⟨v, hv, hcv, hle⟩ := jn_up (a := b) (b := c) (List.mem_append_left _ hu) hc
        exact ⟨v, List.mem_append_right _ hv, hcv, hle⟩
    · obtain ⟨v, hv, hcv, hle⟩ := jn_up (a := b) (b := c) (List.mem_append_right _ hu) hc
      exact ⟨v, List.mem_append_right _ hv, hcv, hle⟩
theorem jn_twice (a : List Upd) : jn a a = jn a [] := jn_dom (fun _ => Dom.sub (by simp)) (fun _ => Dom.sub (by simp))
theorem jn_again (a : List Upd) : jn (jn a []) (jn a []) = jn a [] := by
  refine jn_dom (fun node => Dom.sub (fun u hu => ?_)) (fun node u hu hc => ?_)
  · rcases List.mem_append.1 hu with hu | hu <;> exact jn_sub hu
  · obtain ⟨v, hv, hcv, hle⟩ := jn_up hu hc
    exact ⟨v, List.mem_append_left _ hv, hcv, hle⟩
theorem find_jn {a b : List Upd} {node : Nat} {u : Upd} (hu : u ∈ a ++ b) (hc : Cnt node u) : (find (jn a b) u.n).2 = true ∧ abv u (find (jn a b) u.n).1 = false := by
  obtain ⟨v, hv, hcv, hle⟩ := jn_up hu hc
  unfold find
  cases e : (jn a b).find? (fun x => decide (x.n = u.n)) with
  | none =>
    have := List.find?_eq_none.1 e v hv
    simp [hcv.2, hc.2] at this
  | some q =>
    have hq := List.mem_of_find?_eq_some e
    have hqn := List.find?_some e
    simp only [decide_eq_true_eq] at hqn
    obtain ⟨i, hi, hm⟩ := mem_jn.1 hq
    obtain ⟨i', hi', hm'⟩ := mem_jn.1 hv
    have s1 := mx_spec i (a ++ b)
    have s2 := mx_spec i' (a ++ b)
    rw [hm] at s1
    rw [hm'] at s2
    have e1 := s1.2.1.2
    have e2 := s2.2.1.2
    have e3 := hcv.2
    have e4 := hc.2
    obtain rfl : i = i' := by omega
    rw [hm] at hm'
    obtain rfl := Option.some.inj hm'
    refine ⟨rfl, ?_⟩
    unfold Le at hle
    simp only [abv, decide_eq_false_iff_not]
    omega
theorem jn_row (a b : List Upd) : ((jn a b).map ud).length ≤ 9223372036854775807 := by
  have := jn_len a b
  rw [List.length_map]
  omega
/-- What is found in a table is what counts. -/
theorem mx_n {node : Nat} {l : List Upd} {u : Upd} (h : mx node l = some u) : u.n = (node : Int) := by
  have := mx_spec node l
  rw [h] at this
  exact this.2.1.2
theorem find_some {l : List Upd} {n : Int} {u : Upd} (hu : u ∈ l) (hn : u.n = n) (h1 : ∀ v ∈ l, v.n = n → v = u) : find l n = (u, true) := by
  unfold find
  cases e : l.find? (fun u => decide (u.n = n)) with
  | none =>
    have := List.find?_eq_none.1 e u hu
    simp [hn] at this
  | some v =>
    have h2 := List.find?_some e
    simp only [decide_eq_true_eq] at h2
    rw [h1 v (List.mem_of_find?_eq_some e) h2]
theorem find_none' {l : List Upd} {n : Int} (h1 : ∀ v ∈ l, ¬ v.n = n) : find l n = (⟨0, 0, 0⟩, false) := by
  unfold find
  rw [List.find?_eq_none.2 (fun v hv => by simpa using h1 v hv)]
theorem find_mx (a b : List Upd) {node : Nat} (hn : node < 8) : find (jn a b) (node : Int) = ((mx node (a ++ b)).getD ⟨0, 0, 0⟩, (mx node (a ++ b)).isSome) := by
  cases e : mx node (a ++ b) with
  | none =>
    rw [find_none' (fun v hv hvn => ?_)]
    · rfl
    · obtain ⟨k, hk, he⟩ := mem_jn.1 hv
      have := mx_n he
      obtain rfl : k = node := by omega
      rw [e] at he
      cases he
  | some u =>
    rw [find_some (mem_jn.2 ⟨node, hn, e⟩) (mx_n e) (fun v hv hvn => ?_)]
    · rfl
    · obtain ⟨k, hk, he⟩ := mem_jn.1 hv
      have := mx_n he
      obtain rfl : k = node := by omega
      rw [e] at he
      exact (Option.some.inj he).symm
end Go.Proofs.Ytpbfjadkimojeaa
