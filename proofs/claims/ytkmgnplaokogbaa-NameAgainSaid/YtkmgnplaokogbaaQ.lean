/- Plain facts of sets of texts: rising lists. -/
import Derived.Test.YtkmgnplaokogbaaSrt
set_option linter.unusedSimpArgs false
set_option linter.unusedVariables false
namespace Go.Proofs.Ytkmgnplaokogbaa
open Go.RowKit
abbrev Tx := List UInt8
theorem kt {a b c : Tx} (h : a < b) (h' : b < c) : a < c := List.lt_trans h h'
theorem le_lt {a b c : Tx} (h : ¬ b < a) (h' : b < c) : a < c := by
  rcases lt_tri a b with h1 | h1 | h1
  · exact kt h1 h'
  · rw [h1]; exact h'
  · exact absurd h1 h
theorem le_le {a b c : Tx} (h : ¬ b < a) (h' : ¬ c < b) : ¬ c < a := fun e => by
  rcases lt_tri b c with h1 | h1 | h1
  · exact lt_asym (le_lt h h1) e
  · exact h (by rw [h1]; exact e)
  · exact h' h1
/-- r is l as a set, in rising order. -/
def SetOf (r l : List Tx) : Prop := r.Pairwise (· < ·) ∧ ∀ x, x ∈ r ↔ x ∈ l
theorem asc_eq : ∀ {a b : List Tx}, a.Pairwise (· < ·) → b.Pairwise (· < ·) → (∀ x, x ∈ a ↔ x ∈ b) → a = b
  | [], [], _, _, _ => rfl
  | [], y :: b, _, _, h => by have := (h y).2 List.mem_cons_self; cases this
  | x :: a, [], _, _, h => by have := (h x).1 List.mem_cons_self; cases this
  | x :: a, y :: b, ha, hb, h => by
    rw [List.pairwise_cons] at ha hb
    have e : x = y := by
      rcases List.mem_cons.1 ((h x).1 List.mem_cons_self) with h1 | h1
      · exact h1
      · rcases List.mem_cons.1 ((h y).2 List.mem_cons_self) with h2 | h2
        · exact h2.symm
        · exact absurd (ha.1 y h2) (lt_asym (hb.1 x h1))
    subst e
    congr 1
    refine asc_eq ha.2 hb.2 fun z => ⟨fun hz => ?_, fun hz => ?_⟩
    · rcases List.mem_cons.1 ((h z).1 (List.mem_cons_of_mem _ hz)) with h1 | h1
      · subst h1; exact absurd (ha.1 z hz) (lt_irr _)
      · exact h1
    · rcases List.mem_cons.1 ((h z).2 (List.mem_cons_of_mem _ hz)) with h1 | h1
      · subst h1; exact absurd (hb.1 z hz) (lt_irr _)
      · exact h1
theorem set_eq {a b l m : List Tx} (ha : SetOf a l) (hb : SetOf b m) (h : ∀ x, x ∈ l ↔ x ∈ m) : a = b := asc_eq ha.1 hb.1 fun x => by rw [ha.2, hb.2, h]
theorem set_filter {a l : List Tx} (x : Tx) (h : SetOf a l) : SetOf (a.filter fun y => decide (¬ y = x)) (l.filter fun y => decide (¬ y = x)) :=
  ⟨h.1.filter _, fun z => by simp only [List.mem_filter, h.2]⟩
/-- The keeping of what a question with a state of its own lets through. -/
def keepL {σ : Type} (yes : σ → Tx → Bool) (nxt : σ → Tx → σ) : σ → List Tx → List Tx × σ
  | s, [] => ([], s)
  | s, c :: l => (bif yes s c then c :: (keepL yes nxt (nxt s c) l).1 else (keepL yes nxt (nxt s c) l).1, (keepL yes nxt (nxt s c) l).2)
theorem keepL_snoc {σ : Type} (yes : σ → Tx → Bool) (nxt : σ → Tx → σ) (c : Tx) : ∀ (l : List Tx) (s : σ), keepL yes nxt s (l ++ [c]) = ((keepL yes nxt s l).1 ++ (bif yes (keepL yes nxt s l).2 c then [c] else []), nxt (keepL yes nxt s l).2 c)
  | [], s => by simp only [List.nil_append, keepL]
  | d :: l, s => by
    simp only [List.cons_append, keepL, keepL_snoc yes nxt c l]
    cases yes s d <;> simp
theorem keepL_len {σ : Type} (yes : σ → Tx → Bool) (nxt : σ → Tx → σ) : ∀ (l : List Tx) (s : σ), (keepL yes nxt s l).1.length ≤ l.length
  | [], s => Nat.le_refl _
  | d :: l, s => by
    have := keepL_len yes nxt l (nxt s d)
    simp only [keepL]
    cases yes s d <;> simp <;> omega
def yesS (s : Bool × Tx) (c : Tx) : Bool := !s.1 || decide (¬ c = s.2)
def nxtS (s : Bool × Tx) (c : Tx) : Bool × Tx := (true, c)
theorem keep_from (a : Tx) : ∀ (l : List Tx), l.Pairwise (fun x y => ¬ y < x) → (∀ x ∈ l, ¬ x < a) → (keepL yesS nxtS (true, a) l).1.Pairwise (· < ·) ∧ (∀ x ∈ (keepL yesS nxtS (true, a) l).1, a < x) ∧ ∀ x, (x ∈ (keepL yesS nxtS (true, a) l).1 ∨ x = a) ↔ (x ∈ l ∨ x = a)
  | [], _, _ => ⟨List.Pairwise.nil, fun x h => (by cases h), fun x => Iff.rfl⟩
  | c :: l, hp, ha => by
    rw [List.pairwise_cons] at hp
    obtain ⟨h1, h2, h3⟩ := keep_from c l hp.2 hp.1
    by_cases e : c = a
    · subst e
      have hy : yesS (true, c) c = false := by simp [yesS]
      simp only [keepL, hy, cond_false]
      refine ⟨h1, h2, fun x => ?_⟩
      show x ∈ (keepL yesS nxtS (true, c) l).1 ∨ x = c ↔ _
      rw [h3, List.mem_cons]
      constructor
      · rintro (h | h)
        · exact .inl (.inr h)
        · exact .inr h
      · rintro ((h | h) | h)
        · exact .inr h
        · exact .inl h
        · exact .inr h
    · have hy : yesS (true, a) c = true := by simp [yesS, e]
      have hac : a < c := by
        rcases lt_tri a c with h | h | h
        · exact h
        · exact absurd h.symm e
        · exact absurd h (ha c List.mem_cons_self)
      simp only [keepL, hy, cond_true]
      have hc : ∀ x, x ∈ c :: (keepL yesS nxtS (nxtS (true, a) c) l).1 ↔ x ∈ c :: l := fun x => by
        have := h3 x
        rw [List.mem_cons, List.mem_cons]
        show x = c ∨ x ∈ (keepL yesS nxtS (true, c) l).1 ↔ _
        rw [or_comm, this, or_comm]
      refine ⟨List.pairwise_cons.2 ⟨h2, h1⟩, fun x hx => ?_, fun x => by rw [hc]⟩
      rcases List.mem_cons.1 hx with h | h
      · rw [h]; exact hac
      · exact kt hac (h2 x h)
theorem keep_set (l : List Tx) (hp : l.Pairwise fun x y => ¬ y < x) : SetOf (keepL yesS nxtS (false, []) l).1 l := by
  cases l with
  | nil => exact ⟨List.Pairwise.nil, fun x => Iff.rfl⟩
  | cons c l =>
    rw [List.pairwise_cons] at hp
    obtain ⟨h1, h2, h3⟩ := keep_from c l hp.2 hp.1
    have hy : yesS (false, []) c = true := rfl
    simp only [keepL, hy, cond_true]
    refine ⟨List.pairwise_cons.2 ⟨h2, h1⟩, fun x => ?_⟩
    show x ∈ c :: (keepL yesS nxtS (true, c) l).1 ↔ _
    rw [List.mem_cons, List.mem_cons, or_comm, h3, or_comm]
theorem srt_le (l : List Tx) : (srt l).Pairwise fun x y => ¬ y < x := by
  have h := List.pairwise_mergeSort (le := fun x y : Tx => decide (x ≤ y)) (fun a b c h1 h2 => by
    simp only [decide_eq_true_eq] at *
    exact le_le (a := a) (b := b) (c := c) h1 h2) (fun a b => by
    simp only [Bool.or_eq_true, decide_eq_true_eq]
    rcases lt_tri a b with h | h | h
    · exact .inl (show ¬ b < a from lt_asym h)
    · subst h; exact .inl (show ¬ a < a from lt_irr _)
    · exact .inr (show ¬ a < b from lt_asym h)) l
  exact h.imp fun h => by
    simp only [decide_eq_true_eq] at h
    exact h
theorem srt_set (l : List Tx) : SetOf (keepL yesS nxtS (false, []) (srt l)).1 l := by
  have h := keep_set (srt l) (srt_le l)
  refine ⟨h.1, fun x => ?_⟩
  rw [h.2]
  exact List.mem_mergeSort
theorem set_len {a l : List Tx} (h : SetOf a l) : a.length ≤ l.length := by
  rw [set_eq h (srt_set l) (fun _ => Iff.rfl)]
  refine Nat.le_trans (keepL_len _ _ _ _) ?_
  simp [srt]
theorem keep_filter (x : Tx) : ∀ l : List Tx, (keepL (fun (_ : Unit) c => decide (¬ c = x)) (fun s _ => s) () l).1 = l.filter fun y => decide (¬ y = x)
  | [] => rfl
  | c :: l => by
    simp only [keepL, keep_filter x l, List.filter_cons]
    by_cases h : c = x <;> simp [h]
end Go.Proofs.Ytkmgnplaokogbaa
