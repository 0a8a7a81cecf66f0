/- A list turned at one place. -/
set_option linter.unusedSimpArgs false
set_option linter.unusedVariables false
namespace Go.Proofs.Ytbnkcagcfbpiiaa
def upd {α : Type} (g : α → α) : Nat → List α → List α
  | _, [] => []
  | 0, x :: l => g x :: l
  | n + 1, x :: l => x :: upd g n l
theorem upd_at {α : Type} (g : α → α) (p : List α) (x : α) (s : List α) : upd g p.length (p ++ x :: s) = p ++ g x :: s := by
  induction p with
  | nil => rfl
  | cons y p ih => simp only [List.cons_append, List.length_cons, upd, ih]
theorem upd_len {α : Type} (g : α → α) (n : Nat) (l : List α) : (upd g n l).length = l.length := by
  induction l generalizing n with
  | nil => cases n <;> rfl
  | cons y l ih => cases n <;> simp [upd, ih]
theorem upd_get {α : Type} {g : α → α} {n i : Nat} {l : List α} {x : α} (h : l[i]? = some x) : (upd g n l)[i]? = some (if n = i then g x else x) := by
  induction l generalizing n i with
  | nil => simp at h
  | cons y l ih =>
    cases n with
    | zero =>
      cases i with
      | zero =>
        simp only [List.getElem?_cons_zero, Option.some.injEq] at h
        subst h
        simp [upd]
      | succ i =>
        simp only [List.getElem?_cons_succ] at h
        simp [upd, h]
    | succ n =>
      cases i with
      | zero =>
        simp only [List.getElem?_cons_zero, Option.some.injEq] at h
        subst h
        simp [upd]
      | succ i =>
        simp only [List.getElem?_cons_succ] at h
        simp only [upd, List.getElem?_cons_succ]
        rw [ih h]
        simp
theorem upd_mem {α : Type} {g : α → α} {n : Nat} {l : List α} {x : α} (h : x ∈ upd g n l) : x ∈ l ∨ ∃ y, l[n]? = some y ∧ x = g y := by
  induction l generalizing n with
  | nil => cases n <;> cases h
  | cons y l ih =>
    cases n with
    | zero =>
      rcases List.mem_cons.1 h with rfl | h
      · exact .inr ⟨y, rfl, rfl⟩
      · exact .inl (List.mem_cons_of_mem _ h)
    | succ n =>
      rcases List.mem_cons.1 h with rfl | h
      · exact .inl List.mem_cons_self
      · rcases ih h with h | ⟨z, hz, e⟩
        · exact .inl (List.mem_cons_of_mem _ h)
        · exact .inr ⟨z, by simpa using hz, e⟩
end Go.Proofs.Ytbnkcagcfbpiiaa
