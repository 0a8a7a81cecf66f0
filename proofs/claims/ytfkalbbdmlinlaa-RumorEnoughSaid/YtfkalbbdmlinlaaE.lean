/- What is taken often enough is gone, and was passed on just as often as may be. In plain words. -/
import Derived.Test.YtfkalbbdmlinlaaP
set_option linter.unusedSimpArgs false
set_option linter.unusedVariables false
namespace Go.Proofs.Ytfkalbbdmlinlaa
open Go.RowKit
def AllLt (lim : Int) (t : Tab) : Prop := ∀ k x, t k = some x → x.n = k ∧ 0 ≤ k ∧ k < 8 ∧ 0 ≤ x.c ∧ x.c < lim
def fv (lim : Int) : Option It → Int
  | none => 0
  | some x => lim - x.c
/-- How often all may still be passed on. -/
def left (lim : Int) (t : Tab) : Nat → Int
  | 0 => 0
  | n + 1 => left lim t n + fv lim (t (n : Int))
theorem left_set (lim : Int) (t : Tab) (j : Int) (v : Option It) : ∀ n : Nat, left lim (setT t j v) n = left lim t n + (if 0 ≤ j ∧ j < n then fv lim v - fv lim (t j) else 0)
  | 0 => by
    show (0 : Int) = 0 + _
    rw [if_neg (by omega)]; rfl
  | n + 1 => by
    show left lim (setT t j v) n + fv lim (setT t j v (n : Int)) = left lim t n + fv lim (t (n : Int)) + _
    rw [left_set lim t j v n]
    by_cases h : (n : Int) = j
    · have e : setT t j v (n : Int) = v := by unfold setT; rw [if_pos h]
      rw [e, if_neg (by omega), if_pos (by omega), h]
      omega
    · have e : setT t j v (n : Int) = t (n : Int) := by unfold setT; rw [if_neg h]
      rw [e]
      by_cases h2 : 0 ≤ j ∧ j < n
      · rw [if_pos h2, if_pos (by omega)]; omega
      · rw [if_neg h2, if_neg (by omega)]; omega
theorem left_nn {lim : Int} {t : Tab} (h : AllLt lim t) : ∀ n, 0 ≤ left lim t n
  | 0 => Int.le_refl _
  | n + 1 => by
    have := left_nn h n
    show 0 ≤ left lim t n + fv lim (t (n : Int))
    cases e : t (n : Int) with
    | none => show 0 ≤ left lim t n + 0; omega
    | some x =>
      have := h _ _ e
      show 0 ≤ left lim t n + (lim - x.c)
      omega
theorem left_zero {lim : Int} {t : Tab} (h : AllLt lim t) : ∀ n, left lim t n ≤ 0 → coll t n = []
  | 0, _ => rfl
  | n + 1, h0 => by
    have h1 := left_nn h n
    change left lim t n + fv lim (t (n : Int)) ≤ 0 at h0
    rw [coll_next]
    cases e : t (n : Int) with
    | none =>
      rw [e] at h0
      change left lim t n + 0 ≤ 0 at h0
      rw [left_zero h n (by omega)]
      rfl
    | some x =>
      have := h _ _ e
      rw [e] at h0
      change left lim t n + (lim - x.c) ≤ 0 at h0
      omega
theorem left_le {lim : Int} {t : Tab} (hl : 0 ≤ lim) (h : AllLt lim t) : ∀ n : Nat, left lim t n ≤ n * lim
  | 0 => by show (0 : Int) ≤ _; simp
  | n + 1 => by
    have h1 := left_le hl h n
    show left lim t n + fv lim (t (n : Int)) ≤ ((n + 1 : Nat) : Int) * lim
    have e2 : ((n + 1 : Nat) : Int) * lim = (n : Int) * lim + lim := by rw [Int.natCast_add, Int.add_mul]; simp
    rw [e2]
    cases e : t (n : Int) with
    | none => show left lim t n + 0 ≤ _; omega
    | some x =>
      have := h _ _ e
      show left lim t n + (lim - x.c) ≤ _
      omega
theorem left_nil {lim : Int} {t : Tab} : ∀ n, coll t n = [] → left lim t n = 0
  | 0, _ => rfl
  | n + 1, h => by
    rw [coll_next] at h
    obtain ⟨h1, h2⟩ := List.append_eq_nil_iff.1 h
    show left lim t n + fv lim (t (n : Int)) = 0
    rw [left_nil n h1]
    cases e : t (n : Int) with
    | none => rfl
    | some x => rw [e] at h2; cases h2
theorem coll_nil {t : Tab} {k : Int} (h : coll t 8 = []) (hk : 0 ≤ k ∧ k < 8) : t k = none := by
  cases e : t k with
  | none => rfl
  | some x =>
    have : x ∈ coll t 8 := mem_coll.2 ⟨k.toNat, by omega, by rw [Int.toNat_of_nonneg hk.1]; exact e⟩
    rw [h] at this
    cases this
def InvU (lim : Int) (u : Upd) (t : Tab) (n : Int) : Prop := (∃ x, t u.n = some x ∧ up x = u ∧ x.c = n ∧ n < lim) ∨ (t u.n = none ∧ n = lim)
def cnt (u : Upd) : List It → Int
  | [] => 0
  | x :: xs => (if up x = u then 1 else 0) + cnt u xs
theorem cnt_app (u : Upd) (a b : List It) : cnt u (a ++ b) = cnt u a + cnt u b := by
  induction a with
  | nil => show _ = 0 + _; simp
  | cons x xs ih =>
    show _ + cnt u (xs ++ b) = (_ + cnt u xs) + cnt u b
    rw [ih]; omega
theorem cnt_b (u : Upd) : ∀ l : List It, 0 ≤ cnt u l ∧ cnt u l ≤ l.length
  | [] => by simp [cnt]
  | x :: xs => by
    have := cnt_b u xs
    show 0 ≤ (if up x = u then 1 else 0) + cnt u xs ∧ (if up x = u then 1 else 0) + cnt u xs ≤ ((xs.length + 1 : Nat) : Int)
    split <;> omega
theorem take_all {lim : Int} (hl : 1 ≤ lim) {u : Upd} : ∀ (xs : List It) (t : Tab) (n : Int), AllLt lim t → InvU lim u t n → (∀ x ∈ xs, t x.n = some x) → xs.Pairwise (fun a b => a.n ≠ b.n) →
    AllLt lim (xs.foldl (takeF lim) t) ∧ InvU lim u (xs.foldl (takeF lim) t) (n + cnt u xs) ∧ left lim (xs.foldl (takeF lim) t) 8 = left lim t 8 - xs.length
  | [], t, n, ha, hi, _, _ => ⟨ha, by show InvU lim u t (n + 0); rwa [Int.add_zero], by show left lim t 8 = left lim t 8 - 0; omega⟩
  | x :: xs, t, n, ha, hi, hx, hp => by
    have hx0 := hx x (List.mem_cons_self ..)
    have hxa := ha _ _ hx0
    obtain ⟨hp1, hp2⟩ := List.pairwise_cons.1 hp
    have hA : AllLt lim (takeF lim t x) := by
      intro k y hy
      unfold takeF setT at hy
      split at hy
      · rename_i e
        split at hy
        · cases hy
        · cases hy
          exact ⟨e.symm, by omega, by omega, by show 0 ≤ x.c + 1; omega, by show x.c + 1 < lim; omega⟩
      · exact ha k y hy
    have hI : InvU lim u (takeF lim t x) (n + (if up x = u then 1 else 0)) := by
      by_cases hn : x.n = u.n
      · rcases hi with ⟨z, hz, hzu, hzc, hzl⟩ | ⟨hz, _⟩
        · rw [← hn, hx0] at hz
          cases hz
          rw [if_pos hzu]
          unfold takeF setT
          by_cases hle : lim ≤ x.c + 1
          · exact .inr ⟨by show (if u.n = x.n then _ else _) = _; rw [if_pos hn.symm, if_pos hle], by omega⟩
          · exact .inl ⟨more x, by show (if u.n = x.n then _ else _) = _; rw [if_pos hn.symm, if_neg hle], hzu, by show x.c + 1 = _; omega, by omega⟩
        · rw [← hn, hx0] at hz
          cases hz
      · rw [if_neg (fun e => hn (by rw [← e]; rfl)), Int.add_zero]
        have e : takeF lim t x u.n = t u.n := by unfold takeF setT; rw [if_neg (fun e => hn e.symm)]
        unfold InvU
        rw [e]
        exact hi
    have hL : left lim (takeF lim t x) 8 = left lim t 8 - 1 := by
      unfold takeF
      rw [left_set, if_pos (by omega), hx0]
      by_cases hle : lim ≤ x.c + 1
      · rw [if_pos hle]
        show left lim t 8 + (0 - (lim - x.c)) = _
        omega
      · rw [if_neg hle]
        show left lim t 8 + ((lim - (x.c + 1)) - (lim - x.c)) = _
        omega
    have hX : ∀ y ∈ xs, takeF lim t x y.n = some y := fun y hy => by
      have := hp1 y hy
      unfold takeF setT
      rw [if_neg (fun e => this e.symm)]
      exact hx y (List.mem_cons_of_mem _ hy)
    have := take_all hl xs (takeF lim t x) (n + (if up x = u then 1 else 0)) hA hI hX hp2
    refine ⟨this.1, ?_, ?_⟩
    · show InvU lim u (xs.foldl (takeF lim) (takeF lim t x)) (n + ((if up x = u then 1 else 0) + cnt u xs))
      rw [← Int.add_assoc]
      exact this.2.1
    · show left lim (xs.foldl (takeF lim) (takeF lim t x)) 8 = left lim t 8 - ((xs.length + 1 : Nat) : Int)
      rw [this.2.2, hL]
      omega
/-- Before any is taken. -/
def Zero (t : Tab) : Prop := ∀ k x, t k = some x → x.n = k ∧ 0 ≤ k ∧ k < 8 ∧ x.c = 0
theorem Zero.lt {t : Tab} {lim : Int} (h : Zero t) (hl : 1 ≤ lim) : AllLt lim t := fun k x hx => by have := h k x hx; omega
theorem Zero.push {t : Tab} {wh : Int} {u : Upd} (h : Zero t) : Zero (pushQ t wh u).2.1 := by
  unfold pushQ
  split
  · exact h
  · rename_i hr
    split
    · exact h
    · intro k x hx
      simp only [setT] at hx
      split at hx
      · rename_i e
        cases hx
        have hr' : right u := by simpa using hr
        exact ⟨e.symm, by rw [e]; exact hr'.1, by rw [e]; exact hr'.2.1, rfl⟩
      · exact h k x hx
theorem push_ne {t : Tab} {wh : Int} {u : Upd} {n : Int} (h : t n = none) (hn : ¬ u.n = n) : (pushQ t wh u).2.1 n = none := by
  unfold pushQ
  split
  · exact h
  · split
    · exact h
    · show setT t u.n _ n = none
      unfold setT
      rw [if_neg (fun e => hn e.symm)]
      exact h
theorem push_new {t : Tab} {wh : Int} {u : Upd} (h : t u.n = none) (hr : right u) : pushQ t wh u = (true, setT t u.n (some ⟨u.n, u.i, u.s, 0, wh + 1⟩), wh + 1) := by
  unfold pushQ
  rw [if_neg (by simpa using hr), if_neg (by rw [h]; simp)]
theorem start_ok {t : Tab} {wh lim : Int} {u : Upd} (hz : Zero t) (hun : t u.n = none) (hr : right u) (hl : 1 ≤ lim) : AllLt lim (setT t u.n (some ⟨u.n, u.i, u.s, 0, wh + 1⟩)) ∧ InvU lim u (setT t u.n (some ⟨u.n, u.i, u.s, 0, wh + 1⟩)) 0 ∧ left lim (setT t u.n (some ⟨u.n, u.i, u.s, 0, wh + 1⟩)) 8 ≤ 8 * lim := by
  have hz' := hz.push (wh := wh) (u := u)
  rw [push_new hun hr] at hz'
  have ha := hz'.lt hl
  exact ⟨ha, .inl ⟨⟨u.n, u.i, u.s, 0, wh + 1⟩, if_pos rfl, rfl, rfl, by omega⟩, left_le (by omega) ha 8⟩
theorem InvU.le {lim n : Int} {u : Upd} {t : Tab} (h : InvU lim u t n) : n ≤ lim := by
  rcases h with ⟨_, _, _, _, h⟩ | ⟨_, h⟩ <;> omega
theorem InvU.fin {lim n : Int} {u : Upd} {t : Tab} (h : InvU lim u t n) (hc : t u.n = none) : n = lim := by
  rcases h with ⟨x, h, _⟩ | ⟨_, h⟩
  · rw [hc] at h; cases h
  · exact h
theorem AllLt.wf {lim : Int} {t : Tab} (h : AllLt lim t) (hl : lim ≤ 504) : WfT t := fun k x hx => by have := h k x hx; omega
theorem digF_pos {f n : Nat} (h : 0 < n) : 1 ≤ digF (f + 1) n := by
  unfold digF
  rw [if_neg (by omega)]
  omega
theorem digF_lt : ∀ (f j n : Nat), n < 2 ^ j → digF f n ≤ j
  | 0, _, _, _ => Nat.zero_le _
  | f + 1, 0, n, h => by
    have : n = 0 := by simpa using h
    subst this
    simp [digF]
  | f + 1, j + 1, n, h => by
    unfold digF
    split
    · exact Nat.zero_le _
    · have := digF_lt f j (n / 2) (by rw [Nat.pow_succ] at h; omega)
      omega
theorem dg_16 {m : Int} (h : 1 ≤ m ∧ m ≤ 65535) : 1 ≤ dg m ∧ dg m ≤ 16 := by
  unfold dg
  have h1 := digF_pos (f := 62) (n := m.toNat) (by omega)
  change 1 ≤ digF 63 m.toNat at h1
  have h2 := digF_lt 63 16 m.toNat (by show m.toNat < 65536; omega)
  omega
end Go.Proofs.Ytfkalbbdmlinlaa
