/- The plain law of the wheel. -/
import Derived.Test.YtabladeenemfoaaWg
set_option linter.unusedSimpArgs false
set_option linter.unusedVariables false
set_option maxHeartbeats 1000000
namespace Go.Proofs.Ytabladeenemfoaa
open Go.RowKit
@[reducible] def pr (t : Tm) : Int × Nat := (t.id, t.due)
theorem tput_iff {ts : List Tm} (hnd : (ts.map (·.id)).Nodup) (t x : Tm) : x ∈ tput ts t ↔ x = t ∨ (x ∈ ts ∧ x.id ≠ t.id) := by
  induction ts with
  | nil => simp [tput]
  | cons y l ih =>
    rw [List.map_cons, List.nodup_cons] at hnd
    have hy : ∀ z ∈ l, z.id ≠ y.id := fun z hz e => hnd.1 (by rw [← e]; exact List.mem_map_of_mem hz)
    unfold tput
    split
    · rename_i e
      simp only [List.mem_cons]
      constructor
      · rintro (h | h)
        · exact .inl h
        · exact .inr ⟨.inr h, by rw [e]; exact hy x h⟩
      · rintro (h | ⟨h | h, h2⟩)
        · exact .inl h
        · subst h; exact absurd e.symm h2
        · exact .inr h
    · rename_i e
      simp only [List.mem_cons, ih hnd.2]
      constructor
      · rintro (h | h | h)
        · subst h; exact .inr ⟨.inl rfl, fun e2 => e e2.symm⟩
        · exact .inl h
        · exact .inr ⟨.inr h.1, h.2⟩
      · rintro (h | ⟨h | h, h2⟩)
        · exact .inr (.inl h)
        · exact .inl h
        · exact .inr (.inr ⟨h, h2⟩)
theorem tdel_iff {ts : List Tm} (hnd : (ts.map (·.id)).Nodup) (k : Int) (x : Tm) : x ∈ tdel ts k ↔ x ∈ ts ∧ x.id ≠ k := by
  induction ts with
  | nil => simp [tdel]
  | cons y l ih =>
    rw [List.map_cons, List.nodup_cons] at hnd
    have hy : ∀ z ∈ l, z.id ≠ y.id := fun z hz e => hnd.1 (by rw [← e]; exact List.mem_map_of_mem hz)
    unfold tdel
    split
    · rename_i e
      simp only [List.mem_cons]
      constructor
      · exact fun h => ⟨.inr h, by rw [e]; exact hy x h⟩
      · rintro ⟨h | h, h2⟩
        · subst h; exact absurd e.symm h2
        · exact h
    · rename_i e
      simp only [List.mem_cons, ih hnd.2]
      constructor
      · rintro (h | h)
        · subst h; exact ⟨.inl rfl, fun e2 => e e2.symm⟩
        · exact ⟨.inr h.1, h.2⟩
      · rintro ⟨h | h, h2⟩
        · exact .inl h
        · exact .inr ⟨h, h2⟩
theorem tput_ids {ts : List Tm} {t : Tm} (h : t.id ∈ ts.map (·.id)) : (tput ts t).map (·.id) = ts.map (·.id) := by
  induction ts with
  | nil => cases h
  | cons y l ih =>
    unfold tput
    split
    · rename_i e
      rw [List.map_cons, List.map_cons, e]
    · rename_i e
      rw [List.map_cons, List.map_cons, ih]
      rw [List.map_cons, List.mem_cons] at h
      rcases h with h | h
      · exact absurd h e
      · exact h
theorem tput_new {ts : List Tm} {t : Tm} (h : t.id ∉ ts.map (·.id)) : tput ts t = ts ++ [t] := by
  induction ts with
  | nil => rfl
  | cons y l ih =>
    rw [List.map_cons, List.mem_cons, not_or] at h
    unfold tput
    rw [if_neg h.1, ih h.2]
    rfl
theorem tput_pr {ts : List Tm} {t u : Tm} (hu : tget ts t.id = some u) (hd : u.due = t.due) : (tput ts t).map pr = ts.map pr := by
  induction ts with
  | nil => cases hu
  | cons y l ih =>
    unfold tget at hu
    unfold tput
    split
    · rename_i e
      rw [if_pos e] at hu
      cases hu
      rw [List.map_cons, List.map_cons]
      simp only [pr, e, hd]
    · rename_i e
      rw [if_neg e] at hu
      rw [List.map_cons, List.map_cons, ih hu]
theorem tdel_sub (ts : List Tm) (k : Int) : (tdel ts k).Sublist ts := by
  induction ts with
  | nil => exact .slnil
  | cons y l ih =>
    unfold tdel
    split
    · exact List.sublist_cons_self ..
    · exact ih.cons_cons y
theorem tdel_pr {ts : List Tm} {k : Int} {u : Tm} (hu : tget ts k = some u) : (ts.map pr).Perm (pr u :: (tdel ts k).map pr) := by
  induction ts with
  | nil => cases hu
  | cons y l ih =>
    unfold tget at hu
    unfold tdel
    split
    · rename_i e
      rw [if_pos e] at hu
      cases hu
      exact .refl _
    · rename_i e
      rw [if_neg e] at hu
      exact ((ih hu).cons (pr y)).trans (.swap ..)
theorem tget_of {ts : List Tm} (hnd : (ts.map (·.id)).Nodup) {t : Tm} (h : t ∈ ts) : tget ts t.id = some t := by
  induction ts with
  | nil => cases h
  | cons y l ih =>
    rw [List.map_cons, List.nodup_cons] at hnd
    unfold tget
    rcases List.mem_cons.1 h with rfl | h
    · rw [if_pos rfl]
    · rw [if_neg (fun e => hnd.1 (by rw [← e]; exact List.mem_map_of_mem h)), ih hnd.2 h]
theorem tof_of {ts : List Tm} (hnd : (ts.map (·.id)).Nodup) {t : Tm} (h : t ∈ ts) : tof ts t.id = t := by
  unfold tof
  rw [tget_of hnd h]; rfl
theorem same_t {ts : List Tm} (hnd : (ts.map (·.id)).Nodup) {t u : Tm} (h : t ∈ ts) (hu : u ∈ ts) (e : t.id = u.id) : t = u := by
  have h1 := tget_of hnd h
  rw [e, tget_of hnd hu] at h1
  exact (Option.some.inj h1).symm
/-- Where a timer hangs rightly at tick n, when the rims from r on have been gone over. -/
def G (n r due rim at_ : Nat) : Prop := n ≤ due ∧ due ≤ n + 262144 ∧
  ((rim = 0 ∧ at_ = due % 64 ∧ (r = 0 → n < due ∧ due ≤ n + 64) ∧ (¬ r = 0 → n ≤ due ∧ due ≤ n + 63)) ∨
   (rim = 1 ∧ at_ = due / 64 % 64 ∧ (r ≤ 1 → n / 64 < due / 64 ∧ due / 64 ≤ n / 64 + 64) ∧ (¬ r ≤ 1 → (n - 1) / 64 < due / 64 ∧ due / 64 ≤ (n - 1) / 64 + 64)) ∨
   (rim = 2 ∧ at_ = due / 4096 % 64 ∧ (r ≤ 2 → n / 4096 < due / 4096 ∧ due / 4096 ≤ n / 4096 + 64) ∧ (¬ r ≤ 2 → (n - 1) / 4096 < due / 4096 ∧ due / 4096 ≤ (n - 1) / 4096 + 64)))
theorem G_lt {n r due rim at_ : Nat} (h : G n r due rim at_) : rim < 3 ∧ at_ < 64 := by
  unfold G at h
  omega
theorem G_zero {n due rim at_ : Nat} (h : G n 0 due rim at_) : n < due := by
  unfold G at h
  omega
/-- Same block of a rim. -/
def SB (r due n : Nat) : Prop := (r = 0 → due = n) ∧ (r = 1 → due / 64 = n / 64) ∧ (r = 2 → due / 4096 = n / 4096)
theorem where_new {n due : Nat} (h : n < due) (h2 : due ≤ n + 262144) : G n 0 due (wrim n due) (wat n due) := by
  unfold G wat wrim
  refine ⟨by omega, h2, ?_⟩
  by_cases h0 : due / 64 = n / 64
  · refine .inl ⟨by rw [if_pos h0], ?_, fun _ => by omega, fun h => absurd rfl h⟩
    rw [if_pos h0]
    show due / 1 % 64 = _
    rw [Nat.div_one]
  · rw [if_neg h0]
    by_cases h1 : due / 4096 = n / 4096
    · refine .inr (.inl ⟨by rw [if_pos h1], ?_, fun _ => by omega, fun h => absurd (by omega) h⟩)
      rw [if_pos h1]
    · refine .inr (.inr ⟨by rw [if_neg h1], ?_, fun _ => by omega, fun h => absurd (by omega) h⟩)
      rw [if_neg h1]
theorem where_blk (n due : Nat) : (wrim n due = 0 → due / 64 = n / 64) ∧ (wrim n due = 1 → due / 4096 = n / 4096) := by
  unfold wrim
  split
  · exact ⟨fun _ => by assumption, fun h => absurd h (by decide)⟩
  · split
    · exact ⟨fun h => absurd h (by decide), fun _ => by assumption⟩
    · exact ⟨fun h => absurd h (by decide), fun h => absurd h (by decide)⟩
theorem where_down {n r due : Nat} (hn1 : 1 ≤ n) (hr : r < 3) (hal : n % 2 ^ (6 * r) = 0) (h : n < due) (h2 : due ≤ n + 262144) (hs : SB r due n) : G n r due (wrim n due) (wat n due) := by
  have h0 := where_new h h2
  have hb := where_blk n due
  generalize wrim n due = rim at *
  generalize wat n due = at_ at *
  unfold G at *
  unfold SB at hs
  rcases (by omega : r = 0 ∨ r = 1 ∨ r = 2) with rfl | rfl | rfl
  · exact h0
  · rw [show 2 ^ (6 * 1) = 64 from rfl] at hal
    omega
  · rw [show 2 ^ (6 * 2) = 4096 from rfl] at hal
    omega
theorem slot_inj {r a r' a' : Nat} (ha : a < 64) (ha' : a' < 64) (h : slot r a = slot r' a') : r = r' ∧ a = a' := by
  unfold slot at h
  omega
theorem G_at {n r due rim at_ : Nat} (hn1 : 1 ≤ n) (hr : r < 3) (hal : n % 2 ^ (6 * r) = 0) (h : G n (r + 1) due rim at_) (hs : slot rim at_ = slot r (n / 2 ^ (6 * r) % 64)) : SB r due n := by
  obtain ⟨e1, e2⟩ := slot_inj (G_lt h).2 (Nat.mod_lt _ (by decide)) hs
  subst e1
  unfold G at h
  unfold SB
  rcases (by omega : rim = 0 ∨ rim = 1 ∨ rim = 2) with rfl | rfl | rfl
  · rw [show 2 ^ (6 * 0) = 1 from rfl, Nat.div_one] at e2
    omega
  · rw [show 2 ^ (6 * 1) = 64 from rfl] at e2 hal
    omega
  · rw [show 2 ^ (6 * 2) = 4096 from rfl] at e2 hal
    omega
theorem G_rest {n r due rim at_ : Nat} (hr : r < 3) (hal : n % 2 ^ (6 * r) = 0) (h : G n (r + 1) due rim at_) (hs : ¬ slot rim at_ = slot r (n / 2 ^ (6 * r) % 64)) : G n r due rim at_ := by
  unfold slot at hs
  unfold G at *
  rcases (by omega : r = 0 ∨ r = 1 ∨ r = 2) with rfl | rfl | rfl
  · rw [show 2 ^ (6 * 0) = 1 from rfl, Nat.div_one] at hs
    omega
  · rw [show 2 ^ (6 * 1) = 64 from rfl] at hs hal
    omega
  · rw [show 2 ^ (6 * 2) = 4096 from rfl] at hs hal
    omega
theorem G_skip {n r due rim at_ : Nat} (hr : r < 3) (hal : ¬ n % 2 ^ (6 * r) = 0) (h : G n (r + 1) due rim at_) : G n r due rim at_ := by
  unfold G at *
  rcases (by omega : r = 0 ∨ r = 1 ∨ r = 2) with rfl | rfl | rfl
  · rw [show 2 ^ (6 * 0) = 1 from rfl] at hal
    omega
  · rw [show 2 ^ (6 * 1) = 64 from rfl] at hal
    omega
  · rw [show 2 ^ (6 * 2) = 4096 from rfl] at hal
    omega
theorem G_start {n due rim at_ : Nat} (h : G n 0 due rim at_) : G (n + 1) 3 due rim at_ := by
  unfold G at *
  rw [show n + 1 - 1 = n from rfl]
  omega
def In (ls : List (List Int)) (j : Nat) (i : Int) : Prop := ∃ l, ls[j]? = some l ∧ i ∈ l
theorem in_clear {ls : List (List Int)} {q j : Nat} {i : Int} : In (upd (fun _ => []) q ls) j i ↔ In ls j i ∧ j ≠ q := by
  unfold In
  constructor
  · rintro ⟨l, h1, h2⟩
    cases e : ls[j]? with
    | none => rw [List.getElem?_eq_none (by rw [upd_len]; exact List.getElem?_eq_none_iff.1 e)] at h1; cases h1
    | some l0 =>
      rw [upd_get e] at h1
      by_cases hq : q = j
      · rw [if_pos hq] at h1
        cases h1; cases h2
      · rw [if_neg hq] at h1
        cases h1
        exact ⟨⟨_, rfl, h2⟩, fun e => hq e.symm⟩
  · rintro ⟨⟨l, h1, h2⟩, hq⟩
    exact ⟨l, by rw [upd_get h1, if_neg (fun e => hq e.symm)], h2⟩
theorem in_add {ls : List (List Int)} {q j : Nat} {i k : Int} (hq : q < ls.length) : In (upd (fun l => l ++ [k]) q ls) j i ↔ In ls j i ∨ (j = q ∧ i = k) := by
  unfold In
  constructor
  · rintro ⟨l, h1, h2⟩
    cases e : ls[j]? with
    | none => rw [List.getElem?_eq_none (by rw [upd_len]; exact List.getElem?_eq_none_iff.1 e)] at h1; cases h1
    | some l0 =>
      rw [upd_get e] at h1
      by_cases hq : q = j
      · rw [if_pos hq] at h1
        cases h1
        rcases List.mem_append.1 h2 with h2 | h2
        · exact .inl ⟨_, rfl, h2⟩
        · exact .inr ⟨hq.symm, by simpa using h2⟩
      · rw [if_neg hq] at h1
        cases h1
        exact .inl ⟨_, rfl, h2⟩
  · rintro (⟨l, h1, h2⟩ | ⟨rfl, rfl⟩)
    · by_cases hq : q = j
      · exact ⟨l ++ [k], by rw [upd_get h1, if_pos hq], List.mem_append_left _ h2⟩
      · exact ⟨l, by rw [upd_get h1, if_neg hq], h2⟩
    · exact ⟨ls[j] ++ [i], by rw [upd_get (List.getElem?_eq_getElem hq), if_pos rfl], by simp⟩
theorem in_del {ls : List (List Int)} {q j : Nat} {i k : Int} : In (upd (nid k) q ls) j i ↔ In ls j i ∧ ¬ (j = q ∧ i = k) := by
  unfold In
  constructor
  · rintro ⟨l, h1, h2⟩
    cases e : ls[j]? with
    | none => rw [List.getElem?_eq_none (by rw [upd_len]; exact List.getElem?_eq_none_iff.1 e)] at h1; cases h1
    | some l0 =>
      rw [upd_get e] at h1
      by_cases hq : q = j
      · rw [if_pos hq] at h1
        cases h1
        have h3 := List.mem_filter.1 h2
        exact ⟨⟨_, rfl, h3.1⟩, fun h => by simpa [h.2] using h3.2⟩
      · rw [if_neg hq] at h1
        cases h1
        exact ⟨⟨_, rfl, h2⟩, fun h => hq h.1.symm⟩
  · rintro ⟨⟨l, h1, h2⟩, h3⟩
    by_cases hq : q = j
    · exact ⟨nid k l, by rw [upd_get h1, if_pos hq], List.mem_filter.2 ⟨h2, by simpa using fun e => h3 ⟨hq.symm, e⟩⟩⟩
    · exact ⟨l, by rw [upd_get h1, if_neg hq], h2⟩
end Go.Proofs.Ytabladeenemfoaa
