/- What the document's table does, in plain words; and that the program's table, found by its places, does the same. -/
import Derived.Test.YtdoinfpkfbfjaaaP
set_option linter.unusedSimpArgs false
set_option linter.unusedVariables false
namespace Go.Proofs.Ytdoinfpkfbfjaaa
open Go.RowKit
def getF (rows : List Tr) (key : List UInt8) : Tr × Bool := match rows.find? (fun r => decide (r.k = key)) with
  | some r => (r, true)
  | none => (zr, false)
def putF (r : Tr) : Bool → List Tr → List Tr
  | laid, [] => if laid = true then [] else [r]
  | laid, x :: xs => if x.k = r.k then r :: putF r true xs else if laid = false ∧ r.k < x.k then r :: x :: putF r true xs else x :: putF r laid xs
def dropF (key : List UInt8) (rows : List Tr) : List Tr := rows.filter fun r => decide (¬ r.k = key)
def putS (most last : Int) (rows : List Tr) (key : List UInt8) (x ix : Int) : Tr × Int × List Tr × Int :=
  if (getF rows key).2 = false ∧ most ≤ rows.length then (zr, 5, rows, last)
  else (⟨key, x, if (getF rows key).2 = true then (getF rows key).1.m else ix, ix⟩, 0, putF ⟨key, x, if (getF rows key).2 = true then (getF rows key).1.m else ix, ix⟩ false rows, max last ix)
def dropS (last : Int) (rows : List Tr) (key : List UInt8) (ix : Int) : Bool × List Tr × Int :=
  if (getF rows key).2 = false then (false, rows, last) else (true, dropF key rows, max last ix)
theorem putF_eq {r x : Tr} {xs : List Tr} {laid : Bool} (h : x.k = r.k) : putF r laid (x :: xs) = r :: putF r true xs := if_pos h
theorem putF_gt {r x : Tr} {xs : List Tr} (h : ¬ x.k = r.k) (h2 : r.k < x.k) : putF r false (x :: xs) = r :: x :: putF r true xs := (if_neg h).trans (if_pos ⟨rfl, h2⟩)
theorem putF_lt {r x : Tr} {xs : List Tr} {laid : Bool} (h : ¬ x.k = r.k) (h2 : laid = true ∨ ¬ r.k < x.k) : putF r laid (x :: xs) = x :: putF r laid xs := (if_neg h).trans (if_neg (by rintro ⟨h3, h4⟩; rcases h2 with h2 | h2 <;> simp_all))
theorem getF_cons (x : Tr) (xs : List Tr) (key : List UInt8) : getF (x :: xs) key = if x.k = key then (x, true) else getF xs key := by
  unfold getF
  by_cases e : x.k = key
  · rw [List.find?_cons_of_pos (by simpa using e), if_pos e]
  · rw [List.find?_cons_of_neg (by simpa using e), if_neg e]
theorem getF_none {rows : List Tr} {key : List UInt8} (h : ∀ r ∈ rows, ¬ r.k = key) : getF rows key = (zr, false) := by
  unfold getF
  rw [List.find?_eq_none.2 (fun r hr => by simpa using h r hr)]
theorem getF_app {a b : List Tr} {key : List UInt8} (h : ∀ r ∈ a, ¬ r.k = key) : getF (a ++ b) key = getF b key := by
  induction a with
  | nil => rfl
  | cons x a ih => rw [List.cons_append, getF_cons, if_neg (h x List.mem_cons_self), ih (fun r hr => h r (List.mem_cons_of_mem _ hr))]
theorem putF_low {r : Tr} {b : List Tr} : ∀ {a : List Tr}, (∀ x ∈ a, x.k < r.k) → putF r false (a ++ b) = a ++ putF r false b
  | [], _ => rfl
  | x :: a, h => by
    have hx := h x List.mem_cons_self
    rw [List.cons_append, putF_lt (fun e => lt_irr _ (e ▸ hx)) (.inr (lt_asym hx)), putF_low (fun y hy => h y (List.mem_cons_of_mem _ hy))]
    rfl
theorem putF_done {r : Tr} : ∀ {b : List Tr}, (∀ x ∈ b, r.k < x.k) → putF r true b = b
  | [], _ => rfl
  | x :: b, h => by
    have hx := h x List.mem_cons_self
    rw [putF_lt (fun e => lt_irr _ (e ▸ hx)) (.inl rfl), putF_done (fun y hy => h y (List.mem_cons_of_mem _ hy))]
theorem putF_high {r : Tr} {b : List Tr} (h : ∀ x ∈ b, r.k < x.k) : putF r false b = r :: b := by
  cases b with
  | nil => rfl
  | cons x b =>
    have hx := h x List.mem_cons_self
    rw [putF_gt (fun e => lt_irr _ (e ▸ hx)) hx, putF_done (fun y hy => h y (List.mem_cons_of_mem _ hy))]
theorem dropF_app (key : List UInt8) (a b : List Tr) : dropF key (a ++ b) = dropF key a ++ dropF key b := List.filter_append ..
theorem dropF_none {key : List UInt8} {rows : List Tr} (h : ∀ r ∈ rows, ¬ r.k = key) : dropF key rows = rows := List.filter_eq_self.2 fun r hr => by simpa using h r hr
theorem eqStr' (a b : List UInt8) : ((⟨a.toArray⟩ : ByteArray) == ⟨b.toArray⟩) = decide (a = b) := by
  rw [beqB]
  by_cases h : a = b
  · simp [h]
  · rw [decide_eq_false h, decide_eq_false (fun e => h (by simpa using e))]
theorem drop_at {α : Type} {ys : List α} {i : Nat} {y : α} (h : ys[i]? = some y) : ys.drop i = y :: ys.drop (i + 1) := by
  obtain ⟨hi, rfl⟩ := List.getElem?_eq_some_iff.1 h
  exact List.drop_eq_getElem_cons hi
theorem cut_at {rows : List Tr} {k : Nat} (h : k < rows.length) : rows = rows.take k ++ rows.getD k zr :: rows.drop (k + 1) := by
  have e : rows.getD k zr = rows[k] := by simp [h]
  rw [e, List.getElem_cons_drop h, List.take_append_drop]
theorem above_t {rows : List Tr} {key : List UInt8} {k : Nat} (h : Asc rows) (hf : FoundAt rows key k true) {r : Tr} (hr : r ∈ rows.drop (k + 1)) : key < r.k := by
  obtain ⟨j, hj⟩ := List.getElem?_of_mem hr
  rw [List.getElem?_drop] at hj
  have hlt := (List.getElem?_eq_some_iff.1 hj).1
  have e : rows.getD (k + 1 + j) zr = r := by simp [hj]
  rw [← e, ← (hf.2.2.2.1 rfl).2]
  exact asc_get h (by omega) hlt
section
variable {rows : List Tr} {key : List UInt8} {k : Nat} {fd : Bool}
theorem found_get (h : Asc rows) (hf : FoundAt rows key k fd) : getF rows key = (if fd = true then rows.getD k zr else zr, fd) := by
  cases fd with
  | true =>
    obtain ⟨hk, hke⟩ := hf.2.2.2.1 rfl
    rw [if_pos rfl]
    conv => lhs; rw [cut_at hk]
    rw [getF_app (fun r hr e => lt_irr _ (e ▸ below h hf hr)), getF_cons, if_pos hke]
  | false =>
    rw [if_neg (by decide)]
    conv => lhs; rw [← List.take_append_drop k rows]
    refine getF_none fun r hr e => ?_
    rcases List.mem_append.1 hr with hr | hr
    · exact lt_irr _ (e ▸ below h hf hr)
    · exact lt_irr _ (e ▸ above h hf hr)
theorem found_put (h : Asc rows) (hf : FoundAt rows key k fd) {r : Tr} (hr : r.k = key) : putF { r with m := if fd = true then (rows.getD k zr).m else r.m } false rows = putR rows k fd r := by
  cases fd with
  | true =>
    obtain ⟨hk, hke⟩ := hf.2.2.2.1 rfl
    rw [if_pos rfl]
    unfold putR
    rw [if_pos rfl]
    generalize (rows.getD k zr).m = mm
    conv => lhs; rw [cut_at hk]
    rw [putF_low (fun x hx => by dsimp only; rw [hr]; exact below h hf hx), putF_eq (by dsimp only; rw [hr]; exact hke), putF_done (fun x hx => by dsimp only; rw [hr]; exact above_t h hf hx)]
    rw [List.set_eq_take_append_cons_drop, if_pos hk]
  | false =>
    rw [if_neg (by decide)]
    unfold putR
    rw [if_neg (by decide)]
    conv => lhs; rw [← List.take_append_drop k rows]
    rw [putF_low (fun x hx => by rw [hr]; exact below h hf hx), putF_high (fun x hx => by rw [hr]; exact above h hf hx), List.append_assoc]
    rfl
theorem found_drop (h : Asc rows) (hf : FoundAt rows key k true) : dropF key rows = rows.eraseIdx k := by
  obtain ⟨hk, hke⟩ := hf.2.2.2.1 rfl
  conv => lhs; rw [cut_at hk]
  rw [dropF_app, dropF_none (fun r hr e => lt_irr _ (e ▸ below h hf hr)), List.eraseIdx_eq_take_drop_succ]
  congr 1
  unfold dropF
  rw [List.filter_cons_of_neg (by simpa using hke)]
  exact dropF_none (fun r hr e => lt_irr _ (e ▸ above_t h hf hr))
end
/-- The program's table, told as the document tells its own. -/
def Tab (w w' : World) (b : Nat) (B : List (Nat × Obj)) (most last : Int) (rows : List Tr) (v : Value) (B' : List (Nat × Obj)) : Prop :=
  Sl 30 4 v (rows.map tr) B' ∧ St w (b :: B.map Prod.fst) ((b, C 58 (tc most v last)) :: B') w'
section
variable {b : Nat} {most last : Int} {v : Value} {rows : List Tr} {B : List (Nat × Obj)} {w : World}
theorem put_tab (key : List UInt8) (x ix : Int) (ha : Asc rows) (hsl : Sl 30 4 v (rows.map tr) B) (hl : rows.length ≤ 100000) (hown : Own w ((b, C 58 (tc most v last)) :: B)) (hm : ¬ most = 0) :
    Ret Try.prog 9 #[.pointer (some ⟨b, 0, none⟩), str key, .int .i64 x, .int .u64 ix] w fun u w' => u = .tuple #[rv (putS most last rows key x ix).1, .int .i64 (putS most last rows key x ix).2.1] ∧
      ∃ v' B', Tab w w' b B most (putS most last rows key x ix).2.2.2 (putS most last rows key x ix).2.2.1 v' B' := by
  refine Ret.mono (put_any key x ix hsl hl hown hm) ?_
  rintro u w' ⟨k, fd, hfd, ⟨rfl, hle, rfl, h⟩ | ⟨hlt, rfl, v', B', hsl', h⟩⟩
  · have e : putS most last rows key x ix = (zr, 5, rows, last) := if_pos ⟨by rw [found_get ha hfd], hle⟩
    rw [e]
    exact ⟨rfl, v, B, hsl, St.callN (St.init hown) h⟩
  · have hg := found_get ha hfd
    have hp := found_put ha hfd (r := ⟨key, x, ix, ix⟩) rfl
    have e : putS most last rows key x ix = (putV rows k fd ⟨key, x, ix, ix⟩, 0, putR rows k fd ⟨key, x, ix, ix⟩, max last ix) := by
      unfold putS
      rw [if_neg (by rw [hg]; rintro ⟨e1, e2⟩; rcases hlt with h1 | h1 <;> simp_all <;> omega), hg]
      dsimp only at hp ⊢
      cases fd with
      | true => rw [if_pos rfl, if_pos rfl] at *; rw [hp]; rfl
      | false => rw [if_neg (by decide)] at *; rw [hp]; rfl
    rw [e]
    exact ⟨rfl, v', B', hsl', h⟩
theorem drop_tab (key : List UInt8) (ix : Int) (ha : Asc rows) (hsl : Sl 30 4 v (rows.map tr) B) (hl : rows.length ≤ 100000) (hown : Own w ((b, C 58 (tc most v last)) :: B)) (hm : ¬ most = 0) :
    Ret Try.prog 8 #[.pointer (some ⟨b, 0, none⟩), str key, .int .u64 ix] w fun u w' => u = .bool (dropS last rows key ix).1 ∧
      ∃ v' B', Tab w w' b B most (dropS last rows key ix).2.2 (dropS last rows key ix).2.1 v' B' := by
  refine Ret.mono (drop_any key ix hsl hl hown hm) ?_
  rintro u w' ⟨k, fd, hfd, rfl, ⟨rfl, h⟩ | ⟨rfl, v', B', hsl', h⟩⟩
  · have e : dropS last rows key ix = (false, rows, last) := if_pos (by rw [found_get ha hfd])
    rw [e]
    exact ⟨rfl, v, B, hsl, St.callN (St.init hown) h⟩
  · have e : dropS last rows key ix = (true, rows.eraseIdx k, max last ix) := by
      unfold dropS
      rw [if_neg (by rw [found_get ha hfd]; simp), found_drop ha hfd]
    rw [e]
    exact ⟨rfl, v', B', hsl', h⟩
theorem get_tab (key : List UInt8) (ha : Asc rows) (hsl : Sl 30 4 v (rows.map tr) B) (hl : rows.length ≤ 1000000) (hown : Own w ((b, C 58 (tc most v last)) :: B)) (hm : ¬ most = 0) :
    Ret Try.prog 16 #[.pointer (some ⟨b, 0, none⟩), str key] w fun u w' => u = .tuple #[rv (getF rows key).1, .bool (getF rows key).2] ∧ St w [] [] w' := by
  refine Ret.mono (get_any key hsl hl hown hm) ?_
  rintro u w' ⟨k, fd, hfd, rfl, h⟩
  rw [found_get ha hfd]
  exact ⟨rfl, h⟩
end
theorem asc_putS {most last x ix : Int} {rows : List Tr} {key : List UInt8} {k : Nat} {fd : Bool} (ha : Asc rows) (hfd : FoundAt rows key k fd) : Asc (putS most last rows key x ix).2.2.1 := by
  unfold putS
  split
  · exact ha
  · have hg := found_get ha hfd
    have hp := found_put ha hfd (r := ⟨key, x, ix, ix⟩) rfl
    rw [hg]
    dsimp only at hp ⊢
    cases fd with
    | true => rw [if_pos rfl, if_pos rfl] at *; rw [hp]; exact asc_put ha hfd rfl
    | false => rw [if_neg (by decide)] at *; rw [hp]; exact asc_put ha hfd rfl
/-- A place for each key. -/
theorem found_ex {rows : List Tr} (ha : Asc rows) (key : List UInt8) : ∃ k fd, FoundAt rows key k fd := by
  induction rows with
  | nil => exact ⟨0, false, Nat.le_refl _, fun h => by omega, fun h => by simp at h, by simp⟩
  | cons r rows ih =>
    have ha2 : Asc rows := (List.pairwise_cons.1 ha).2
    have hr := (List.pairwise_cons.1 ha).1
    rcases lt_tri r.k key with h | h | h
    · obtain ⟨k, fd, h1, h2, h3, h4⟩ := ih ha2
      refine ⟨k + 1, fd, by simpa using h1, fun _ => ?_, fun hk => ?_, ?_⟩
      · rcases Nat.eq_zero_or_pos k with h0 | h0
        · subst h0; simpa using h
        · have := h2 h0
          rw [show k + 1 - 1 = (k - 1) + 1 by omega]
          simpa using this
      · have := h3 (by simpa using hk)
        simpa using this
      · simpa using h4
    · exact ⟨0, true, Nat.zero_le _, fun h => by omega, fun _ => by simp [h], by simp [h]⟩
    · refine ⟨0, false, Nat.zero_le _, fun h => by omega, fun _ => by simpa using lt_asym h, ?_⟩
      simp only [Bool.false_eq_true, List.length_cons, Nat.zero_lt_succ, List.getD_cons_zero, true_and, false_iff]
      intro e
      exact lt_irr _ (e ▸ h)
theorem asc_putS' {most last x ix : Int} {rows : List Tr} {key : List UInt8} (ha : Asc rows) : Asc (putS most last rows key x ix).2.2.1 := by
  obtain ⟨k, fd, h⟩ := found_ex ha key
  exact asc_putS ha h
theorem asc_dropS {last ix : Int} {rows : List Tr} {key : List UInt8} (ha : Asc rows) : Asc (dropS last rows key ix).2.1 := by
  unfold dropS
  split
  · exact ha
  · exact List.Pairwise.sublist List.filter_sublist ha
theorem putF_len (r : Tr) (rows : List Tr) : ∀ laid, (putF r laid rows).length ≤ rows.length + 1 ∧ (laid = true → (putF r laid rows).length ≤ rows.length) := by
  induction rows with
  | nil => intro laid; unfold putF; cases laid <;> simp
  | cons x xs ih =>
    intro laid
    unfold putF
    have h1 := ih true
    have h2 := ih laid
    split
    · simp only [List.length_cons]; exact ⟨by omega, fun _ => by have := h1.2 rfl; omega⟩
    · split
      · rename_i h
        simp only [List.length_cons]
        exact ⟨by have := h1.2 rfl; omega, fun e => by rw [h.1] at e; cases e⟩
      · simp only [List.length_cons]; exact ⟨by omega, fun e => by have := h2.2 e; omega⟩
theorem putF_mem {r x : Tr} {rows : List Tr} : ∀ {laid : Bool}, x ∈ putF r laid rows → x = r ∨ x ∈ rows := by
  induction rows with
  | nil => intro laid h; unfold putF at h; cases laid <;> simp at h; exact .inl h
  | cons y ys ih =>
    intro laid h
    unfold putF at h
    split at h
    · rcases List.mem_cons.1 h with h | h
      · exact .inl h
      · exact (ih h).imp id (List.mem_cons_of_mem _)
    · split at h
      · rcases List.mem_cons.1 h with h | h
        · exact .inl h
        · rcases List.mem_cons.1 h with h | h
          · exact .inr (h ▸ List.mem_cons_self)
          · exact (ih h).imp id (List.mem_cons_of_mem _)
      · rcases List.mem_cons.1 h with h | h
        · exact .inr (h ▸ List.mem_cons_self)
        · exact (ih h).imp id (List.mem_cons_of_mem _)
def KeyB (rows : List Tr) : Prop := ∀ r ∈ rows, r.k.length ≤ 9223372036854775807
theorem keyb_putS {most last x ix : Int} {rows : List Tr} {key : List UInt8} (h : KeyB rows) (hk : key.length ≤ 9223372036854775807) : KeyB (putS most last rows key x ix).2.2.1 := by
  unfold putS
  split
  · exact h
  · intro r hr
    rcases putF_mem hr with rfl | hr
    · exact hk
    · exact h r hr
theorem keyb_dropS {last ix : Int} {rows : List Tr} {key : List UInt8} (h : KeyB rows) : KeyB (dropS last rows key ix).2.1 := by
  unfold dropS
  split
  · exact h
  · exact fun r hr => h r ((List.mem_filter.1 hr).1)
/-- A row that is there already stays where it is. -/
theorem putF_has {r : Tr} {rows : List Tr} (ha : Asc rows) (h : (getF rows r.k).2 = true) : (putF r false rows).length = rows.length := by
  obtain ⟨k, fd, hf⟩ := found_ex ha r.k
  rw [found_get ha hf] at h
  dsimp only at h
  subst h
  obtain ⟨hk, hke⟩ := hf.2.2.2.1 rfl
  conv => lhs; rw [cut_at hk]
  rw [putF_low (fun x hx => below ha hf hx), putF_eq hke, putF_done (fun x hx => above_t ha hf hx)]
  simp
  omega
theorem len_putS {most last x ix : Int} {rows : List Tr} {key : List UInt8} (ha : Asc rows) (h : (rows.length : Int) ≤ most) : ((putS most last rows key x ix).2.2.1.length : Int) ≤ most := by
  unfold putS
  split
  · exact h
  · rename_i hn
    dsimp only
    by_cases hg : (getF rows key).2 = true
    · rw [putF_has ha hg]; exact h
    · have := (putF_len ⟨key, x, if (getF rows key).2 = true then (getF rows key).1.m else ix, ix⟩ rows false).1
      have hg' : (getF rows key).2 = false := by simpa using hg
      have h2 : ¬ most ≤ rows.length := fun e => hn ⟨hg', e⟩
      omega
theorem len_dropS {last ix : Int} {rows : List Tr} {key : List UInt8} : (dropS last rows key ix).2.1.length ≤ rows.length := by
  unfold dropS
  split
  · exact Nat.le_refl _
  · exact List.length_filter_le ..
end Go.Proofs.Ytdoinfpkfbfjaaa
