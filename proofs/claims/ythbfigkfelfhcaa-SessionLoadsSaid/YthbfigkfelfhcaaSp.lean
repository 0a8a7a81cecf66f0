/- Sessions, in plain words; and the rows in which they are kept. -/
import Derived.Test.YthbfigkfelfhcaaKy
set_option linter.unusedSimpArgs false
set_option linter.unusedVariables false
namespace Go.Proofs.Ythbfigkfelfhcaa
open Go.RowKit
/-- Sessions by their numbers rising. -/
def WfS (ss : List Ses) : Prop := ss.Pairwise (fun a b => a.id < b.id) ∧ ∀ x ∈ ss, (1 ≤ x.id ∧ x.id < 18446744073709551616) ∧ x.m = x.id ∧ x.x = x.id
def rowOf (x : Ses) : Tr := ⟨keyOf x.id, ⟨x.id, x.nd, 0, 0⟩, x.id, x.id⟩
def zs : Ses := ⟨0, 0, 0, 0⟩
@[reducible] def sc (x : Ses) : List Value := [.int .u64 x.id, .int .i64 x.nd, .int .u64 x.m, .int .u64 x.x]
@[reducible] def sv (x : Ses) : Value := .agg #[.int .u64 x.id, .int .i64 x.nd, .int .u64 x.m, .int .u64 x.x]
def sget : List Ses → Int → Ses × Bool
  | [], _ => (zs, false)
  | x :: xs, id => if x.id = id then (x, true) else sget xs id
theorem sget_cons (x : Ses) (xs : List Ses) (id : Int) : sget (x :: xs) id = if x.id = id then (x, true) else sget xs id := rfl
def insS (x : Ses) : Bool → List Ses → List Ses
  | laid, [] => if laid = true then [] else [x]
  | laid, y :: ys => if laid = false ∧ x.id < y.id then x :: y :: insS x true ys else y :: insS x laid ys
def delS (id : Int) (ss : List Ses) : List Ses := ss.filter fun x => decide (¬ x.id = id)
theorem WfS.tail {x : Ses} {ss : List Ses} (h : WfS (x :: ss)) : WfS ss := ⟨(List.pairwise_cons.1 h.1).2, fun y hy => h.2 y (List.mem_cons_of_mem _ hy)⟩
theorem rowOf_k {x : Ses} {id : Int} (hx : 1 ≤ x.id ∧ x.id < 18446744073709551616) (hid : 0 ≤ id ∧ id < 18446744073709551616) : (rowOf x).k = keyOf id ↔ x.id = id := ⟨fun h => key_inj ⟨by omega, hx.2⟩ hid h, fun h => by show keyOf x.id = keyOf id; rw [h]⟩
theorem asc_rows {ss : List Ses} (h : WfS ss) : Asc (ss.map rowOf) := by
  unfold Asc
  rw [List.pairwise_map]
  refine List.Pairwise.imp_of_mem (fun {a b} ha hb hab => ?_) h.1
  have := h.2 a ha
  have := h.2 b hb
  exact key_lt (by omega) hab (by omega)
theorem getF_rows {ss : List Ses} (h : WfS ss) {id : Int} (hid : 0 ≤ id ∧ id < 18446744073709551616) : getF (ss.map rowOf) (keyOf id) = (if (sget ss id).2 = true then rowOf (sget ss id).1 else zr, (sget ss id).2) := by
  induction ss with
  | nil => rfl
  | cons x ss ih =>
    have hx := (h.2 x List.mem_cons_self).1
    rw [List.map_cons, getF_cons]
    unfold sget
    by_cases e : x.id = id
    · rw [if_pos ((rowOf_k hx hid).2 e), if_pos e]
      rfl
    · rw [if_neg (fun h => e ((rowOf_k hx hid).1 h)), if_neg e]
      exact ih h.tail
theorem sget_mem {ss : List Ses} {id : Int} (h : (sget ss id).2 = true) : (sget ss id).1 ∈ ss ∧ (sget ss id).1.id = id := by
  induction ss with
  | nil => cases h
  | cons x ss ih =>
    rw [sget_cons] at h ⊢
    by_cases e : x.id = id
    · rw [if_pos e]; exact ⟨List.mem_cons_self, e⟩
    · rw [if_neg e] at h ⊢
      exact ⟨List.mem_cons_of_mem _ (ih h).1, (ih h).2⟩
theorem sget_no {ss : List Ses} {id : Int} (h : (sget ss id).2 = false) : (sget ss id).1 = zs ∧ ∀ x ∈ ss, ¬ x.id = id := by
  induction ss with
  | nil => exact ⟨rfl, fun x hx => by cases hx⟩
  | cons x ss ih =>
    rw [sget_cons] at h ⊢
    by_cases e : x.id = id
    · rw [if_pos e] at h; cases h
    · rw [if_neg e] at h ⊢
      refine ⟨(ih h).1, fun y hy => ?_⟩
      rcases List.mem_cons.1 hy with rfl | hy
      · exact e
      · exact (ih h).2 y hy
theorem sget_at {ss : List Ses} (h : WfS ss) {x : Ses} (hx : x ∈ ss) : sget ss x.id = (x, true) := by
  induction ss with
  | nil => cases hx
  | cons y ss ih =>
    unfold sget
    rcases List.mem_cons.1 hx with rfl | hx
    · rw [if_pos rfl]
    · have := (List.pairwise_cons.1 h.1).1 x hx
      rw [if_neg (by omega)]
      exact ih h.tail hx
theorem putF_rows {x : Ses} (hx : 1 ≤ x.id ∧ x.id < 18446744073709551616) : ∀ {ss : List Ses}, WfS ss → (∀ y ∈ ss, ¬ y.id = x.id) → ∀ laid, putF (rowOf x) laid (ss.map rowOf) = (insS x laid ss).map rowOf
  | [], _, _, laid => by cases laid <;> rfl
  | y :: ss, h, hn, laid => by
    have hy := (h.2 y List.mem_cons_self).1
    have hne : ¬ (rowOf y).k = (rowOf x).k := fun e => hn y List.mem_cons_self ((rowOf_k hy (id := x.id) ⟨by omega, hx.2⟩).1 e)
    have hlt : (rowOf x).k < (rowOf y).k ↔ x.id < y.id := ⟨fun e => by
      rcases Int.lt_trichotomy x.id y.id with h1 | h1 | h1
      · exact h1
      · exact absurd h1.symm (hn y List.mem_cons_self)
      · exact absurd (key_lt (by omega) h1 hx.2) (lt_asym e), fun e => key_lt (by omega) e hy.2⟩
    rw [List.map_cons]
    have ih := putF_rows hx h.tail (fun z hz => hn z (List.mem_cons_of_mem _ hz))
    unfold insS
    by_cases e : laid = false ∧ x.id < y.id
    · rw [if_pos e, e.1, putF_gt hne (hlt.2 e.2), ih]
      rfl
    · rw [if_neg e, putF_lt hne, ih]
      · rfl
      · cases laid with
        | true => exact .inl rfl
        | false => exact .inr (fun h => e ⟨rfl, hlt.1 h⟩)
theorem dropF_rows {ss : List Ses} (h : WfS ss) {id : Int} (hid : 0 ≤ id ∧ id < 18446744073709551616) : dropF (keyOf id) (ss.map rowOf) = (delS id ss).map rowOf := by
  induction ss with
  | nil => rfl
  | cons x ss ih =>
    have hx := (h.2 x List.mem_cons_self).1
    have ih := ih h.tail
    unfold dropF delS at *
    rw [List.map_cons]
    by_cases e : x.id = id
    · rw [List.filter_cons_of_neg (by simpa using (rowOf_k hx hid).2 e), List.filter_cons_of_neg (by simpa using e)]
      exact ih
    · rw [List.filter_cons_of_pos (by simpa using fun h => e ((rowOf_k hx hid).1 h)), List.filter_cons_of_pos (by simpa using e), List.map_cons, ih]
theorem insS_mem {x y : Ses} : ∀ {ss : List Ses} {laid : Bool}, y ∈ insS x laid ss → y = x ∨ y ∈ ss
  | [], laid, h => by cases laid <;> simp [insS] at h; exact .inl h
  | z :: ss, laid, h => by
    unfold insS at h
    split at h
    · rcases List.mem_cons.1 h with h | h
      · exact .inl h
      · rcases List.mem_cons.1 h with h | h
        · exact .inr (h ▸ List.mem_cons_self)
        · exact (insS_mem h).imp id (List.mem_cons_of_mem _)
    · rcases List.mem_cons.1 h with h | h
      · exact .inr (h ▸ List.mem_cons_self)
      · exact (insS_mem h).imp id (List.mem_cons_of_mem _)
theorem insS_true (x : Ses) : ∀ ss : List Ses, insS x true ss = ss
  | [] => rfl
  | y :: ss => by unfold insS; rw [if_neg (by simp), insS_true x ss]
theorem insS_wf {x : Ses} (hx : (1 ≤ x.id ∧ x.id < 18446744073709551616) ∧ x.m = x.id ∧ x.x = x.id) : ∀ {ss : List Ses}, WfS ss → (∀ y ∈ ss, ¬ y.id = x.id) → WfS (insS x false ss)
  | [], _, _ => ⟨List.pairwise_singleton _ _, fun y hy => by simp [insS] at hy; subst hy; exact hx⟩
  | y :: ss, h, hn => by
    have hy := h.2 y List.mem_cons_self
    have hlt := (List.pairwise_cons.1 h.1).1
    unfold insS
    split
    · rename_i e
      rw [insS_true]
      refine ⟨List.pairwise_cons.2 ⟨fun z hz => ?_, h.1⟩, fun z hz => ?_⟩
      · rcases List.mem_cons.1 hz with rfl | hz
        · exact e.2
        · have := hlt z hz; omega
      · rcases List.mem_cons.1 hz with rfl | hz
        · exact hx
        · exact h.2 z hz
    · rename_i e
      have hyx : y.id < x.id := by
        have := hn y List.mem_cons_self
        have h2 : ¬ x.id < y.id := fun h => e ⟨rfl, h⟩
        omega
      have ih := insS_wf hx h.tail (fun z hz => hn z (List.mem_cons_of_mem _ hz))
      refine ⟨List.pairwise_cons.2 ⟨fun z hz => ?_, ih.1⟩, fun z hz => ?_⟩
      · rcases insS_mem hz with rfl | hz
        · exact hyx
        · exact hlt z hz
      · rcases List.mem_cons.1 hz with rfl | hz
        · exact hy
        · exact ih.2 z hz
theorem insS_len (x : Ses) : ∀ (ss : List Ses), (insS x false ss).length = ss.length + 1
  | [] => rfl
  | y :: ss => by
    unfold insS
    split
    · rw [insS_true]; simp
    · rw [List.length_cons, insS_len x ss, List.length_cons]
theorem filter_wf {ss : List Ses} (p : Ses → Bool) (h : WfS ss) : WfS (ss.filter p) := ⟨List.Pairwise.sublist List.filter_sublist h.1, fun x hx => h.2 x (List.mem_filter.1 hx).1⟩
/-- Opening, closing. -/
def openS (most last : Int) (ss : List Ses) (nd ix : Int) : (Int × Int) × List Ses × Int :=
  if ¬ (0 ≤ nd ∧ nd < 8) ∨ ix = 0 then ((0, 2), ss, last)
  else if (sget ss ix).2 = true then ((0, 20), ss, last)
  else if most ≤ (ss.length : Int) then ((0, 5), ss, last)
  else ((ix, 0), insS ⟨ix, nd, ix, ix⟩ false ss, max last ix)
def closeS (last : Int) (ss : List Ses) (id ix : Int) : Int × List Ses × Int :=
  if (sget ss id).2 = true then (0, delS id ss, max last ix) else (4, ss, last)
def idsS (nd : Int) (ss : List Ses) : List Int := (ss.filter fun x => decide (x.nd = nd)).map (·.id)
def restS (nd : Int) (ss : List Ses) : List Ses := ss.filter fun x => decide (¬ x.nd = nd)
def lastS (last ix : Int) (ids : List Int) : Int := if ids = [] then last else max last ix
theorem open_wf {most last nd ix : Int} {ss : List Ses} (h : WfS ss) (hix : 0 ≤ ix ∧ ix < 18446744073709551616) (hl : (ss.length : Int) ≤ most) : WfS (openS most last ss nd ix).2.1 ∧ ((openS most last ss nd ix).2.1.length : Int) ≤ most := by
  unfold openS
  split
  · exact ⟨h, hl⟩
  · split
    · exact ⟨h, hl⟩
    · split
      · exact ⟨h, hl⟩
      · rename_i h1 h2 h3
        have hn := sget_no (show (sget ss ix).2 = false by simpa using h2)
        refine ⟨insS_wf ⟨⟨show 1 ≤ ix by omega, hix.2⟩, rfl, rfl⟩ h (fun y hy => hn.2 y hy), ?_⟩
        rw [insS_len]
        push_cast
        omega
theorem close_wf {last id ix : Int} {ss : List Ses} (h : WfS ss) : WfS (closeS last ss id ix).2.1 ∧ (closeS last ss id ix).2.1.length ≤ ss.length := by
  unfold closeS
  split
  · exact ⟨filter_wf _ h, List.length_filter_le ..⟩
  · exact ⟨h, Nat.le_refl _⟩
end Go.Proofs.Ythbfigkfelfhcaa
