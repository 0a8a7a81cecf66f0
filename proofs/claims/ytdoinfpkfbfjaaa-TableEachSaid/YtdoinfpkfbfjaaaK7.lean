/- What joins a walk to a law's row: bounds of whole numbers, leaves that are slices, a walk's end. No condition. -/
import Derived.Test.YtdoinfpkfbfjaaaK6
import Derived.Test.YtdoinfpkfbfjaaaK2
import Derived.DataShut
set_option linter.unusedVariables false
namespace Go.Proofs.Ytdoinfpkfbfjaaa
open Go.RowKit Go.ChangeShapes Go.WideShapes Go.ChangeAt
theorem law_done {P : Program} {f : FuncId} {args : Array Value} {W : World} (h : Ret P f args W fun v w' => v = .bool true ∧ St W [] [] w') : Calls P f args W fun e W' => e = .returned (.bool true) ∧ Below W.heap.size W W' :=
  Calls.mono h fun e w' ⟨v, he, hv, hs⟩ => ⟨by rw [he, hv], hs.below⟩
theorem bnd_i64 {n : Int} (h : (Lit.int .i64 n).wf = true) : -9223372036854775808 ≤ n ∧ n ≤ 9223372036854775807 := by
  have := (Lit.wf_int_iff _ _).1 h
  simp only [IntKind.min, IntKind.max, IntKind.bits, IntKind.signed] at this
  simp at this
  omega
theorem bnd_u32 {n : Int} (h : (Lit.int .u32 n).wf = true) : 0 ≤ n ∧ n ≤ 4294967295 := by
  have := (Lit.wf_int_iff _ _).1 h
  simp only [IntKind.min, IntKind.max, IntKind.bits, IntKind.signed] at this
  simp at this
  omega
theorem bnd_u64 {n : Int} (h : (Lit.int .u64 n).wf = true) : 0 ≤ n ∧ n ≤ 18446744073709551615 := by
  have := (Lit.wf_int_iff _ _).1 h
  simp only [IntKind.min, IntKind.max, IntKind.bits, IntKind.signed] at this
  simp at this
  omega
theorem bnd_u8 {n : Int} (h : (Lit.int .u8 n).wf = true) : 0 ≤ n ∧ n ≤ 255 := by
  have := (Lit.wf_int_iff _ _).1 h
  simp only [IntKind.min, IntKind.max, IntKind.bits, IntKind.signed] at this
  simp at this
  omega

/-- A list of leaves, taken apart. -/
theorem allLeaf_list1 {p : TypeId → Value → Prop} {t0 : TypeId} {cs : List Value} (h : AllLeaf p [t0] cs) : ∃ v0, cs = [v0] ∧ p t0 v0 := by
  match cs, h with
  | [v0], ⟨h0, _⟩ => exact ⟨v0, rfl, h0⟩
theorem allLeaf_list2 {p : TypeId → Value → Prop} {t0 t1 : TypeId} {cs : List Value} (h : AllLeaf p [t0, t1] cs) : ∃ v0 v1, cs = [v0, v1] ∧ p t0 v0 ∧ p t1 v1 := by
  match cs, h with
  | [v0, v1], ⟨h0, h1, _⟩ => exact ⟨v0, v1, rfl, h0, h1⟩
theorem allLeaf_list3 {p : TypeId → Value → Prop} {t0 t1 t2 : TypeId} {cs : List Value} (h : AllLeaf p [t0, t1, t2] cs) : ∃ v0 v1 v2, cs = [v0, v1, v2] ∧ p t0 v0 ∧ p t1 v1 ∧ p t2 v2 := by
  match cs, h with
  | [v0, v1, v2], ⟨h0, h1, h2, _⟩ => exact ⟨v0, v1, v2, rfl, h0, h1, h2⟩
theorem allLeaf_list4 {p : TypeId → Value → Prop} {t0 t1 t2 t3 : TypeId} {cs : List Value} (h : AllLeaf p [t0, t1, t2, t3] cs) : ∃ v0 v1 v2 v3, cs = [v0, v1, v2, v3] ∧ p t0 v0 ∧ p t1 v1 ∧ p t2 v2 ∧ p t3 v3 := by
  match cs, h with
  | [v0, v1, v2, v3], ⟨h0, h1, h2, h3, _⟩ => exact ⟨v0, v1, v2, v3, rfl, h0, h1, h2, h3⟩
theorem allLeaf_list5 {p : TypeId → Value → Prop} {t0 t1 t2 t3 t4 : TypeId} {cs : List Value} (h : AllLeaf p [t0, t1, t2, t3, t4] cs) : ∃ v0 v1 v2 v3 v4, cs = [v0, v1, v2, v3, v4] ∧ p t0 v0 ∧ p t1 v1 ∧ p t2 v2 ∧ p t3 v3 ∧ p t4 v4 := by
  match cs, h with
  | [v0, v1, v2, v3, v4], ⟨h0, h1, h2, h3, h4, _⟩ => exact ⟨v0, v1, v2, v3, v4, rfl, h0, h1, h2, h3, h4⟩
theorem allLeaf_list6 {p : TypeId → Value → Prop} {t0 t1 t2 t3 t4 t5 : TypeId} {cs : List Value} (h : AllLeaf p [t0, t1, t2, t3, t4, t5] cs) : ∃ v0 v1 v2 v3 v4 v5, cs = [v0, v1, v2, v3, v4, v5] ∧ p t0 v0 ∧ p t1 v1 ∧ p t2 v2 ∧ p t3 v3 ∧ p t4 v4 ∧ p t5 v5 := by
  match cs, h with
  | [v0, v1, v2, v3, v4, v5], ⟨h0, h1, h2, h3, h4, h5, _⟩ => exact ⟨v0, v1, v2, v3, v4, v5, rfl, h0, h1, h2, h3, h4, h5⟩
theorem allLeaf_list7 {p : TypeId → Value → Prop} {t0 t1 t2 t3 t4 t5 t6 : TypeId} {cs : List Value} (h : AllLeaf p [t0, t1, t2, t3, t4, t5, t6] cs) : ∃ v0 v1 v2 v3 v4 v5 v6, cs = [v0, v1, v2, v3, v4, v5, v6] ∧ p t0 v0 ∧ p t1 v1 ∧ p t2 v2 ∧ p t3 v3 ∧ p t4 v4 ∧ p t5 v5 ∧ p t6 v6 := by
  match cs, h with
  | [v0, v1, v2, v3, v4, v5, v6], ⟨h0, h1, h2, h3, h4, h5, h6, _⟩ => exact ⟨v0, v1, v2, v3, v4, v5, v6, rfl, h0, h1, h2, h3, h4, h5, h6⟩
theorem allLeaf_list8 {p : TypeId → Value → Prop} {t0 t1 t2 t3 t4 t5 t6 t7 : TypeId} {cs : List Value} (h : AllLeaf p [t0, t1, t2, t3, t4, t5, t6, t7] cs) : ∃ v0 v1 v2 v3 v4 v5 v6 v7, cs = [v0, v1, v2, v3, v4, v5, v6, v7] ∧ p t0 v0 ∧ p t1 v1 ∧ p t2 v2 ∧ p t3 v3 ∧ p t4 v4 ∧ p t5 v5 ∧ p t6 v6 ∧ p t7 v7 := by
  match cs, h with
  | [v0, v1, v2, v3, v4, v5, v6, v7], ⟨h0, h1, h2, h3, h4, h5, h6, h7, _⟩ => exact ⟨v0, v1, v2, v3, v4, v5, v6, v7, rfl, h0, h1, h2, h3, h4, h5, h6, h7⟩
theorem allLeaf_list9 {p : TypeId → Value → Prop} {t0 t1 t2 t3 t4 t5 t6 t7 t8 : TypeId} {cs : List Value} (h : AllLeaf p [t0, t1, t2, t3, t4, t5, t6, t7, t8] cs) : ∃ v0 v1 v2 v3 v4 v5 v6 v7 v8, cs = [v0, v1, v2, v3, v4, v5, v6, v7, v8] ∧ p t0 v0 ∧ p t1 v1 ∧ p t2 v2 ∧ p t3 v3 ∧ p t4 v4 ∧ p t5 v5 ∧ p t6 v6 ∧ p t7 v7 ∧ p t8 v8 := by
  match cs, h with
  | [v0, v1, v2, v3, v4, v5, v6, v7, v8], ⟨h0, h1, h2, h3, h4, h5, h6, h7, h8, _⟩ => exact ⟨v0, v1, v2, v3, v4, v5, v6, v7, v8, rfl, h0, h1, h2, h3, h4, h5, h6, h7, h8⟩
theorem allLeaf_list10 {p : TypeId → Value → Prop} {t0 t1 t2 t3 t4 t5 t6 t7 t8 t9 : TypeId} {cs : List Value} (h : AllLeaf p [t0, t1, t2, t3, t4, t5, t6, t7, t8, t9] cs) : ∃ v0 v1 v2 v3 v4 v5 v6 v7 v8 v9, cs = [v0, v1, v2, v3, v4, v5, v6, v7, v8, v9] ∧ p t0 v0 ∧ p t1 v1 ∧ p t2 v2 ∧ p t3 v3 ∧ p t4 v4 ∧ p t5 v5 ∧ p t6 v6 ∧ p t7 v7 ∧ p t8 v8 ∧ p t9 v9 := by
  match cs, h with
  | [v0, v1, v2, v3, v4, v5, v6, v7, v8, v9], ⟨h0, h1, h2, h3, h4, h5, h6, h7, h8, h9, _⟩ => exact ⟨v0, v1, v2, v3, v4, v5, v6, v7, v8, v9, rfl, h0, h1, h2, h3, h4, h5, h6, h7, h8, h9⟩
theorem allLeaf_list11 {p : TypeId → Value → Prop} {t0 t1 t2 t3 t4 t5 t6 t7 t8 t9 t10 : TypeId} {cs : List Value} (h : AllLeaf p [t0, t1, t2, t3, t4, t5, t6, t7, t8, t9, t10] cs) : ∃ v0 v1 v2 v3 v4 v5 v6 v7 v8 v9 v10, cs = [v0, v1, v2, v3, v4, v5, v6, v7, v8, v9, v10] ∧ p t0 v0 ∧ p t1 v1 ∧ p t2 v2 ∧ p t3 v3 ∧ p t4 v4 ∧ p t5 v5 ∧ p t6 v6 ∧ p t7 v7 ∧ p t8 v8 ∧ p t9 v9 ∧ p t10 v10 := by
  match cs, h with
  | [v0, v1, v2, v3, v4, v5, v6, v7, v8, v9, v10], ⟨h0, h1, h2, h3, h4, h5, h6, h7, h8, h9, h10, _⟩ => exact ⟨v0, v1, v2, v3, v4, v5, v6, v7, v8, v9, v10, rfl, h0, h1, h2, h3, h4, h5, h6, h7, h8, h9, h10⟩
theorem allLeaf_list12 {p : TypeId → Value → Prop} {t0 t1 t2 t3 t4 t5 t6 t7 t8 t9 t10 t11 : TypeId} {cs : List Value} (h : AllLeaf p [t0, t1, t2, t3, t4, t5, t6, t7, t8, t9, t10, t11] cs) : ∃ v0 v1 v2 v3 v4 v5 v6 v7 v8 v9 v10 v11, cs = [v0, v1, v2, v3, v4, v5, v6, v7, v8, v9, v10, v11] ∧ p t0 v0 ∧ p t1 v1 ∧ p t2 v2 ∧ p t3 v3 ∧ p t4 v4 ∧ p t5 v5 ∧ p t6 v6 ∧ p t7 v7 ∧ p t8 v8 ∧ p t9 v9 ∧ p t10 v10 ∧ p t11 v11 := by
  match cs, h with
  | [v0, v1, v2, v3, v4, v5, v6, v7, v8, v9, v10, v11], ⟨h0, h1, h2, h3, h4, h5, h6, h7, h8, h9, h10, h11, _⟩ => exact ⟨v0, v1, v2, v3, v4, v5, v6, v7, v8, v9, v10, v11, rfl, h0, h1, h2, h3, h4, h5, h6, h7, h8, h9, h10, h11⟩
end Go.Proofs.Ytdoinfpkfbfjaaa
