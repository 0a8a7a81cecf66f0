/- Leaves of a long structure (23 cells). -/
import Derived.Test.YtbnkcagcfbpiiaaK7
set_option linter.unusedVariables false
namespace Go.Proofs.Ytbnkcagcfbpiiaa
open Go.RowKit Go.ChangeShapes Go.WideShapes Go.ChangeAt
theorem allLeaf_list23 {p : TypeId → Value → Prop} {t0 t1 t2 t3 t4 t5 t6 t7 t8 t9 t10 t11 t12 t13 t14 t15 t16 t17 t18 t19 t20 t21 t22 : TypeId} {cs : List Value} (h : AllLeaf p [t0, t1, t2, t3, t4, t5, t6, t7, t8, t9, t10, t11, t12, t13, t14, t15, t16, t17, t18, t19, t20, t21, t22] cs) : ∃ v0 v1 v2 v3 v4 v5 v6 v7 v8 v9 v10 v11 v12 v13 v14 v15 v16 v17 v18 v19 v20 v21 v22, cs = [v0, v1, v2, v3, v4, v5, v6, v7, v8, v9, v10, v11, v12, v13, v14, v15, v16, v17, v18, v19, v20, v21, v22] ∧ p t0 v0 ∧ p t1 v1 ∧ p t2 v2 ∧ p t3 v3 ∧ p t4 v4 ∧ p t5 v5 ∧ p t6 v6 ∧ p t7 v7 ∧ p t8 v8 ∧ p t9 v9 ∧ p t10 v10 ∧ p t11 v11 ∧ p t12 v12 ∧ p t13 v13 ∧ p t14 v14 ∧ p t15 v15 ∧ p t16 v16 ∧ p t17 v17 ∧ p t18 v18 ∧ p t19 v19 ∧ p t20 v20 ∧ p t21 v21 ∧ p t22 v22 := by
  match cs, h with
  | [v0, v1, v2, v3, v4, v5, v6, v7, v8, v9, v10, v11, v12, v13, v14, v15, v16, v17, v18, v19, v20, v21, v22], ⟨h0, h1, h2, h3, h4, h5, h6, h7, h8, h9, h10, h11, h12, h13, h14, h15, h16, h17, h18, h19, h20, h21, h22, _⟩ => exact ⟨v0, v1, v2, v3, v4, v5, v6, v7, v8, v9, v10, v11, v12, v13, v14, v15, v16, v17, v18, v19, v20, v21, v22, rfl, h0, h1, h2, h3, h4, h5, h6, h7, h8, h9, h10, h11, h12, h13, h14, h15, h16, h17, h18, h19, h20, h21, h22⟩
end Go.Proofs.Ytbnkcagcfbpiiaa
