/- NameTags: the tags of both sides. -/
import Derived.Test.YtkmgnplaokogbaaR
import Derived.Test.YtkmgnplaokogbaaK7
import Derived.Test.YtkmgnplaokogbaaK16
import Derived.Test.YtkmgnplaokogbaaRows
set_option linter.unusedSimpArgs false
set_option linter.unusedVariables false
set_option maxRecDepth 100000
set_option maxHeartbeats 1000000
namespace Go.Proofs.Ytkmgnplaokogbaa
open Go.RowKit Go.ChangeShapes Go.WideShapes Go.ChangeAt
theorem ntags_any (v : Value) (l : List (List UInt8)) (w : World) (hr : RdRow w v 1 (l.map rs)) : Ret Try.prog 4 #[v] w fun u w' => u = .bool true ∧ St w [] [] w' := by
  have hS := St.init0 w
  refine Ret.enter Try.func4 Try.ntmps4 rfl rfl ?_
  simp only [argEnv, Nat.reduceAdd]
  refine SatC.seq ?_
  refine SatC.region ?_
  refine SatL.pu (RunV.assign rfl) rfl ?_
  refine SatL.nil (SatE.thenC ?_)
  refine SatC.seq ?_
  refine SatC.region ?_
  refine SatL.pu (RunV.move rfl) rfl ?_
  refine SatL.op rfl (OpW.enter rfl rfl rfl (rfl) (tags_any _ _ _ (by first | assumption | exact RdRow.st (by assumption) hS | exact Sl.row (by assumption) hS (by repeat constructor) (by first | omega | (simp only [List.length_map, List.length_append, List.length_take]; omega)) | exact RdRow.nil)) ?_)
  rintro r1 w1 ⟨rfl, h⟩
  replace hS := St.callN hS h
  refine SatL.pu (RunV.move rfl) rfl ?_
  refine SatL.op rfl (OpW.enter rfl rfl rfl (rfl) (tags_ref _ _ _ (by first | assumption | exact RdRow.st (by assumption) hS | exact Sl.row (by assumption) hS (by repeat constructor) (by first | omega | (simp only [List.length_map, List.length_append, List.length_take]; omega)) | exact RdRow.nil)) ?_)
  rintro r2 w2 ⟨rfl, h⟩
  replace hS := St.callN hS h
  refine SatL.pu (RunV.beql rfl rfl rfl) rfl ?_
  refine SatL.pu (RunV.move rfl) rfl ?_
  refine SatL.guard rfl rfl rfl (fun h1 => ?_) (fun h1 => ?_)
  · (try simp only [cx, ne_eq] at h1)
    try (exfalso; (first | omega | exact h1 trivial | contradiction | exact h1 rfl); done)
    all_goals
    refine SatL.op rfl (OpW.enter rfl rfl rfl (rfl) (works_any _) ?_)
    rintro r3 w3 ⟨rfl, h⟩
    replace hS := St.callN hS h
    refine SatL.pu (RunV.pick_t rfl rfl) rfl ?_
    refine SatL.pu (RunV.assign rfl) rfl ?_
    refine SatL.nil (SatE.thenC ?_)
    refine SatC.ret ?_
    refine SatE.ret1 rfl rfl ?_
    exact ⟨by first | rfl | simp, hS⟩
  · (try simp only [cx, ne_eq] at h1)
    try (exfalso; (first | omega | exact h1 trivial | contradiction | exact h1 rfl); done)
    all_goals
    refine SatL.pu (RunV.pick_f rfl rfl) rfl ?_
    refine SatL.pu (RunV.assign rfl) rfl ?_
    refine SatL.nil (SatE.thenC ?_)
    refine SatC.ret ?_
    refine SatE.ret1 rfl rfl ?_
    exact ⟨by first | rfl | simp, hS⟩
theorem nameTags_lifted (os : Os) (started : os.Started) (H : Type) (enc : TypeId × Value → H) :
    ReturnsInHanded {} Try.checked os 4 .any (Rows.nameTagsSpec.pre6 enc Try.prog Try.f4 Rows.nameTagsRow.domain false) (Rows.nameTagsSpec.post enc Try.prog Try.f4 false true false false) := by
  refine law_returns (C := Try.checked) (b := 4) (by kernel_rfl) started (by kernel_rfl) Try.func4
    (ChangeSpec.witness6 (enc := enc) (C := Try.checked) false ⟨#[], #[.slice none 0 0], []⟩ 8 (by kernel_rfl) (by kernel_rfl) (by kernel_rfl) (by kernel_rfl))
    rfl rfl (by kernel_rfl) (by kernel_rfl) (by kernel_rfl) (fun ds h => ?_) ?_
  · rw [Try.params4] at h
    match ds, h with
    | [_], _ => rfl
  intro W base args ds ps hval hA hsz
  rw [Try.params4] at hA hval
  obtain ⟨v0, d0, hargs, rfl, h0⟩ := trodAll_one hA
  subst hargs
  obtain ⟨xs0, hr0, hx0⟩ := open_rows (l := [9]) 6 Try.underlying25 (by kernel_rfl) (by kernel_rfl) (by decide) (hval 0 25 v0 rfl rfl) h0
  obtain ⟨ys0, rfl, hy0⟩ := rows_map (enc' := rs) (q := fun y => y.length ≤ 9223372036854775807) (fun r hr => by
    obtain ⟨u0, rfl, l0⟩ := allLeaf_list1 hr
    obtain ⟨n0, rfl, e0⟩ := leaf_string Try.underlying9 l0
    exact ⟨n0.data.toList, rfl, str_max e0⟩) xs0 hx0
  exact law_done (ntags_any _ ys0 W hr0)
theorem nameTags_holds : Rows.NameTagsSaid :=
  OpenClaim.holds_of_wide 4 Try.f4 rfl rfl rfl rfl rfl rfl rfl ⟨rfl, rfl, rfl, rfl, rfl⟩ rfl rfl rfl rfl rfl (by kernel_rfl) Try.func4 (by kernel_rfl)
    (of_decide_eq_true (by kernel_rfl)) (by unfold Func.isWrapper; first | (rw [if_pos (by decide +kernel)]; kernel_rfl) | (rw [if_neg (by decide +kernel)]; exact ⟨rfl, rfl⟩))
    (fun os started H enc _ => nameTags_lifted os started H enc)
end Go.Proofs.Ytkmgnplaokogbaa
