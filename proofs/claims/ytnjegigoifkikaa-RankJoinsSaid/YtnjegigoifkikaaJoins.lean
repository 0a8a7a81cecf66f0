/- RankJoins: any two lists have the table together that the document says, and in any list a node's update is found: true at every input, with no condition. -/
import Derived.Test.YtnjegigoifkikaaG
import Derived.Test.YtnjegigoifkikaaK7
import Derived.Test.YtnjegigoifkikaaRows
set_option linter.unusedSimpArgs false
set_option linter.unusedVariables false
set_option maxRecDepth 100000
set_option maxHeartbeats 1000000
namespace Go.Proofs.Ytnjegigoifkikaa
open Go.RowKit Go.ChangeShapes Go.WideShapes Go.ChangeAt
theorem joins_any (v1 v2 : Value) (ys zs : List Upd) (n : Int) (w : World) (hr1 : RdRow w v1 3 (ys.map ud)) (hr2 : RdRow w v2 3 (zs.map ud)) :
    Ret Try.prog 8 #[v1, v2, .int .i64 n] w fun v w' => v = .bool true ∧ St w [] [] w' := by
  have hS := St.init0 w
  refine Ret.enter Try.func8 Try.ntmps8 rfl rfl ?_
  simp only [argEnv, Nat.reduceAdd]
  refine SatC.seq ?_
  refine SatC.region ?_
  refine SatL.pu (RunV.assign rfl) rfl ?_
  refine SatL.nil (SatE.thenC ?_)
  refine SatC.seq ?_
  refine SatC.region ?_
  refine SatL.pu (RunV.move rfl) rfl ?_
  refine SatL.op rfl (OpW.enter rfl rfl rfl rfl (cut_any w _ _ _ (by assumption)) ?_)
  rintro r1 w1 ⟨hr1, h⟩
  replace hS := St.callN hS h
  refine SatL.pu (RunV.move rfl) rfl ?_
  refine SatL.op rfl (OpW.enter rfl rfl rfl rfl (cut_any w _ _ _ (by assumption)) ?_)
  rintro r2 w2 ⟨hr2, h⟩
  replace hS := St.callN hS h
  refine SatL.pu (RunV.assign rfl) rfl ?_
  refine SatL.pu (RunV.assign rfl) rfl ?_
  refine SatL.nil (SatE.thenC ?_)
  refine SatC.seq ?_
  refine SatC.region ?_
  refine SatL.pu (RunV.move rfl) rfl ?_
  refine SatL.pu (RunV.move rfl) rfl ?_
  refine SatL.op rfl (OpW.enter rfl rfl rfl rfl (find_any _ _ _ _ (by first | assumption | exact RdRow.st (by assumption) hS | exact Sl.row (by assumption) hS (by repeat constructor) (by first | omega | exact jn_row _ _ | (simp only [List.length_map, List.length_append, List.length_take]; omega)) | exact RdRow.nil)) ?_)
  rintro r3 w3 ⟨rfl, h⟩
  replace hS := St.callN hS h
  refine SatL.pu (RunV.move rfl) rfl ?_
  refine SatL.pu (RunV.extract rfl rfl) rfl ?_
  refine SatL.pu (RunV.extract rfl rfl) rfl ?_
  refine SatL.op rfl (OpW.alloc hS rfl rfl (by repeat constructor) ?_)
  clear hS
  intro b7 w4 _ hS
  refine SatL.op rfl (OpW.store hS rfl rfl (by repeat constructor) (by repeat constructor) (by repeat constructor) rfl rfl ?_)
  clear hS
  intro w5 hS
  refine SatL.pu (RunV.assign rfl) rfl ?_
  refine SatL.nil (SatE.thenC ?_)
  refine SatC.seq ?_
  refine SatC.region ?_
  refine SatL.pu (RunV.move rfl) rfl ?_
  refine SatL.pu (RunV.move rfl) rfl ?_
  refine SatL.op rfl (OpW.enter rfl rfl rfl rfl (find_ref _ _ _ _ (by first | assumption | exact RdRow.st (by assumption) hS | exact Sl.row (by assumption) hS (by repeat constructor) (by first | omega | exact jn_row _ _ | (simp only [List.length_map, List.length_append, List.length_take]; omega)) | exact RdRow.nil)) ?_)
  rintro r6 w6 ⟨rfl, h⟩
  replace hS := St.callN hS h
  refine SatL.pu (RunV.move rfl) rfl ?_
  refine SatL.pu (RunV.extract rfl rfl) rfl ?_
  refine SatL.pu (RunV.extract rfl rfl) rfl ?_
  refine SatL.op rfl (OpW.alloc hS rfl rfl (by repeat constructor) ?_)
  clear hS
  intro b9 w7 _ hS
  refine SatL.op rfl (OpW.store hS rfl rfl (by repeat constructor) (by repeat constructor) (by repeat constructor) rfl rfl ?_)
  clear hS
  intro w8 hS
  refine SatL.pu (RunV.assign rfl) rfl ?_
  refine SatL.nil (SatE.thenC ?_)
  refine SatC.seq ?_
  refine SatC.weak (e' := [(0, _), (1, _), (6, _), (7, _), (8, _), (9, _), (10, _)]) (by repeat constructor) ?_
  refine SatC.region ?_
  refine SatL.pu (RunV.move rfl) rfl ?_
  refine SatL.pu (RunV.move rfl) rfl ?_
  refine SatL.op rfl (OpW.enter rfl rfl rfl rfl (join_any _ _ _ _ _ (by first | assumption | exact RdRow.st (by assumption) hS | exact Sl.row (by assumption) hS (by repeat constructor) (by first | omega | exact jn_row _ _ | (simp only [List.length_map, List.length_append, List.length_take]; omega)) | exact RdRow.nil) (by first | assumption | exact RdRow.st (by assumption) hS | exact Sl.row (by assumption) hS (by repeat constructor) (by first | omega | exact jn_row _ _ | (simp only [List.length_map, List.length_append, List.length_take]; omega)) | exact RdRow.nil)) ?_)
  rintro r9 w9 ⟨B9, hsl9, h⟩
  replace hS := hS.call0 h
  refine SatL.pu (RunV.move rfl) rfl ?_
  refine SatL.pu (RunV.move rfl) rfl ?_
  refine SatL.op rfl (OpW.enter rfl rfl rfl rfl (join_ref _ _ _ _ _ (by first | assumption | exact RdRow.st (by assumption) hS | exact Sl.row (by assumption) hS (by repeat constructor) (by first | omega | exact jn_row _ _ | (simp only [List.length_map, List.length_append, List.length_take]; omega)) | exact RdRow.nil) (by first | assumption | exact RdRow.st (by assumption) hS | exact Sl.row (by assumption) hS (by repeat constructor) (by first | omega | exact jn_row _ _ | (simp only [List.length_map, List.length_append, List.length_take]; omega)) | exact RdRow.nil) (by simp only [List.length_take]; omega) (by simp only [List.length_take]; omega)) ?_)
  rintro r10 w10 ⟨B10, hsl10, h⟩
  replace hS := hS.call0 h
  refine SatL.op rfl (OpW.enter rfl rfl rfl rfl (same_any _ _ _ _ _ (by first | assumption | exact RdRow.st (by assumption) hS | exact Sl.row (by assumption) hS (by repeat constructor) (by first | omega | exact jn_row _ _ | (simp only [List.length_map, List.length_append, List.length_take]; omega)) | exact RdRow.nil) (by first | assumption | exact RdRow.st (by assumption) hS | exact Sl.row (by assumption) hS (by repeat constructor) (by first | omega | exact jn_row _ _ | (simp only [List.length_map, List.length_append, List.length_take]; omega)) | exact RdRow.nil)) ?_)
  rintro r11 w11 ⟨rfl, h⟩
  replace hS := St.callN hS h
  refine SatL.pu (RunV.move rfl) rfl ?_
  refine SatL.guard rfl rfl rfl (fun h1 => ?_) (fun h1 => ?_)
  · (try simp only [cx, ne_eq] at h1)
    try (exfalso; first | omega | exact h1 trivial | exact h1 rfl)
    all_goals
    refine SatL.pu (RunV.loadN hS rfl rfl (by repeat constructor) (by repeat constructor)) rfl ?_
    refine SatL.guard_y rfl rfl ?_
    refine SatL.pu (RunV.loadN hS rfl rfl (by repeat constructor) (by repeat constructor)) rfl ?_
    refine SatL.guard_y rfl rfl ?_
    refine SatL.pu (RunV.bin rfl rfl (guard24 _ _ _ _ _ _ _ _ _ _) (run_eql24 _ _ _ _ _ _ _)) rfl ?_
    refine SatL.pu (RunV.pick_t rfl rfl) rfl ?_
    refine SatL.pu (RunV.move rfl) rfl ?_
    refine SatL.guard rfl rfl rfl (fun h2 => ?_) (fun h2 => ?_)
    · (try simp only [cx, ne_eq] at h2)
      try (exfalso; first | omega | exact h2 trivial | exact h2 rfl)
      all_goals
      refine SatL.pu (RunV.move rfl) rfl ?_
      refine SatL.guard_y rfl rfl ?_
      refine SatL.pu (RunV.move rfl) rfl ?_
      refine SatL.guard_y rfl rfl ?_
      refine SatL.pu (RunV.beql rfl rfl rfl) rfl ?_
      refine SatL.pu (RunV.pick_t rfl rfl) rfl ?_
      refine SatL.pu (RunV.move rfl) rfl ?_
      refine SatL.guard rfl rfl rfl (fun h3 => ?_) (fun h3 => ?_)
      · (try simp only [cx, ne_eq] at h3)
        try (exfalso; first | omega | exact h3 trivial | exact h3 rfl)
        all_goals
        refine SatL.op rfl (OpW.enter rfl rfl rfl rfl (works_any _) ?_)
        rintro r12 w12 ⟨rfl, h⟩
        replace hS := St.callN hS h
        refine SatL.pu (RunV.pick_t rfl rfl) rfl ?_
        refine SatL.pu (RunV.assign rfl) rfl ?_
        refine SatL.nil (SatE.thenC ?_)
        refine SatC.ret ?_
        refine SatE.ret1 rfl rfl ?_
        exact ⟨by first | rfl | simp, hS.sub (List.nil_sublist _)⟩
      · (try simp only [cx, ne_eq] at h3)
        try (exfalso; first | omega | exact h3 trivial | exact h3 rfl)
        all_goals
        refine SatL.pu (RunV.pick_f rfl rfl) rfl ?_
        refine SatL.pu (RunV.assign rfl) rfl ?_
        refine SatL.nil (SatE.thenC ?_)
        refine SatC.ret ?_
        refine SatE.ret1 rfl rfl ?_
        exact ⟨by first | rfl | simp, hS.sub (List.nil_sublist _)⟩
    · (try simp only [cx, ne_eq] at h2)
      try (exfalso; first | omega | exact h2 trivial | exact h2 rfl)
      all_goals
      refine SatL.guard_n rfl rfl rfl rfl ?_
      refine SatL.guard_n rfl rfl rfl rfl ?_
      refine SatL.pu (RunV.pick_f rfl rfl) rfl ?_
      refine SatL.pu (RunV.move rfl) rfl ?_
      refine SatL.guard_n rfl rfl rfl rfl ?_
      refine SatL.pu (RunV.pick_f rfl rfl) rfl ?_
      refine SatL.pu (RunV.assign rfl) rfl ?_
      refine SatL.nil (SatE.thenC ?_)
      refine SatC.ret ?_
      refine SatE.ret1 rfl rfl ?_
      exact ⟨by first | rfl | simp, hS.sub (List.nil_sublist _)⟩
  · (try simp only [cx, ne_eq] at h1)
    try (exfalso; first | omega | exact h1 trivial | exact h1 rfl)
    all_goals
    refine SatL.guard_n rfl rfl rfl rfl ?_
    refine SatL.guard_n rfl rfl rfl rfl ?_
    refine SatL.pu (RunV.pick_f rfl rfl) rfl ?_
    refine SatL.pu (RunV.move rfl) rfl ?_
    refine SatL.guard_n rfl rfl rfl rfl ?_
    refine SatL.guard_n rfl rfl rfl rfl ?_
    refine SatL.guard_n rfl rfl rfl rfl ?_
    refine SatL.pu (RunV.pick_f rfl rfl) rfl ?_
    refine SatL.pu (RunV.move rfl) rfl ?_
    refine SatL.guard_n rfl rfl rfl rfl ?_
    refine SatL.pu (RunV.pick_f rfl rfl) rfl ?_
    refine SatL.pu (RunV.assign rfl) rfl ?_
    refine SatL.nil (SatE.thenC ?_)
    refine SatC.ret ?_
    refine SatE.ret1 rfl rfl ?_
    exact ⟨by first | rfl | simp, hS.sub (List.nil_sublist _)⟩
theorem rankJoins_lifted (os : Os) (started : os.Started) (H : Type) (enc : TypeId × Value → H) :
    ReturnsInHanded {} Try.checked os 8 .any (Rows.rankJoinsSpec.pre6 enc Try.prog Try.f8 Rows.rankJoinsRow.domain false) (Rows.rankJoinsSpec.post enc Try.prog Try.f8 false true false false) := by
  refine law_returns (C := Try.checked) (b := 4) (by kernel_rfl) started (by kernel_rfl) Try.func8
    (ChangeSpec.witness6 (enc := enc) (C := Try.checked) false ⟨#[], #[.slice none 0 0, .slice none 0 0, .int .i64 0], []⟩ 8 (by kernel_rfl) (by kernel_rfl) (by kernel_rfl) (by kernel_rfl))
    rfl rfl (by kernel_rfl) (by kernel_rfl) (by kernel_rfl) (fun ds h => ?_) ?_
  · rw [Try.params8] at h
    match ds, h with
    | [_, _, _], _ => rfl
  intro W base args ds ps hval hA hsz
  rw [Try.params8] at hA hval
  obtain ⟨v0, v1, v2, d0, d1, d2, q0, q1, q2, hargs, rfl, rfl, h0, h1, h2⟩ := trodAll_three hA
  subst hargs
  obtain ⟨xs0, hr0, hx0⟩ := open_rows (l := [3, 22, 3]) 6 Try.underlying36 (by kernel_rfl) (by kernel_rfl) (by decide) (hval 0 36 v0 rfl rfl) h0
  obtain ⟨ys0, rfl, hy0⟩ := rows_map (enc' := ud) (q := fun _ => True) (fun r hr => by
    obtain ⟨u0, u1, u2, rfl, l0, l1, l2⟩ := allLeaf_list3 hr
    obtain ⟨n0, rfl, e0⟩ := leaf_int Try.underlying3 l0
    obtain ⟨n1, rfl, e1⟩ := leaf_int Try.underlying22 l1
    obtain ⟨n2, rfl, e2⟩ := leaf_int Try.underlying3 l2
    exact ⟨⟨n0, n1, n2⟩, rfl, trivial⟩) xs0 hx0
  obtain ⟨xs1, hr1, hx1⟩ := open_rows (l := [3, 22, 3]) 6 Try.underlying36 (by kernel_rfl) (by kernel_rfl) (by decide) (hval 1 36 v1 rfl rfl) h1
  obtain ⟨ys1, rfl, hy1⟩ := rows_map (enc' := ud) (q := fun _ => True) (fun r hr => by
    obtain ⟨u0, u1, u2, rfl, l0, l1, l2⟩ := allLeaf_list3 hr
    obtain ⟨n0, rfl, e0⟩ := leaf_int Try.underlying3 l0
    obtain ⟨n1, rfl, e1⟩ := leaf_int Try.underlying22 l1
    obtain ⟨n2, rfl, e2⟩ := leaf_int Try.underlying3 l2
    exact ⟨⟨n0, n1, n2⟩, rfl, trivial⟩) xs1 hx1
  obtain ⟨a2, rfl, rfl, rfl, b2⟩ := open_int Try.underlying3 (hval 2 3 v2 rfl rfl) h2
  replace b2 := bnd_i64 b2
  exact law_done (joins_any _ _ ys0 ys1 a2 W hr0 hr1)
theorem rankJoins_holds : Rows.RankJoinsSaid :=
  OpenClaim.holds_of_wide 8 Try.f8 rfl rfl rfl rfl rfl rfl rfl ⟨rfl, rfl, rfl, rfl, rfl⟩ rfl rfl rfl rfl rfl (by kernel_rfl) Try.func8 (by kernel_rfl)
    (of_decide_eq_true (by kernel_rfl)) (by unfold Func.isWrapper; first | (rw [if_pos (by decide +kernel)]; kernel_rfl) | (rw [if_neg (by decide +kernel)]; exact ⟨rfl, rfl⟩))
    (fun os started H enc _ => rankJoins_lifted os started H enc)
end Go.Proofs.Ytnjegigoifkikaa
