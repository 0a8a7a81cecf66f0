/- RankRises: a table together with another one has of each node what is at least what each of both had: true at every two lists, with no condition. -/
import Derived.Test.YtnjegigoifkikaaG
import Derived.Test.YtnjegigoifkikaaK7
import Derived.Test.YtnjegigoifkikaaRows
set_option linter.unusedSimpArgs false
set_option linter.unusedVariables false
set_option maxRecDepth 100000
set_option maxHeartbeats 1000000
namespace Go.Proofs.Ytnjegigoifkikaa
open Go.RowKit Go.ChangeShapes Go.WideShapes Go.ChangeAt
theorem rises_any (v1 v2 : Value) (ys zs : List Upd) (w : World) (hr1 : RdRow w v1 3 (ys.map ud)) (hr2 : RdRow w v2 3 (zs.map ud)) :
    Ret Try.prog 9 #[v1, v2] w fun v w' => v = .bool true ∧ St w [] [] w' := by
  have hS := St.init0 w
  refine Ret.enter Try.func9 Try.ntmps9 rfl rfl ?_
  simp only [argEnv, Nat.reduceAdd]
  refine SatC.seq ?_
  refine SatC.region ?_
  refine SatL.pu (RunV.assign rfl) rfl ?_
  refine SatL.nil (SatE.thenC ?_)
  refine SatC.seq ?_
  refine SatC.region ?_
  refine SatL.pu (RunV.move rfl) rfl ?_
  refine SatL.op rfl (OpW.enter rfl rfl rfl rfl (cut_any w _ _ _ (by assumption)) ?_)
  rintro r1 w1 ⟨hr1, h⟩
  replace hS := St.callN hS h
  refine SatL.pu (RunV.move rfl) rfl ?_
  refine SatL.op rfl (OpW.enter rfl rfl rfl rfl (cut_any w _ _ _ (by assumption)) ?_)
  rintro r2 w2 ⟨hr2, h⟩
  replace hS := St.callN hS h
  refine SatL.pu (RunV.assign rfl) rfl ?_
  refine SatL.pu (RunV.assign rfl) rfl ?_
  refine SatL.nil (SatE.thenC ?_)
  refine SatC.seq ?_
  refine SatC.region ?_
  refine SatL.pu (RunV.move rfl) rfl ?_
  refine SatL.pu (RunV.move rfl) rfl ?_
  refine SatL.op rfl (OpW.enter rfl rfl rfl rfl (join_any _ _ _ _ _ (by first | assumption | exact RdRow.st (by assumption) hS | exact Sl.row (by assumption) hS (by repeat constructor) (by first | omega | exact jn_row _ _ | (simp only [List.length_map, List.length_append, List.length_take]; omega)) | exact RdRow.nil) (by first | assumption | exact RdRow.st (by assumption) hS | exact Sl.row (by assumption) hS (by repeat constructor) (by first | omega | exact jn_row _ _ | (simp only [List.length_map, List.length_append, List.length_take]; omega)) | exact RdRow.nil)) ?_)
  rintro r3 w3 ⟨B3, hsl3, h⟩
  replace hS := hS.call0 h
  refine SatL.pu (RunV.assign rfl) rfl ?_
  refine SatL.nil (SatE.thenC ?_)
  refine SatC.seq ?_
  refine SatC.seq ?_
  obtain ⟨b1, o1, c1, hv1, hmax1, hc1, hlt1⟩ := hr1.open
  simp only [List.length_map] at hv1 hmax1
  refine SatC.region ?_
  refine SatL.pu (RunV.assign rfl) rfl ?_
  refine SatL.nil (SatE.thenC ?_)
  refine SatC.block ?_
  refine SatC.loopK (G := Nat) (V := fun i => [(6, .int .i64 (i : Int))]) (Cn := [(0, _), (5, _), (4, _)]) (I := fun i w' => i ≤ (ys.take 60).length ∧ St w [] (B3 ++ []) w') (μ := fun i => (ys.take 60).length - i) 0 ?_ (by repeat constructor) ?_
  · exact ⟨Nat.zero_le _, hS⟩
  clear hS
  rintro i w4 ⟨hi, hS⟩
  refine SatC.weak (e' := [(0, _), (4, _), (5, _), (6, _)]) (by repeat constructor) ?_
  refine SatC.seq ?_
  refine SatC.seq ?_
  refine SatC.region ?_
  refine SatL.pu (RunV.move rfl) rfl ?_
  refine SatL.pu (RunV.move rfl) rfl ?_
  first | refine SatL.pu (RunV.lenR (by assumption) rfl rfl) rfl ?_ | refine SatL.pu (RunV.lenS rfl rfl) rfl ?_
  refine SatL.pu (RunV.lss rfl rfl) rfl ?_
  refine SatL.nil (SatE.thenC ?_)
  refine SatC.cond rfl (fun h1 => ?_) (fun h1 => ?_)
  · (try simp only [cx, ne_eq] at h1)
    try (exfalso; (first | omega | exact h1 trivial | (have hx := hf.1; rw [h1] at hx; cases hx) | (have hx := hf.2; rw [show abv y _ = true from h1] at hx; cases hx)); done)
    all_goals
    refine SatC.skip (SatE.thenC ?_)
    refine SatC.seq ?_
    refine SatC.block ?_
    refine SatC.seq ?_
    refine SatC.seq ?_
    obtain ⟨y, hy⟩ := get_some (ys.take 60) i (by omega)
    refine SatC.region ?_
    refine SatL.pu (RunV.move rfl) rfl ?_
    refine SatL.pu (RunV.move rfl) rfl ?_
    first | refine SatL.pu (RunV.indexR (by assumption) rfl rfl rfl (by omega) (by omega) rfl) rfl ?_ | refine SatL.pu (RunV.indexS rfl rfl rfl (by omega) (by omega) rfl) rfl ?_
    first | refine SatL.pu (RunV.loadRNz (RdC.st (by assumption) hS List.not_mem_nil) rfl rfl (by first | assumption | exact map_get (by assumption))) rfl ?_ | refine SatL.pu (RunV.loadRNz (Sl.rd (by assumption) hS (by repeat constructor)) rfl rfl (by first | assumption | exact map_get (by assumption))) rfl ?_
    refine SatL.op rfl (OpW.enter rfl rfl rfl rfl (right_any _ _ _ _) ?_)
    rintro r5 w5 ⟨rfl, h⟩
    replace hS := St.callN hS h
    refine SatL.pu (RunV.not rfl) rfl ?_
    refine SatL.nil (SatE.thenC ?_)
    refine SatC.cond rfl (fun h2 => ?_) (fun h2 => ?_)
    · (try simp only [cx, ne_eq] at h2)
      try (exfalso; (first | omega | exact h2 trivial | (have hx := hf.1; rw [h2] at hx; cases hx) | (have hx := hf.2; rw [show abv y _ = true from h2] at hx; cases hx)); done)
      all_goals
      refine SatC.exit (SatE.then_exit (SatE.blk_exit (SatE.thenC ?_)))
      refine SatC.region ?_
      refine SatL.pu (RunV.move rfl) rfl ?_
      refine SatL.pu (RunV.add rfl rfl (by first | exact wrapI64 (by omega) | rfl)) rfl ?_
      refine SatL.pu (RunV.assign rfl) rfl ?_
      refine SatL.nil ?_
      refine SatE.again (i + 1) ?_ (by first | omega | (dsimp only; omega)) (by repeat constructor)
      exact ⟨by omega, hS.sb (by repeat constructor)⟩
    · (try simp only [cx, ne_eq] at h2)
      try (exfalso; (first | omega | exact h2 trivial | (have hx := hf.1; rw [h2] at hx; cases hx) | (have hx := hf.2; rw [show abv y _ = true from h2] at hx; cases hx)); done)
      all_goals
      refine SatC.skip (SatE.thenC ?_)
      refine SatC.seq ?_
      refine SatC.region ?_
      refine SatL.pu (RunV.move rfl) rfl ?_
      refine SatL.pu (RunV.move rfl) rfl ?_
      refine SatL.pu (RunV.move rfl) rfl ?_
      first | refine SatL.pu (RunV.indexR (by assumption) rfl rfl rfl (by omega) (by omega) rfl) rfl ?_ | refine SatL.pu (RunV.indexS rfl rfl rfl (by omega) (by omega) rfl) rfl ?_
      first | refine SatL.pu (RunV.fieldAddrL rfl rfl rfl) rfl ?_ | refine SatL.pu (RunV.fieldAddr rfl rfl rfl) rfl ?_
      first | refine SatL.pu (RunV.loadR1f (RdC.st (by assumption) hS List.not_mem_nil) rfl rfl (by first | assumption | exact map_get (by assumption)) rfl) rfl ?_ | refine SatL.pu (RunV.loadR1f (Sl.rd (by assumption) hS (by repeat constructor)) rfl rfl (by first | assumption | exact map_get (by assumption)) rfl) rfl ?_
      refine SatL.op rfl (OpW.enter rfl rfl rfl rfl (find_any _ _ _ _ (by first | assumption | exact RdRow.st (by assumption) hS | exact Sl.row (by assumption) hS (by repeat constructor) (by first | omega | exact jn_row _ _ | (simp only [List.length_map, List.length_append, List.length_take]; omega)) | exact RdRow.nil)) ?_)
      rintro r6 w6 ⟨rfl, h⟩
      replace hS := St.callN hS h
      refine SatL.pu (RunV.move rfl) rfl ?_
      refine SatL.pu (RunV.extract rfl rfl) rfl ?_
      refine SatL.pu (RunV.extract rfl rfl) rfl ?_
      refine SatL.op rfl (OpW.alloc hS rfl rfl (by repeat constructor) ?_)
      clear hS
      intro b7 w7 _ hS
      refine SatL.op rfl (OpW.store hS rfl rfl (by repeat constructor) (by repeat constructor) (by repeat constructor) rfl rfl ?_)
      clear hS
      intro w8 hS
      refine SatL.pu (RunV.assign rfl) rfl ?_
      refine SatL.nil (SatE.thenC ?_)
      refine SatC.seq ?_
      refine SatC.weak (e' := [(0, _), (4, _), (5, _), (6, _), (7, _), (8, _)]) (by repeat constructor) ?_
      have hf := find_jn (a := ys.take 60) (b := zs.take 60) (node := y.n.toNat) (List.mem_append_left _ (List.mem_of_getElem? hy)) ⟨by simp only [right, decide_eq_true_eq]; exact h2, by omega⟩
      refine SatC.drawnS 10 (hS) (by kernel_rfl) ?_
      clear hS
      intro w9 _ hS hD
      refine SatD.take 0 rfl [] (by kernel_rfl) (fun _ _ _ h => h) rfl rfl hD (fun _ hw => RunV.move rfl) ?_
      refine SatD.take 1 rfl [] (by kernel_rfl) (fun _ _ _ h => h) rfl rfl hD (fun _ hw => RunV.not rfl) ?_
      refine SatD.take 2 rfl [] (by kernel_rfl) (fun _ _ _ h => h) rfl rfl hD (fun _ hw => RunV.move rfl) ?_
      refine SatD.ways 40 rfl (fun h3 => ?_) (fun h3 => ?_)
      · (try simp only [cx, ne_eq] at h3)
        try (exfalso; (first | omega | exact h3 trivial | (have hx := hf.1; rw [h3] at hx; cases hx) | (have hx := hf.2; rw [show abv y _ = true from h3] at hx; cases hx)); done)
        all_goals
        refine SatD.skip 3 rfl [] (by kernel_rfl) (fun _ _ _ h => h) rfl rfl hD ?_
        refine SatD.skip 4 rfl [] (by kernel_rfl) (fun _ _ _ h => h) rfl rfl hD ?_
        refine SatD.skip 5 rfl [] (by kernel_rfl) (fun _ _ _ h => h) rfl rfl hD ?_
        refine SatD.skip 6 rfl [] (by kernel_rfl) (fun _ _ _ h => h) rfl rfl hD ?_
        refine SatD.skip 7 rfl [] (by kernel_rfl) (fun _ _ _ h => h) rfl rfl hD ?_
        refine SatD.skip 8 rfl [] (by kernel_rfl) (fun _ _ _ h => h) rfl rfl hD ?_
        refine SatD.take 9 rfl [] (by kernel_rfl) (fun _ _ _ h => h) rfl rfl hD (fun _ hw => RunV.pick_t rfl rfl) ?_
        refine SatD.done 0 (by kernel_rfl) (SatE.thenC ?_)
        clear hD
        refine SatC.cond_t rfl ?_
        refine SatC.seq ?_
        refine SatC.weak (e' := [(0, _), (4, _), (5, _), (6, _)]) (by repeat constructor) ?_
        refine SatC.region ?_
        refine SatL.pu (RunV.assign rfl) rfl ?_
        refine SatL.nil (SatE.thenC ?_)
        refine SatC.ret (SatE.blk_ret (SatE.then_ret (SatE.then_ret (SatE.blk_ret (SatE.then_ret ?_)))))
        refine SatE.ret1 rfl rfl ?_
        exact ⟨rfl, hS.sub (List.nil_sublist _)⟩
      · (try simp only [cx, ne_eq] at h3)
        try (exfalso; (first | omega | exact h3 trivial | (have hx := hf.1; rw [h3] at hx; cases hx) | (have hx := hf.2; rw [show abv y _ = true from h3] at hx; cases hx)); done)
        all_goals
        refine SatD.take 3 rfl [] (by kernel_rfl) (fun _ _ _ h => h) rfl rfl hD (fun _ hw => RunV.move rfl) ?_
        refine SatD.take 4 rfl [] (by kernel_rfl) (fun _ _ _ h => h) rfl rfl hD (fun _ hw => RunV.move rfl) ?_
        first | refine SatD.take 5 rfl [] (by kernel_rfl) (fun _ _ _ h => h) rfl rfl hD (fun _ hw => RunV.indexR (by assumption) rfl rfl rfl (by omega) (by omega) rfl) ?_ | refine SatD.take 5 rfl [] (by kernel_rfl) (fun _ _ _ h => h) rfl rfl hD (fun _ hw => RunV.indexS rfl rfl rfl (by omega) (by omega) rfl) ?_
        first | refine SatD.take 6 rfl [] (by kernel_rfl) (fun _ _ _ h => h) rfl rfl hD (fun _ hw => RunV.loadRNz (RdC.st (by assumption) hw List.not_mem_nil) rfl rfl (by first | assumption | exact map_get (by assumption))) ?_ | refine SatD.take 6 rfl [] (by kernel_rfl) (fun _ _ _ h => h) rfl rfl hD (fun _ hw => RunV.loadRNz (Sl.rd (by assumption) hw (by repeat constructor)) rfl rfl (by first | assumption | exact map_get (by assumption))) ?_
        refine SatD.take 7 rfl [] (by kernel_rfl) (fun _ _ _ h => h) rfl rfl hD (fun _ hw => RunV.loadN hw rfl rfl (by repeat constructor) (by repeat constructor)) ?_
        refine SatD.eff 8 (by kernel_rfl) rfl rfl (OpW.enter rfl rfl rfl rfl (above_any _ _ _ _ _ _ _) ?_)
        rintro r10 w10 ⟨rfl, h⟩
        replace hS := St.callN hS h
        refine keepS (hS.sb (by repeat constructor)) (fun hD => ?_)
        refine SatD.take 9 rfl [] (by kernel_rfl) (fun _ _ _ h => h) rfl rfl hD (fun _ hw => RunV.pick_f rfl rfl) ?_
        refine SatD.done 0 (by kernel_rfl) (SatE.thenC ?_)
        clear hD
        refine SatC.cond rfl (fun h4 => ?_) (fun h4 => ?_)
        · (try simp only [cx, ne_eq] at h4)
          try (exfalso; (first | omega | exact h4 trivial | (have hx := hf.1; rw [h4] at hx; cases hx) | (have hx := hf.2; rw [show abv y _ = true from h4] at hx; cases hx)); done)
          all_goals
          refine SatC.seq ?_
          refine SatC.weak (e' := [(0, _), (4, _), (5, _), (6, _)]) (by repeat constructor) ?_
          refine SatC.region ?_
          refine SatL.pu (RunV.assign rfl) rfl ?_
          refine SatL.nil (SatE.thenC ?_)
          refine SatC.ret (SatE.blk_ret (SatE.then_ret (SatE.then_ret (SatE.blk_ret (SatE.then_ret ?_)))))
          refine SatE.ret1 rfl rfl ?_
          exact ⟨rfl, hS.sub (List.nil_sublist _)⟩
        · (try simp only [cx, ne_eq] at h4)
          try (exfalso; (first | omega | exact h4 trivial | (have hx := hf.1; rw [h4] at hx; cases hx) | (have hx := hf.2; rw [show abv y _ = true from h4] at hx; cases hx)); done)
          all_goals
          refine SatC.skip (SatE.blk_normal (SatE.thenC ?_))
          refine SatC.weak (e' := [(0, _), (4, _), (5, _), (6, _)]) (by repeat constructor) ?_
          refine SatC.region ?_
          refine SatL.pu (RunV.move rfl) rfl ?_
          refine SatL.pu (RunV.add rfl rfl (by first | exact wrapI64 (by omega) | rfl)) rfl ?_
          refine SatL.pu (RunV.assign rfl) rfl ?_
          refine SatL.nil ?_
          refine SatE.again (i + 1) ?_ (by first | omega | (dsimp only; omega)) (by repeat constructor)
          exact ⟨by omega, hS.sb (by repeat constructor)⟩
  · (try simp only [cx, ne_eq] at h1)
    try (exfalso; (first | omega | exact h1 trivial | (have hx := hf.1; rw [h1] at hx; cases hx) | (have hx := hf.2; rw [show abv y _ = true from h1] at hx; cases hx)); done)
    all_goals
    refine SatC.exit (SatE.then_exit (SatE.then_exit (SatE.blk_exit (SatE.thenC ?_))))
    refine SatC.seq ?_
    refine SatC.region ?_
    refine SatL.op rfl (OpW.enter rfl rfl rfl rfl (works_any _) ?_)
    rintro r5 w5 ⟨rfl, h⟩
    replace hS := St.callN hS h
    refine SatL.pu (RunV.assign rfl) rfl ?_
    refine SatL.nil (SatE.thenC ?_)
    refine SatC.ret ?_
    refine SatE.ret1 rfl rfl ?_
    exact ⟨rfl, hS.sub (List.nil_sublist _)⟩
theorem rankRises_lifted (os : Os) (started : os.Started) (H : Type) (enc : TypeId × Value → H) :
    ReturnsInHanded {} Try.checked os 9 .any (Rows.rankRisesSpec.pre6 enc Try.prog Try.f9 Rows.rankRisesRow.domain false) (Rows.rankRisesSpec.post enc Try.prog Try.f9 false true false false) := by
  refine law_returns (C := Try.checked) (b := 4) (by kernel_rfl) started (by kernel_rfl) Try.func9
    (ChangeSpec.witness6 (enc := enc) (C := Try.checked) false ⟨#[], #[.slice none 0 0, .slice none 0 0], []⟩ 8 (by kernel_rfl) (by kernel_rfl) (by kernel_rfl) (by kernel_rfl))
    rfl rfl (by kernel_rfl) (by kernel_rfl) (by kernel_rfl) (fun ds h => ?_) ?_
  · rw [Try.params9] at h
    match ds, h with
    | [_, _], _ => rfl
  intro W base args ds ps hval hA hsz
  rw [Try.params9] at hA hval
  obtain ⟨v0, v1, d0, d1, q0, q1, hargs, rfl, rfl, h0, h1⟩ := trodAll_two hA
  subst hargs
  obtain ⟨xs0, hr0, hx0⟩ := open_rows (l := [3, 22, 3]) 6 Try.underlying36 (by kernel_rfl) (by kernel_rfl) (by decide) (hval 0 36 v0 rfl rfl) h0
  obtain ⟨ys0, rfl, hy0⟩ := rows_map (enc' := ud) (q := fun _ => True) (fun r hr => by
    obtain ⟨u0, u1, u2, rfl, l0, l1, l2⟩ := allLeaf_list3 hr
    obtain ⟨n0, rfl, e0⟩ := leaf_int Try.underlying3 l0
    obtain ⟨n1, rfl, e1⟩ := leaf_int Try.underlying22 l1
    obtain ⟨n2, rfl, e2⟩ := leaf_int Try.underlying3 l2
    exact ⟨⟨n0, n1, n2⟩, rfl, trivial⟩) xs0 hx0
  obtain ⟨xs1, hr1, hx1⟩ := open_rows (l := [3, 22, 3]) 6 Try.underlying36 (by kernel_rfl) (by kernel_rfl) (by decide) (hval 1 36 v1 rfl rfl) h1
  obtain ⟨ys1, rfl, hy1⟩ := rows_map (enc' := ud) (q := fun _ => True) (fun r hr => by
    obtain ⟨u0, u1, u2, rfl, l0, l1, l2⟩ := allLeaf_list3 hr
    obtain ⟨n0, rfl, e0⟩ := leaf_int Try.underlying3 l0
    obtain ⟨n1, rfl, e1⟩ := leaf_int Try.underlying22 l1
    obtain ⟨n2, rfl, e2⟩ := leaf_int Try.underlying3 l2
    exact ⟨⟨n0, n1, n2⟩, rfl, trivial⟩) xs1 hx1
  exact law_done (rises_any _ _ ys0 ys1 W hr0 hr1)
theorem rankRises_holds : Rows.RankRisesSaid :=
  OpenClaim.holds_of_wide 9 Try.f9 rfl rfl rfl rfl rfl rfl rfl ⟨rfl, rfl, rfl, rfl, rfl⟩ rfl rfl rfl rfl rfl (by kernel_rfl) Try.func9 (by kernel_rfl)
    (of_decide_eq_true (by kernel_rfl)) (by unfold Func.isWrapper; first | (rw [if_pos (by decide +kernel)]; kernel_rfl) | (rw [if_neg (by decide +kernel)]; exact ⟨rfl, rfl⟩))
    (fun os started H enc _ => rankRises_lifted os started H enc)
end Go.Proofs.Ytnjegigoifkikaa
