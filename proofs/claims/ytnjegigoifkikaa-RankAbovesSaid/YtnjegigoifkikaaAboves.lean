/- RankAboves: of any two updates it is told whether one may be, which one is above, and which one counts: true at every input, with no condition. -/
import Derived.Test.YtnjegigoifkikaaA
import Derived.Test.YtnjegigoifkikaaK7
import Derived.Test.YtnjegigoifkikaaRows
set_option linter.unusedSimpArgs false
set_option linter.unusedVariables false
set_option maxRecDepth 100000
set_option maxHeartbeats 1000000
namespace Go.Proofs.Ytnjegigoifkikaa
open Go.RowKit Go.ChangeShapes Go.WideShapes Go.ChangeAt
theorem best_spec (n i s n' i' s' : Int) : ((n' = n ∧ (i < i' ∨ i' = i ∧ s < s')) ∧ (best ⟨n, i, s⟩ ⟨n', i', s'⟩).n = n' ∧ (best ⟨n, i, s⟩ ⟨n', i', s'⟩).i = i' ∧ (best ⟨n, i, s⟩ ⟨n', i', s'⟩).s = s') ∨ (¬ (n' = n ∧ (i < i' ∨ i' = i ∧ s < s')) ∧ (best ⟨n, i, s⟩ ⟨n', i', s'⟩).n = n ∧ (best ⟨n, i, s⟩ ⟨n', i', s'⟩).i = i ∧ (best ⟨n, i, s⟩ ⟨n', i', s'⟩).s = s) := by
  unfold best
  split
  · rename_i h
    exact .inl ⟨by simpa [abv] using h, rfl, rfl, rfl⟩
  · rename_i h
    exact .inr ⟨by simpa [abv] using h, rfl, rfl, rfl⟩
theorem aboves_any (n i s n' i' s' : Int) (w : World) :
    Ret Try.prog 6 #[.agg #[.int .i64 n, .int .u32 i, .int .i64 s], .agg #[.int .i64 n', .int .u32 i', .int .i64 s']] w fun v w' => v = .bool true ∧ St w [] [] w' := by
  have hS := St.init0 w
  have hb := best_spec n i s n' i' s'
  refine Ret.enter Try.func6 Try.ntmps6 rfl rfl ?_
  simp only [argEnv, Nat.reduceAdd]
  refine SatC.seq ?_
  refine SatC.region ?_
  refine SatL.op rfl (OpW.box hS rfl rfl (by repeat constructor) ?_)
  clear hS
  intro b2 w1 _ hS
  refine SatL.op rfl (OpW.box hS rfl rfl (by repeat constructor) ?_)
  clear hS
  intro b3 w2 _ hS
  refine SatL.pu (RunV.assign rfl) rfl ?_
  refine SatL.nil (SatE.thenC ?_)
  refine SatC.seq ?_
  refine SatC.region ?_
  refine SatL.pu (RunV.loadN hS rfl rfl (by repeat constructor) (by repeat constructor)) rfl ?_
  refine SatL.op rfl (OpW.alloc hS rfl rfl (by repeat constructor) ?_)
  clear hS
  intro b5 w3 _ hS
  refine SatL.op rfl (OpW.store hS rfl rfl (by repeat constructor) (by repeat constructor) (by repeat constructor) rfl rfl ?_)
  clear hS
  intro w4 hS
  refine SatL.nil (SatE.thenC ?_)
  refine SatC.seq ?_
  refine SatC.seq ?_
  refine SatC.region ?_
  refine SatL.pu (RunV.loadN hS rfl rfl (by repeat constructor) (by repeat constructor)) rfl ?_
  refine SatL.pu (RunV.loadN hS rfl rfl (by repeat constructor) (by repeat constructor)) rfl ?_
  refine SatL.op rfl (OpW.enter rfl rfl rfl rfl (above_ref _ _ _ _ _ _ _) ?_)
  rintro _ w5 ⟨rfl, h⟩
  replace hS := St.callN hS h
  refine SatL.nil (SatE.thenC ?_)
  refine SatC.cond rfl (fun h1 => ?_) (fun h1 => ?_)
  · (try simp only [cx, ne_eq, abv, Upd.mk.injEq, decide_eq_decide, true_and] at h1)
    try (exfalso; first | omega | exact h1 trivial)
    all_goals
    refine SatC.region ?_
    refine SatL.pu (RunV.loadN hS rfl rfl (by repeat constructor) (by repeat constructor)) rfl ?_
    refine SatL.op rfl (OpW.store hS rfl rfl (by repeat constructor) (by repeat constructor) (by repeat constructor) rfl rfl ?_)
    clear hS
    intro w6 hS
    refine SatL.nil (SatE.thenC ?_)
    refine SatC.seq ?_
    refine SatC.drawnS (hS) (by kernel_rfl) ?_
    clear hS
    intro w7 _ hS hD
    refine SatD.take 0 rfl (by kernel_rfl) (fun _ _ _ h => h) rfl rfl hD (fun _ hw => RunV.loadN hw rfl rfl (by repeat constructor) (by repeat constructor)) ?_
    refine SatD.take 2 rfl (by kernel_rfl) (fun _ _ _ h => h) rfl rfl hD (fun _ hw => RunV.loadN hw rfl rfl (by repeat constructor) (by repeat constructor)) ?_
    refine SatD.eff 1 (by kernel_rfl) rfl rfl (OpW.enter rfl rfl rfl rfl (right_any _ _ _ _) ?_)
    rintro _ w8 ⟨rfl, h⟩
    replace hS := St.callN hS h
    refine keepS (hS.sb (by repeat constructor)) (fun hD => ?_)
    refine SatD.eff 3 (by kernel_rfl) rfl rfl (OpW.enter rfl rfl rfl rfl (right_ref _ _ _ _) ?_)
    rintro _ w9 ⟨rfl, h⟩
    replace hS := St.callN hS h
    refine keepS (hS.sb (by repeat constructor)) (fun hD => ?_)
    refine SatD.take 4 rfl (by kernel_rfl) (fun _ _ _ h => h) rfl rfl hD (fun _ hw => RunV.beql rfl rfl rfl) ?_
    refine SatD.take 5 rfl (by kernel_rfl) (fun _ _ _ h => h) rfl rfl hD (fun _ hw => RunV.move rfl) ?_
    refine SatD.ways 16 rfl (fun h2 => ?_) (fun h2 => ?_)
    · (try simp only [cx, ne_eq, abv, Upd.mk.injEq, decide_eq_decide, true_and] at h2)
      try (exfalso; first | omega | exact h2 trivial)
      all_goals
      refine SatD.take 6 rfl (by kernel_rfl) (fun _ _ _ h => h) rfl rfl hD (fun _ hw => RunV.loadN hw rfl rfl (by repeat constructor) (by repeat constructor)) ?_
      refine SatD.take 7 rfl (by kernel_rfl) (fun _ _ _ h => h) rfl rfl hD (fun _ hw => RunV.loadN hw rfl rfl (by repeat constructor) (by repeat constructor)) ?_
      refine SatD.take 9 rfl (by kernel_rfl) (fun _ _ _ h => h) rfl rfl hD (fun _ hw => RunV.loadN hw rfl rfl (by repeat constructor) (by repeat constructor)) ?_
      refine SatD.take 10 rfl (by kernel_rfl) (fun _ _ _ h => h) rfl rfl hD (fun _ hw => RunV.loadN hw rfl rfl (by repeat constructor) (by repeat constructor)) ?_
      refine SatD.eff 8 (by kernel_rfl) rfl rfl (OpW.enter rfl rfl rfl rfl (above_any _ _ _ _ _ _ _) ?_)
      rintro _ w10 ⟨rfl, h⟩
      replace hS := St.callN hS h
      refine keepS (hS.sb (by repeat constructor)) (fun hD => ?_)
      refine SatD.eff 11 (by kernel_rfl) rfl rfl (OpW.enter rfl rfl rfl rfl (above_ref _ _ _ _ _ _ _) ?_)
      rintro _ w11 ⟨rfl, h⟩
      replace hS := St.callN hS h
      refine keepS (hS.sb (by repeat constructor)) (fun hD => ?_)
      refine SatD.take 12 rfl (by kernel_rfl) (fun _ _ _ h => h) rfl rfl hD (fun _ hw => RunV.beql rfl rfl rfl) ?_
      refine SatD.take 13 rfl (by kernel_rfl) (fun _ _ _ h => h) rfl rfl hD (fun _ hw => RunV.pick_t rfl rfl) ?_
      refine SatD.take 14 rfl (by kernel_rfl) (fun _ _ _ h => h) rfl rfl hD (fun _ hw => RunV.move rfl) ?_
      refine SatD.ways 25 rfl (fun h3 => ?_) (fun h3 => ?_)
      · (try simp only [cx, ne_eq, abv, Upd.mk.injEq, decide_eq_decide, true_and] at h3)
        try (exfalso; first | omega | exact h3 trivial)
        all_goals
        refine SatD.take 15 rfl (by kernel_rfl) (fun _ _ _ h => h) rfl rfl hD (fun _ hw => RunV.loadN hw rfl rfl (by repeat constructor) (by repeat constructor)) ?_
        refine SatD.take 16 rfl (by kernel_rfl) (fun _ _ _ h => h) rfl rfl hD (fun _ hw => RunV.loadN hw rfl rfl (by repeat constructor) (by repeat constructor)) ?_
        refine SatD.take 18 rfl (by kernel_rfl) (fun _ _ _ h => h) rfl rfl hD (fun _ hw => RunV.loadN hw rfl rfl (by repeat constructor) (by repeat constructor)) ?_
        refine SatD.eff 17 (by kernel_rfl) rfl rfl (OpW.enter rfl rfl rfl rfl (best_any _ _ _ _ _ _ _) ?_)
        rintro _ w12 ⟨rfl, h⟩
        replace hS := St.callN hS h
        refine keepS (hS.sb (by repeat constructor)) (fun hD => ?_)
        refine SatD.take 19 rfl (by kernel_rfl) (fun _ _ _ h => h) rfl rfl hD (fun _ hw => RunV.bin rfl rfl (guard24 _ _ _ _ _ _ _ _ _ _) (run_eql24 _ _ _ _ _ _ _)) ?_
        refine SatD.take 20 rfl (by kernel_rfl) (fun _ _ _ h => h) rfl rfl hD (fun _ hw => RunV.pick_t rfl rfl) ?_
        refine SatD.take 21 rfl (by kernel_rfl) (fun _ _ _ h => h) rfl rfl hD (fun _ hw => RunV.move rfl) ?_
        refine SatD.ways 32 rfl (fun h4 => ?_) (fun h4 => ?_)
        · (try simp only [cx, ne_eq, abv, Upd.mk.injEq, decide_eq_decide, true_and] at h4)
          try (exfalso; first | omega | exact h4 trivial)
          all_goals
          refine SatD.eff 22 (by kernel_rfl) rfl rfl (OpW.enter rfl rfl rfl rfl (works_any _) ?_)
          rintro _ w13 ⟨rfl, h⟩
          replace hS := St.callN hS h
          refine keepS (hS.sb (by repeat constructor)) (fun hD => ?_)
          refine SatD.take 23 rfl (by kernel_rfl) (fun _ _ _ h => h) rfl rfl hD (fun _ hw => RunV.pick_t rfl rfl) ?_
          refine SatD.take 24 rfl (by kernel_rfl) (fun _ _ _ h => h) rfl rfl hD (fun _ hw => RunV.assign rfl) ?_
          refine SatD.done 0 (by kernel_rfl) (SatE.thenC ?_)
          clear hD
          refine SatC.ret ?_
          refine SatE.ret1 rfl rfl ?_
          refine ⟨congrArg Value.bool ?_, hS.sub (List.nil_sublist _)⟩
          first | rfl | (exfalso; omega) | (rw [Bool.eq_iff_iff]; simp only [decide_eq_true_eq, decide_eq_false_iff_not, Bool.not_true, Bool.not_false, Bool.not_eq_true', Bool.not_eq_false', beq_iff_eq, beq_eq_false_iff_ne, bne_iff_ne, ne_eq, Int.not_lt, Int.not_le, Decidable.not_not, Bool.and_eq_true, Bool.or_eq_true, Bool.false_eq_true, false_iff, true_iff, iff_false, iff_true] <;> omega)
        · (try simp only [cx, ne_eq, abv, Upd.mk.injEq, decide_eq_decide, true_and] at h4)
          try (exfalso; first | omega | exact h4 trivial)
          all_goals
          refine SatD.skip 22 rfl (by kernel_rfl) (fun _ _ _ h => h) rfl rfl hD ?_
          refine SatD.take 23 rfl (by kernel_rfl) (fun _ _ _ h => h) rfl rfl hD (fun _ hw => RunV.pick_f rfl rfl) ?_
          refine SatD.take 24 rfl (by kernel_rfl) (fun _ _ _ h => h) rfl rfl hD (fun _ hw => RunV.assign rfl) ?_
          refine SatD.done 0 (by kernel_rfl) (SatE.thenC ?_)
          clear hD
          refine SatC.ret ?_
          refine SatE.ret1 rfl rfl ?_
          refine ⟨congrArg Value.bool ?_, hS.sub (List.nil_sublist _)⟩
          first | rfl | (exfalso; omega) | (rw [Bool.eq_iff_iff]; simp only [decide_eq_true_eq, decide_eq_false_iff_not, Bool.not_true, Bool.not_false, Bool.not_eq_true', Bool.not_eq_false', beq_iff_eq, beq_eq_false_iff_ne, bne_iff_ne, ne_eq, Int.not_lt, Int.not_le, Decidable.not_not, Bool.and_eq_true, Bool.or_eq_true, Bool.false_eq_true, false_iff, true_iff, iff_false, iff_true] <;> omega)
      · (try simp only [cx, ne_eq, abv, Upd.mk.injEq, decide_eq_decide, true_and] at h3)
        try (exfalso; first | omega | exact h3 trivial)
        all_goals
        refine SatD.skip 15 rfl (by kernel_rfl) (fun _ _ _ h => h) rfl rfl hD ?_
        refine SatD.skip 16 rfl (by kernel_rfl) (fun _ _ _ h => h) rfl rfl hD ?_
        refine SatD.skip 17 rfl (by kernel_rfl) (fun _ _ _ h => h) rfl rfl hD ?_
        refine SatD.skip 18 rfl (by kernel_rfl) (fun _ _ _ h => h) rfl rfl hD ?_
        refine SatD.skip 19 rfl (by kernel_rfl) (fun _ _ _ h => h) rfl rfl hD ?_
        refine SatD.take 20 rfl (by kernel_rfl) (fun _ _ _ h => h) rfl rfl hD (fun _ hw => RunV.pick_f rfl rfl) ?_
        refine SatD.take 21 rfl (by kernel_rfl) (fun _ _ _ h => h) rfl rfl hD (fun _ hw => RunV.move rfl) ?_
        refine SatD.skip 22 rfl (by kernel_rfl) (fun _ _ _ h => h) rfl rfl hD ?_
        refine SatD.take 23 rfl (by kernel_rfl) (fun _ _ _ h => h) rfl rfl hD (fun _ hw => RunV.pick_f rfl rfl) ?_
        refine SatD.take 24 rfl (by kernel_rfl) (fun _ _ _ h => h) rfl rfl hD (fun _ hw => RunV.assign rfl) ?_
        refine SatD.done 0 (by kernel_rfl) (SatE.thenC ?_)
        clear hD
        refine SatC.ret ?_
        refine SatE.ret1 rfl rfl ?_
        refine ⟨congrArg Value.bool ?_, hS.sub (List.nil_sublist _)⟩
        first | rfl | (exfalso; omega) | (rw [Bool.eq_iff_iff]; simp only [decide_eq_true_eq, decide_eq_false_iff_not, Bool.not_true, Bool.not_false, Bool.not_eq_true', Bool.not_eq_false', beq_iff_eq, beq_eq_false_iff_ne, bne_iff_ne, ne_eq, Int.not_lt, Int.not_le, Decidable.not_not, Bool.and_eq_true, Bool.or_eq_true, Bool.false_eq_true, false_iff, true_iff, iff_false, iff_true] <;> omega)
    · (try simp only [cx, ne_eq, abv, Upd.mk.injEq, decide_eq_decide, true_and] at h2)
      try (exfalso; first | omega | exact h2 trivial)
      all_goals
      refine SatD.skip 6 rfl (by kernel_rfl) (fun _ _ _ h => h) rfl rfl hD ?_
      refine SatD.skip 7 rfl (by kernel_rfl) (fun _ _ _ h => h) rfl rfl hD ?_
      refine SatD.skip 8 rfl (by kernel_rfl) (fun _ _ _ h => h) rfl rfl hD ?_
      refine SatD.skip 9 rfl (by kernel_rfl) (fun _ _ _ h => h) rfl rfl hD ?_
      refine SatD.skip 10 rfl (by kernel_rfl) (fun _ _ _ h => h) rfl rfl hD ?_
      refine SatD.skip 11 rfl (by kernel_rfl) (fun _ _ _ h => h) rfl rfl hD ?_
      refine SatD.skip 12 rfl (by kernel_rfl) (fun _ _ _ h => h) rfl rfl hD ?_
      refine SatD.take 13 rfl (by kernel_rfl) (fun _ _ _ h => h) rfl rfl hD (fun _ hw => RunV.pick_f rfl rfl) ?_
      refine SatD.take 14 rfl (by kernel_rfl) (fun _ _ _ h => h) rfl rfl hD (fun _ hw => RunV.move rfl) ?_
      refine SatD.skip 15 rfl (by kernel_rfl) (fun _ _ _ h => h) rfl rfl hD ?_
      refine SatD.skip 16 rfl (by kernel_rfl) (fun _ _ _ h => h) rfl rfl hD ?_
      refine SatD.skip 17 rfl (by kernel_rfl) (fun _ _ _ h => h) rfl rfl hD ?_
      refine SatD.skip 18 rfl (by kernel_rfl) (fun _ _ _ h => h) rfl rfl hD ?_
      refine SatD.skip 19 rfl (by kernel_rfl) (fun _ _ _ h => h) rfl rfl hD ?_
      refine SatD.take 20 rfl (by kernel_rfl) (fun _ _ _ h => h) rfl rfl hD (fun _ hw => RunV.pick_f rfl rfl) ?_
      refine SatD.take 21 rfl (by kernel_rfl) (fun _ _ _ h => h) rfl rfl hD (fun _ hw => RunV.move rfl) ?_
      refine SatD.skip 22 rfl (by kernel_rfl) (fun _ _ _ h => h) rfl rfl hD ?_
      refine SatD.take 23 rfl (by kernel_rfl) (fun _ _ _ h => h) rfl rfl hD (fun _ hw => RunV.pick_f rfl rfl) ?_
      refine SatD.take 24 rfl (by kernel_rfl) (fun _ _ _ h => h) rfl rfl hD (fun _ hw => RunV.assign rfl) ?_
      refine SatD.done 0 (by kernel_rfl) (SatE.thenC ?_)
      clear hD
      refine SatC.ret ?_
      refine SatE.ret1 rfl rfl ?_
      refine ⟨congrArg Value.bool ?_, hS.sub (List.nil_sublist _)⟩
      first | rfl | (exfalso; omega) | (rw [Bool.eq_iff_iff]; simp only [decide_eq_true_eq, decide_eq_false_iff_not, Bool.not_true, Bool.not_false, Bool.not_eq_true', Bool.not_eq_false', beq_iff_eq, beq_eq_false_iff_ne, bne_iff_ne, ne_eq, Int.not_lt, Int.not_le, Decidable.not_not, Bool.and_eq_true, Bool.or_eq_true, Bool.false_eq_true, false_iff, true_iff, iff_false, iff_true] <;> omega)
  · (try simp only [cx, ne_eq, abv, Upd.mk.injEq, decide_eq_decide, true_and] at h1)
    try (exfalso; first | omega | exact h1 trivial)
    all_goals
    refine SatC.skip (SatE.thenC ?_)
    refine SatC.seq ?_
    refine SatC.drawnS (hS) (by kernel_rfl) ?_
    clear hS
    intro w6 _ hS hD
    refine SatD.take 0 rfl (by kernel_rfl) (fun _ _ _ h => h) rfl rfl hD (fun _ hw => RunV.loadN hw rfl rfl (by repeat constructor) (by repeat constructor)) ?_
    refine SatD.take 2 rfl (by kernel_rfl) (fun _ _ _ h => h) rfl rfl hD (fun _ hw => RunV.loadN hw rfl rfl (by repeat constructor) (by repeat constructor)) ?_
    refine SatD.eff 1 (by kernel_rfl) rfl rfl (OpW.enter rfl rfl rfl rfl (right_any _ _ _ _) ?_)
    rintro _ w7 ⟨rfl, h⟩
    replace hS := St.callN hS h
    refine keepS (hS.sb (by repeat constructor)) (fun hD => ?_)
    refine SatD.eff 3 (by kernel_rfl) rfl rfl (OpW.enter rfl rfl rfl rfl (right_ref _ _ _ _) ?_)
    rintro _ w8 ⟨rfl, h⟩
    replace hS := St.callN hS h
    refine keepS (hS.sb (by repeat constructor)) (fun hD => ?_)
    refine SatD.take 4 rfl (by kernel_rfl) (fun _ _ _ h => h) rfl rfl hD (fun _ hw => RunV.beql rfl rfl rfl) ?_
    refine SatD.take 5 rfl (by kernel_rfl) (fun _ _ _ h => h) rfl rfl hD (fun _ hw => RunV.move rfl) ?_
    refine SatD.ways 16 rfl (fun h2 => ?_) (fun h2 => ?_)
    · (try simp only [cx, ne_eq, abv, Upd.mk.injEq, decide_eq_decide, true_and] at h2)
      try (exfalso; first | omega | exact h2 trivial)
      all_goals
      refine SatD.take 6 rfl (by kernel_rfl) (fun _ _ _ h => h) rfl rfl hD (fun _ hw => RunV.loadN hw rfl rfl (by repeat constructor) (by repeat constructor)) ?_
      refine SatD.take 7 rfl (by kernel_rfl) (fun _ _ _ h => h) rfl rfl hD (fun _ hw => RunV.loadN hw rfl rfl (by repeat constructor) (by repeat constructor)) ?_
      refine SatD.take 9 rfl (by kernel_rfl) (fun _ _ _ h => h) rfl rfl hD (fun _ hw => RunV.loadN hw rfl rfl (by repeat constructor) (by repeat constructor)) ?_
      refine SatD.take 10 rfl (by kernel_rfl) (fun _ _ _ h => h) rfl rfl hD (fun _ hw => RunV.loadN hw rfl rfl (by repeat constructor) (by repeat constructor)) ?_
      refine SatD.eff 8 (by kernel_rfl) rfl rfl (OpW.enter rfl rfl rfl rfl (above_any _ _ _ _ _ _ _) ?_)
      rintro _ w9 ⟨rfl, h⟩
      replace hS := St.callN hS h
      refine keepS (hS.sb (by repeat constructor)) (fun hD => ?_)
      refine SatD.eff 11 (by kernel_rfl) rfl rfl (OpW.enter rfl rfl rfl rfl (above_ref _ _ _ _ _ _ _) ?_)
      rintro _ w10 ⟨rfl, h⟩
      replace hS := St.callN hS h
      refine keepS (hS.sb (by repeat constructor)) (fun hD => ?_)
      refine SatD.take 12 rfl (by kernel_rfl) (fun _ _ _ h => h) rfl rfl hD (fun _ hw => RunV.beql rfl rfl rfl) ?_
      refine SatD.take 13 rfl (by kernel_rfl) (fun _ _ _ h => h) rfl rfl hD (fun _ hw => RunV.pick_t rfl rfl) ?_
      refine SatD.take 14 rfl (by kernel_rfl) (fun _ _ _ h => h) rfl rfl hD (fun _ hw => RunV.move rfl) ?_
      refine SatD.ways 25 rfl (fun h3 => ?_) (fun h3 => ?_)
      · (try simp only [cx, ne_eq, abv, Upd.mk.injEq, decide_eq_decide, true_and] at h3)
        try (exfalso; first | omega | exact h3 trivial)
        all_goals
        refine SatD.take 15 rfl (by kernel_rfl) (fun _ _ _ h => h) rfl rfl hD (fun _ hw => RunV.loadN hw rfl rfl (by repeat constructor) (by repeat constructor)) ?_
        refine SatD.take 16 rfl (by kernel_rfl) (fun _ _ _ h => h) rfl rfl hD (fun _ hw => RunV.loadN hw rfl rfl (by repeat constructor) (by repeat constructor)) ?_
        refine SatD.take 18 rfl (by kernel_rfl) (fun _ _ _ h => h) rfl rfl hD (fun _ hw => RunV.loadN hw rfl rfl (by repeat constructor) (by repeat constructor)) ?_
        refine SatD.eff 17 (by kernel_rfl) rfl rfl (OpW.enter rfl rfl rfl rfl (best_any _ _ _ _ _ _ _) ?_)
        rintro _ w11 ⟨rfl, h⟩
        replace hS := St.callN hS h
        refine keepS (hS.sb (by repeat constructor)) (fun hD => ?_)
        refine SatD.take 19 rfl (by kernel_rfl) (fun _ _ _ h => h) rfl rfl hD (fun _ hw => RunV.bin rfl rfl (guard24 _ _ _ _ _ _ _ _ _ _) (run_eql24 _ _ _ _ _ _ _)) ?_
        refine SatD.take 20 rfl (by kernel_rfl) (fun _ _ _ h => h) rfl rfl hD (fun _ hw => RunV.pick_t rfl rfl) ?_
        refine SatD.take 21 rfl (by kernel_rfl) (fun _ _ _ h => h) rfl rfl hD (fun _ hw => RunV.move rfl) ?_
        refine SatD.ways 32 rfl (fun h4 => ?_) (fun h4 => ?_)
        · (try simp only [cx, ne_eq, abv, Upd.mk.injEq, decide_eq_decide, true_and] at h4)
          try (exfalso; first | omega | exact h4 trivial)
          all_goals
          refine SatD.eff 22 (by kernel_rfl) rfl rfl (OpW.enter rfl rfl rfl rfl (works_any _) ?_)
          rintro _ w12 ⟨rfl, h⟩
          replace hS := St.callN hS h
          refine keepS (hS.sb (by repeat constructor)) (fun hD => ?_)
          refine SatD.take 23 rfl (by kernel_rfl) (fun _ _ _ h => h) rfl rfl hD (fun _ hw => RunV.pick_t rfl rfl) ?_
          refine SatD.take 24 rfl (by kernel_rfl) (fun _ _ _ h => h) rfl rfl hD (fun _ hw => RunV.assign rfl) ?_
          refine SatD.done 0 (by kernel_rfl) (SatE.thenC ?_)
          clear hD
          refine SatC.ret ?_
          refine SatE.ret1 rfl rfl ?_
          refine ⟨congrArg Value.bool ?_, hS.sub (List.nil_sublist _)⟩
          first | rfl | (exfalso; omega) | (rw [Bool.eq_iff_iff]; simp only [decide_eq_true_eq, decide_eq_false_iff_not, Bool.not_true, Bool.not_false, Bool.not_eq_true', Bool.not_eq_false', beq_iff_eq, beq_eq_false_iff_ne, bne_iff_ne, ne_eq, Int.not_lt, Int.not_le, Decidable.not_not, Bool.and_eq_true, Bool.or_eq_true, Bool.false_eq_true, false_iff, true_iff, iff_false, iff_true] <;> omega)
        · (try simp only [cx, ne_eq, abv, Upd.mk.injEq, decide_eq_decide, true_and] at h4)
          try (exfalso; first | omega | exact h4 trivial)
          all_goals
          refine SatD.skip 22 rfl (by kernel_rfl) (fun _ _ _ h => h) rfl rfl hD ?_
          refine SatD.take 23 rfl (by kernel_rfl) (fun _ _ _ h => h) rfl rfl hD (fun _ hw => RunV.pick_f rfl rfl) ?_
          refine SatD.take 24 rfl (by kernel_rfl) (fun _ _ _ h => h) rfl rfl hD (fun _ hw => RunV.assign rfl) ?_
          refine SatD.done 0 (by kernel_rfl) (SatE.thenC ?_)
          clear hD
          refine SatC.ret ?_
          refine SatE.ret1 rfl rfl ?_
          refine ⟨congrArg Value.bool ?_, hS.sub (List.nil_sublist _)⟩
          first | rfl | (exfalso; omega) | (rw [Bool.eq_iff_iff]; simp only [decide_eq_true_eq, decide_eq_false_iff_not, Bool.not_true, Bool.not_false, Bool.not_eq_true', Bool.not_eq_false', beq_iff_eq, beq_eq_false_iff_ne, bne_iff_ne, ne_eq, Int.not_lt, Int.not_le, Decidable.not_not, Bool.and_eq_true, Bool.or_eq_true, Bool.false_eq_true, false_iff, true_iff, iff_false, iff_true] <;> omega)
      · (try simp only [cx, ne_eq, abv, Upd.mk.injEq, decide_eq_decide, true_and] at h3)
        try (exfalso; first | omega | exact h3 trivial)
        all_goals
        refine SatD.skip 15 rfl (by kernel_rfl) (fun _ _ _ h => h) rfl rfl hD ?_
        refine SatD.skip 16 rfl (by kernel_rfl) (fun _ _ _ h => h) rfl rfl hD ?_
        refine SatD.skip 17 rfl (by kernel_rfl) (fun _ _ _ h => h) rfl rfl hD ?_
        refine SatD.skip 18 rfl (by kernel_rfl) (fun _ _ _ h => h) rfl rfl hD ?_
        refine SatD.skip 19 rfl (by kernel_rfl) (fun _ _ _ h => h) rfl rfl hD ?_
        refine SatD.take 20 rfl (by kernel_rfl) (fun _ _ _ h => h) rfl rfl hD (fun _ hw => RunV.pick_f rfl rfl) ?_
        refine SatD.take 21 rfl (by kernel_rfl) (fun _ _ _ h => h) rfl rfl hD (fun _ hw => RunV.move rfl) ?_
        refine SatD.skip 22 rfl (by kernel_rfl) (fun _ _ _ h => h) rfl rfl hD ?_
        refine SatD.take 23 rfl (by kernel_rfl) (fun _ _ _ h => h) rfl rfl hD (fun _ hw => RunV.pick_f rfl rfl) ?_
        refine SatD.take 24 rfl (by kernel_rfl) (fun _ _ _ h => h) rfl rfl hD (fun _ hw => RunV.assign rfl) ?_
        refine SatD.done 0 (by kernel_rfl) (SatE.thenC ?_)
        clear hD
        refine SatC.ret ?_
        refine SatE.ret1 rfl rfl ?_
        refine ⟨congrArg Value.bool ?_, hS.sub (List.nil_sublist _)⟩
        first | rfl | (exfalso; omega) | (rw [Bool.eq_iff_iff]; simp only [decide_eq_true_eq, decide_eq_false_iff_not, Bool.not_true, Bool.not_false, Bool.not_eq_true', Bool.not_eq_false', beq_iff_eq, beq_eq_false_iff_ne, bne_iff_ne, ne_eq, Int.not_lt, Int.not_le, Decidable.not_not, Bool.and_eq_true, Bool.or_eq_true, Bool.false_eq_true, false_iff, true_iff, iff_false, iff_true] <;> omega)
    · (try simp only [cx, ne_eq, abv, Upd.mk.injEq, decide_eq_decide, true_and] at h2)
      try (exfalso; first | omega | exact h2 trivial)
      all_goals
      refine SatD.skip 6 rfl (by kernel_rfl) (fun _ _ _ h => h) rfl rfl hD ?_
      refine SatD.skip 7 rfl (by kernel_rfl) (fun _ _ _ h => h) rfl rfl hD ?_
      refine SatD.skip 8 rfl (by kernel_rfl) (fun _ _ _ h => h) rfl rfl hD ?_
      refine SatD.skip 9 rfl (by kernel_rfl) (fun _ _ _ h => h) rfl rfl hD ?_
      refine SatD.skip 10 rfl (by kernel_rfl) (fun _ _ _ h => h) rfl rfl hD ?_
      refine SatD.skip 11 rfl (by kernel_rfl) (fun _ _ _ h => h) rfl rfl hD ?_
      refine SatD.skip 12 rfl (by kernel_rfl) (fun _ _ _ h => h) rfl rfl hD ?_
      refine SatD.take 13 rfl (by kernel_rfl) (fun _ _ _ h => h) rfl rfl hD (fun _ hw => RunV.pick_f rfl rfl) ?_
      refine SatD.take 14 rfl (by kernel_rfl) (fun _ _ _ h => h) rfl rfl hD (fun _ hw => RunV.move rfl) ?_
      refine SatD.skip 15 rfl (by kernel_rfl) (fun _ _ _ h => h) rfl rfl hD ?_
      refine SatD.skip 16 rfl (by kernel_rfl) (fun _ _ _ h => h) rfl rfl hD ?_
      refine SatD.skip 17 rfl (by kernel_rfl) (fun _ _ _ h => h) rfl rfl hD ?_
      refine SatD.skip 18 rfl (by kernel_rfl) (fun _ _ _ h => h) rfl rfl hD ?_
      refine SatD.skip 19 rfl (by kernel_rfl) (fun _ _ _ h => h) rfl rfl hD ?_
      refine SatD.take 20 rfl (by kernel_rfl) (fun _ _ _ h => h) rfl rfl hD (fun _ hw => RunV.pick_f rfl rfl) ?_
      refine SatD.take 21 rfl (by kernel_rfl) (fun _ _ _ h => h) rfl rfl hD (fun _ hw => RunV.move rfl) ?_
      refine SatD.skip 22 rfl (by kernel_rfl) (fun _ _ _ h => h) rfl rfl hD ?_
      refine SatD.take 23 rfl (by kernel_rfl) (fun _ _ _ h => h) rfl rfl hD (fun _ hw => RunV.pick_f rfl rfl) ?_
      refine SatD.take 24 rfl (by kernel_rfl) (fun _ _ _ h => h) rfl rfl hD (fun _ hw => RunV.assign rfl) ?_
      refine SatD.done 0 (by kernel_rfl) (SatE.thenC ?_)
      clear hD
      refine SatC.ret ?_
      refine SatE.ret1 rfl rfl ?_
      refine ⟨congrArg Value.bool ?_, hS.sub (List.nil_sublist _)⟩
      first | rfl | (exfalso; omega) | (rw [Bool.eq_iff_iff]; simp only [decide_eq_true_eq, decide_eq_false_iff_not, Bool.not_true, Bool.not_false, Bool.not_eq_true', Bool.not_eq_false', beq_iff_eq, beq_eq_false_iff_ne, bne_iff_ne, ne_eq, Int.not_lt, Int.not_le, Decidable.not_not, Bool.and_eq_true, Bool.or_eq_true, Bool.false_eq_true, false_iff, true_iff, iff_false, iff_true] <;> omega)
theorem rankAboves_lifted (os : Os) (started : os.Started) (H : Type) (enc : TypeId × Value → H) :
    ReturnsInHanded {} Try.checked os 6 .any (Rows.rankAbovesSpec.pre6 enc Try.prog Try.f6 Rows.rankAbovesRow.domain false) (Rows.rankAbovesSpec.post enc Try.prog Try.f6 false true false false) := by
  refine law_returns (C := Try.checked) (b := 4) (by kernel_rfl) started (by kernel_rfl) Try.func6
    (ChangeSpec.witness6 (enc := enc) (C := Try.checked) false ⟨#[], #[.agg #[.int .i64 0, .int .u32 0, .int .i64 0], .agg #[.int .i64 0, .int .u32 0, .int .i64 0]], []⟩ 8 (by kernel_rfl) (by kernel_rfl) (by kernel_rfl) (by kernel_rfl))
    rfl rfl (by kernel_rfl) (by kernel_rfl) (by kernel_rfl) (fun ds h => ?_) ?_
  · rw [Try.params6] at h
    match ds, h with
    | [_, _], _ => rfl
  intro W base args ds ps hval hA hsz
  rw [Try.params6] at hA hval
  obtain ⟨v0, v1, d0, d1, q0, q1, hargs, rfl, rfl, h0, h1⟩ := trodAll_two hA
  subst hargs
  obtain ⟨c0, rfl, l0⟩ := open_struct (l := [3, 22, 3]) 6 Try.underlying24 (by kernel_rfl) (hval 0 24 v0 rfl rfl) h0
  obtain ⟨a0_0, a0_1, a0_2, rfl, l0_0, l0_1, l0_2⟩ := allLeaf_list3 l0
  obtain ⟨a0_0, rfl, ba0_0⟩ := leaf_int Try.underlying3 l0_0
  replace ba0_0 := bnd_i64 ba0_0
  obtain ⟨a0_1, rfl, ba0_1⟩ := leaf_int Try.underlying22 l0_1
  replace ba0_1 := bnd_u32 ba0_1
  obtain ⟨a0_2, rfl, ba0_2⟩ := leaf_int Try.underlying3 l0_2
  replace ba0_2 := bnd_i64 ba0_2
  obtain ⟨c1, rfl, l1⟩ := open_struct (l := [3, 22, 3]) 6 Try.underlying24 (by kernel_rfl) (hval 1 24 v1 rfl rfl) h1
  obtain ⟨a1_0, a1_1, a1_2, rfl, l1_0, l1_1, l1_2⟩ := allLeaf_list3 l1
  obtain ⟨a1_0, rfl, ba1_0⟩ := leaf_int Try.underlying3 l1_0
  replace ba1_0 := bnd_i64 ba1_0
  obtain ⟨a1_1, rfl, ba1_1⟩ := leaf_int Try.underlying22 l1_1
  replace ba1_1 := bnd_u32 ba1_1
  obtain ⟨a1_2, rfl, ba1_2⟩ := leaf_int Try.underlying3 l1_2
  replace ba1_2 := bnd_i64 ba1_2
  exact law_done (aboves_any _ _ _ _ _ _ W)
theorem rankAboves_holds : Rows.RankAbovesSaid :=
  OpenClaim.holds_of_wide 6 Try.f6 rfl rfl rfl rfl rfl rfl rfl ⟨rfl, rfl, rfl, rfl, rfl⟩ rfl rfl rfl rfl rfl (by kernel_rfl) Try.func6 (by kernel_rfl)
    (of_decide_eq_true (by kernel_rfl)) (by unfold Func.isWrapper; first | (rw [if_pos (by decide +kernel)]; kernel_rfl) | (rw [if_neg (by decide +kernel)]; exact ⟨rfl, rfl⟩))
    (fun os started H enc _ => rankAboves_lifted os started H enc)
end Go.Proofs.Ytnjegigoifkikaa
