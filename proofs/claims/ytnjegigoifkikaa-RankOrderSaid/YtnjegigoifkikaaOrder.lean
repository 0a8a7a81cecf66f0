/- RankOrder: to be above is an order of what is said of one node: true at every three updates, with no condition. -/
import Derived.Test.YtnjegigoifkikaaA
import Derived.Test.YtnjegigoifkikaaK7
import Derived.Test.YtnjegigoifkikaaRows
set_option linter.unusedSimpArgs false
set_option linter.unusedVariables false
set_option maxRecDepth 100000
set_option maxHeartbeats 1000000
namespace Go.Proofs.Ytnjegigoifkikaa
open Go.RowKit Go.ChangeShapes Go.WideShapes Go.ChangeAt
theorem order_any (n i s n' i' s' n'' i'' s'' : Int) (w : World) :
    Ret Try.prog 3 #[.agg #[.int .i64 n, .int .u32 i, .int .i64 s], .agg #[.int .i64 n', .int .u32 i', .int .i64 s'], .agg #[.int .i64 n'', .int .u32 i'', .int .i64 s'']] w fun v w' => v = .bool true ∧ St w [] [] w' := by
  have hS := St.init0 w
  refine Ret.enter Try.func3 Try.ntmps3 rfl rfl ?_
  simp only [argEnv, Nat.reduceAdd]
  refine SatC.seq ?_
  refine SatC.region ?_
  refine SatL.op rfl (OpW.box hS rfl rfl (by repeat constructor) ?_)
  clear hS
  intro b3 w1 _ hS
  refine SatL.op rfl (OpW.box hS rfl rfl (by repeat constructor) ?_)
  clear hS
  intro b4 w2 _ hS
  refine SatL.op rfl (OpW.box hS rfl rfl (by repeat constructor) ?_)
  clear hS
  intro b5 w3 _ hS
  refine SatL.pu (RunV.assign rfl) rfl ?_
  refine SatL.nil (SatE.thenC ?_)
  refine SatC.seq ?_
  refine SatC.region ?_
  first | refine SatL.pu (RunV.fieldAddrL rfl rfl rfl) rfl ?_ | refine SatL.pu (RunV.fieldAddr rfl rfl rfl) rfl ?_
  refine SatL.pu (RunV.load1 hS rfl rfl (by repeat constructor) rfl) rfl ?_
  first | refine SatL.pu (RunV.fieldAddrL rfl rfl rfl) rfl ?_ | refine SatL.pu (RunV.fieldAddr rfl rfl rfl) rfl ?_
  refine SatL.op rfl (OpW.store hS rfl rfl (by repeat constructor) (by repeat constructor) (by repeat constructor) rfl rfl ?_)
  clear hS
  intro w4 hS
  refine SatL.nil (SatE.thenC ?_)
  refine SatC.seq ?_
  refine SatC.region ?_
  first | refine SatL.pu (RunV.fieldAddrL rfl rfl rfl) rfl ?_ | refine SatL.pu (RunV.fieldAddr rfl rfl rfl) rfl ?_
  refine SatL.pu (RunV.load1 hS rfl rfl (by repeat constructor) rfl) rfl ?_
  first | refine SatL.pu (RunV.fieldAddrL rfl rfl rfl) rfl ?_ | refine SatL.pu (RunV.fieldAddr rfl rfl rfl) rfl ?_
  refine SatL.op rfl (OpW.store hS rfl rfl (by repeat constructor) (by repeat constructor) (by repeat constructor) rfl rfl ?_)
  clear hS
  intro w5 hS
  refine SatL.nil (SatE.thenC ?_)
  refine SatC.seq ?_
  refine SatC.seq ?_
  refine SatC.drawnS (hS) (by kernel_rfl) ?_
  clear hS
  intro w6 _ hS hD
  refine SatD.take 0 rfl (by kernel_rfl) (fun _ _ _ h => h) rfl rfl hD (fun _ hw => RunV.loadN hw rfl rfl (by repeat constructor) (by repeat constructor)) ?_
  refine SatD.take 1 rfl (by kernel_rfl) (fun _ _ _ h => h) rfl rfl hD (fun _ hw => RunV.loadN hw rfl rfl (by repeat constructor) (by repeat constructor)) ?_
  refine SatD.take 2 rfl (by kernel_rfl) (fun _ _ _ h => h) rfl rfl hD (fun _ hw => RunV.bin rfl rfl (guard24 _ _ _ _ _ _ _ _ _ _) (run_neq24 _ _ _ _ _ _ _)) ?_
  refine SatD.take 3 rfl (by kernel_rfl) (fun _ _ _ h => h) rfl rfl hD (fun _ hw => RunV.move rfl) ?_
  refine SatD.ways 18 rfl (fun h1 => ?_) (fun h1 => ?_)
  · (try simp only [cx, ne_eq, abv, Upd.mk.injEq, decide_eq_decide, true_and] at h1)
    try (exfalso; omega)
    all_goals
    refine SatD.take 4 rfl (by kernel_rfl) (fun _ _ _ h => h) rfl rfl hD (fun _ hw => RunV.loadN hw rfl rfl (by repeat constructor) (by repeat constructor)) ?_
    refine SatD.take 5 rfl (by kernel_rfl) (fun _ _ _ h => h) rfl rfl hD (fun _ hw => RunV.loadN hw rfl rfl (by repeat constructor) (by repeat constructor)) ?_
    refine SatD.take 7 rfl (by kernel_rfl) (fun _ _ _ h => h) rfl rfl hD (fun _ hw => RunV.loadN hw rfl rfl (by repeat constructor) (by repeat constructor)) ?_
    refine SatD.take 8 rfl (by kernel_rfl) (fun _ _ _ h => h) rfl rfl hD (fun _ hw => RunV.loadN hw rfl rfl (by repeat constructor) (by repeat constructor)) ?_
    refine SatD.eff 6 (by kernel_rfl) rfl rfl (OpW.enter rfl rfl rfl rfl (above_any _ _ _ _ _ _ _) ?_)
    rintro _ w7 ⟨rfl, h⟩
    replace hS := St.callN hS h
    refine keepS (hS.sb (by repeat constructor)) (fun hD => ?_)
    refine SatD.eff 9 (by kernel_rfl) rfl rfl (OpW.enter rfl rfl rfl rfl (above_any _ _ _ _ _ _ _) ?_)
    rintro _ w8 ⟨rfl, h⟩
    replace hS := St.callN hS h
    refine keepS (hS.sb (by repeat constructor)) (fun hD => ?_)
    refine SatD.take 10 rfl (by kernel_rfl) (fun _ _ _ h => h) rfl rfl hD (fun _ hw => RunV.beql rfl rfl rfl) ?_
    refine SatD.take 11 rfl (by kernel_rfl) (fun _ _ _ h => h) rfl rfl hD (fun _ hw => RunV.pick_t rfl rfl) ?_
    refine SatD.take 12 rfl (by kernel_rfl) (fun _ _ _ h => h) rfl rfl hD (fun _ hw => RunV.move rfl) ?_
    refine SatD.ways 27 rfl (fun h2 => ?_) (fun h2 => ?_)
    · (try simp only [cx, ne_eq, abv, Upd.mk.injEq, decide_eq_decide, true_and] at h2)
      try (exfalso; omega)
      all_goals
      refine SatD.skip 13 rfl (by kernel_rfl) (fun _ _ _ h => h) rfl rfl hD ?_
      refine SatD.skip 14 rfl (by kernel_rfl) (fun _ _ _ h => h) rfl rfl hD ?_
      refine SatD.skip 15 rfl (by kernel_rfl) (fun _ _ _ h => h) rfl rfl hD ?_
      refine SatD.take 16 rfl (by kernel_rfl) (fun _ _ _ h => h) rfl rfl hD (fun _ hw => RunV.pick_t rfl rfl) ?_
      refine SatD.done 0 (by kernel_rfl) (SatE.thenC ?_)
      clear hD
      refine SatC.weak (e' := [(3, _), (4, _), (5, _), (6, _), (31, _)]) (by repeat constructor) ?_
      refine SatC.cond_t rfl ?_
      refine SatC.seq ?_
      refine SatC.region ?_
      refine SatL.pu (RunV.assign rfl) rfl ?_
      refine SatL.nil (SatE.thenC ?_)
      refine SatC.ret (SatE.then_ret ?_)
      refine SatE.ret1 rfl rfl ?_
      refine ⟨congrArg Value.bool ?_, hS.sub (List.nil_sublist _)⟩
      clear hS
      first | rfl | (rw [Bool.eq_iff_iff]; simp only [decide_eq_true_eq, decide_eq_false_iff_not, Bool.not_true, Bool.not_false, Bool.not_eq_true', Bool.not_eq_false', beq_iff_eq, beq_eq_false_iff_ne, bne_iff_ne, ne_eq, Int.not_lt, Int.not_le, Decidable.not_not, Bool.and_eq_true, Bool.or_eq_true, Bool.false_eq_true, false_iff, true_iff, iff_false, iff_true] <;> omega) | (exfalso; omega) | (exfalso; simp only [best, abv, decide_eq_true_eq, true_and] at h2; revert h2; (repeat' split) <;> intro hx <;> dsimp only at hx <;> omega)
    · (try simp only [cx, ne_eq, abv, Upd.mk.injEq, decide_eq_decide, true_and] at h2)
      try (exfalso; omega)
      all_goals
      refine SatD.take 13 rfl (by kernel_rfl) (fun _ _ _ h => h) rfl rfl hD (fun _ hw => RunV.loadN hw rfl rfl (by repeat constructor) (by repeat constructor)) ?_
      refine SatD.take 14 rfl (by kernel_rfl) (fun _ _ _ h => h) rfl rfl hD (fun _ hw => RunV.loadN hw rfl rfl (by repeat constructor) (by repeat constructor)) ?_
      refine SatD.eff 15 (by kernel_rfl) rfl rfl (OpW.enter rfl rfl rfl rfl (above_any _ _ _ _ _ _ _) ?_)
      rintro _ w9 ⟨rfl, h⟩
      replace hS := St.callN hS h
      refine keepS (hS.sb (by repeat constructor)) (fun hD => ?_)
      refine SatD.take 16 rfl (by kernel_rfl) (fun _ _ _ h => h) rfl rfl hD (fun _ hw => RunV.pick_f rfl rfl) ?_
      refine SatD.done 0 (by kernel_rfl) (SatE.thenC ?_)
      clear hD
      refine SatC.weak (e' := [(3, _), (4, _), (5, _), (6, _), (31, _)]) (by repeat constructor) ?_
      refine SatC.cond rfl (fun h3 => ?_) (fun h3 => ?_)
      · (try simp only [cx, ne_eq, abv, Upd.mk.injEq, decide_eq_decide, true_and] at h3)
        try (exfalso; omega)
        all_goals
        refine SatC.seq ?_
        refine SatC.region ?_
        refine SatL.pu (RunV.assign rfl) rfl ?_
        refine SatL.nil (SatE.thenC ?_)
        refine SatC.ret (SatE.then_ret ?_)
        refine SatE.ret1 rfl rfl ?_
        refine ⟨congrArg Value.bool ?_, hS.sub (List.nil_sublist _)⟩
        clear hS
        first | rfl | (rw [Bool.eq_iff_iff]; simp only [decide_eq_true_eq, decide_eq_false_iff_not, Bool.not_true, Bool.not_false, Bool.not_eq_true', Bool.not_eq_false', beq_iff_eq, beq_eq_false_iff_ne, bne_iff_ne, ne_eq, Int.not_lt, Int.not_le, Decidable.not_not, Bool.and_eq_true, Bool.or_eq_true, Bool.false_eq_true, false_iff, true_iff, iff_false, iff_true] <;> omega) | (exfalso; omega) | (exfalso; simp only [best, abv, decide_eq_true_eq, true_and] at h3; revert h3; (repeat' split) <;> intro hx <;> dsimp only at hx <;> omega)
      · (try simp only [cx, ne_eq, abv, Upd.mk.injEq, decide_eq_decide, true_and] at h3)
        try (exfalso; omega)
        all_goals
        refine SatC.skip (SatE.thenC ?_)
        refine SatC.seq ?_
        refine SatC.seq ?_
        refine SatC.region ?_
        refine SatL.pu (RunV.loadN hS rfl rfl (by repeat constructor) (by repeat constructor)) rfl ?_
        refine SatL.pu (RunV.loadN hS rfl rfl (by repeat constructor) (by repeat constructor)) rfl ?_
        refine SatL.op rfl (OpW.enter rfl rfl rfl rfl (above_any _ _ _ _ _ _ _) ?_)
        rintro _ w10 ⟨rfl, h⟩
        replace hS := St.callN hS h
        refine SatL.pu (RunV.move rfl) rfl ?_
        refine SatL.guard rfl rfl rfl (fun h4 => ?_) (fun h4 => ?_)
        · (try simp only [cx, ne_eq, abv, Upd.mk.injEq, decide_eq_decide, true_and] at h4)
          try (exfalso; omega)
          all_goals
          refine SatL.pu (RunV.loadN hS rfl rfl (by repeat constructor) (by repeat constructor)) rfl ?_
          refine SatL.guard_y rfl rfl ?_
          refine SatL.pu (RunV.loadN hS rfl rfl (by repeat constructor) (by repeat constructor)) rfl ?_
          refine SatL.guard_y rfl rfl ?_
          refine SatL.op rfl (OpW.enter rfl rfl rfl rfl (above_any _ _ _ _ _ _ _) ?_)
          rintro _ w11 ⟨rfl, h⟩
          replace hS := St.callN hS h
          refine SatL.pu (RunV.pick_t rfl rfl) rfl ?_
          refine SatL.pu (RunV.move rfl) rfl ?_
          refine SatL.guard rfl rfl rfl (fun h5 => ?_) (fun h5 => ?_)
          · (try simp only [cx, ne_eq, abv, Upd.mk.injEq, decide_eq_decide, true_and] at h5)
            try (exfalso; omega)
            all_goals
            refine SatL.pu (RunV.loadN hS rfl rfl (by repeat constructor) (by repeat constructor)) rfl ?_
            refine SatL.guard_y rfl rfl ?_
            refine SatL.pu (RunV.loadN hS rfl rfl (by repeat constructor) (by repeat constructor)) rfl ?_
            refine SatL.guard_y rfl rfl ?_
            refine SatL.op rfl (OpW.enter rfl rfl rfl rfl (above_any _ _ _ _ _ _ _) ?_)
            rintro _ w12 ⟨rfl, h⟩
            replace hS := St.callN hS h
            refine SatL.guard_y rfl rfl ?_
            refine SatL.pu (RunV.not rfl) rfl ?_
            refine SatL.pu (RunV.pick_t rfl rfl) rfl ?_
            refine SatL.nil (SatE.thenC ?_)
            refine SatC.weak (e' := [(3, _), (4, _), (6, _), (45, _)]) (by repeat constructor) ?_
            refine SatC.cond rfl (fun h6 => ?_) (fun h6 => ?_)
            · (try simp only [cx, ne_eq, abv, Upd.mk.injEq, decide_eq_decide, true_and] at h6)
              try (exfalso; omega)
              all_goals
              refine SatC.seq ?_
              refine SatC.region ?_
              refine SatL.pu (RunV.assign rfl) rfl ?_
              refine SatL.nil (SatE.thenC ?_)
              refine SatC.ret (SatE.then_ret ?_)
              refine SatE.ret1 rfl rfl ?_
              refine ⟨congrArg Value.bool ?_, hS.sub (List.nil_sublist _)⟩
              clear hS
              first | rfl | (rw [Bool.eq_iff_iff]; simp only [decide_eq_true_eq, decide_eq_false_iff_not, Bool.not_true, Bool.not_false, Bool.not_eq_true', Bool.not_eq_false', beq_iff_eq, beq_eq_false_iff_ne, bne_iff_ne, ne_eq, Int.not_lt, Int.not_le, Decidable.not_not, Bool.and_eq_true, Bool.or_eq_true, Bool.false_eq_true, false_iff, true_iff, iff_false, iff_true] <;> omega) | (exfalso; omega) | (exfalso; simp only [best, abv, decide_eq_true_eq, true_and] at h6; revert h6; (repeat' split) <;> intro hx <;> dsimp only at hx <;> omega)
            · (try simp only [cx, ne_eq, abv, Upd.mk.injEq, decide_eq_decide, true_and] at h6)
              try (exfalso; omega)
              all_goals
              refine SatC.skip (SatE.thenC ?_)
              refine SatC.seq ?_
              refine SatC.drawnS (hS) (by kernel_rfl) ?_
              clear hS
              intro w13 _ hS hD
              refine SatD.take 0 rfl (by kernel_rfl) (fun _ _ _ h => h) rfl rfl hD (fun _ hw => RunV.loadN hw rfl rfl (by repeat constructor) (by repeat constructor)) ?_
              refine SatD.take 1 rfl (by kernel_rfl) (fun _ _ _ h => h) rfl rfl hD (fun _ hw => RunV.loadN hw rfl rfl (by repeat constructor) (by repeat constructor)) ?_
              refine SatD.take 3 rfl (by kernel_rfl) (fun _ _ _ h => h) rfl rfl hD (fun _ hw => RunV.loadN hw rfl rfl (by repeat constructor) (by repeat constructor)) ?_
              refine SatD.take 4 rfl (by kernel_rfl) (fun _ _ _ h => h) rfl rfl hD (fun _ hw => RunV.loadN hw rfl rfl (by repeat constructor) (by repeat constructor)) ?_
              apply SatD.join2
              · intro hK
                refine SatD.effs [2, 6, 7] (by kernel_rfl) ⟨⟨_, rfl, rfl, OpW.enter rfl rfl rfl rfl (best_any _ _ _ _ _ _ _) ?_⟩, ⟨_, rfl, rfl, OpW.alloc hS rfl rfl (by repeat constructor) ?_⟩, ⟨_, rfl, rfl, OpW.alloc hS rfl rfl (by repeat constructor) ?_⟩, trivial⟩
                · skip
                  rintro _ w14 ⟨rfl, h⟩
                  replace hS := St.callN hS h
                  refine keepS (hS.sb (by repeat constructor)) (fun hD => ?_)
                  refine SatD.effs [5, 6, 7] (by kernel_rfl) ⟨⟨_, rfl, rfl, OpW.enter rfl rfl rfl rfl (best_any _ _ _ _ _ _ _) ?_⟩, ⟨_, rfl, rfl, OpW.alloc hS rfl rfl (by repeat constructor) ?_⟩, ⟨_, rfl, rfl, OpW.alloc hS rfl rfl (by repeat constructor) ?_⟩, trivial⟩
                  · skip
                    rintro _ w15 ⟨rfl, h⟩
                    replace hS := St.callN hS h
                    refine keepS (hS.sb (by repeat constructor)) (fun hD => ?_)
                    refine SatD.effs [6, 7] (by kernel_rfl) ⟨⟨_, rfl, rfl, OpW.alloc hS rfl rfl (by repeat constructor) ?_⟩, ⟨_, rfl, rfl, OpW.alloc hS rfl rfl (by repeat constructor) ?_⟩, trivial⟩
                    · skip
                      intro b7 w16 _ hS
                      refine keepS (hS.sb (by repeat constructor)) (fun hD => ?_)
                      refine SatD.eff 7 (by kernel_rfl) rfl rfl (OpW.alloc hS rfl rfl (by repeat constructor) ?_)
                      intro b8 w17 _ hS
                      refine keepS (hS.sb (by repeat constructor)) (fun hD => ?_)
                      refine SatD.eff 8 (by kernel_rfl) rfl rfl (OpW.store hS rfl rfl (by repeat constructor) (by repeat constructor) (by repeat constructor) rfl rfl ?_)
                      intro w18 hS
                      refine keepS (hS.sb (by repeat constructor)) (fun hD => ?_)
                      refine SatD.eff 9 (by kernel_rfl) rfl rfl (OpW.store hS rfl rfl (by repeat constructor) (by repeat constructor) (by repeat constructor) rfl rfl ?_)
                      intro w19 hS
                      refine keepS (hS.sb (by repeat constructor)) (fun hD => ?_)
                      refine SatD.done 0 (by kernel_rfl) ?_
                      refine SatE.weak (e' := [(6, _), (7, _), (8, _)]) (by repeat constructor) ?_
                      exact hK b8 b7 w19 hS
                    · skip
                      intro b8 w16 _ hS
                      refine keepS (hS.sb (by repeat constructor)) (fun hD => ?_)
                      refine SatD.eff 6 (by kernel_rfl) rfl rfl (OpW.alloc hS rfl rfl (by repeat constructor) ?_)
                      intro b7 w17 _ hS
                      refine keepS (hS.sb (by repeat constructor)) (fun hD => ?_)
                      refine SatD.eff 8 (by kernel_rfl) rfl rfl (OpW.store hS rfl rfl (by repeat constructor) (by repeat constructor) (by repeat constructor) rfl rfl ?_)
                      intro w18 hS
                      refine keepS (hS.sb (by repeat constructor)) (fun hD => ?_)
                      refine SatD.eff 9 (by kernel_rfl) rfl rfl (OpW.store hS rfl rfl (by repeat constructor) (by repeat constructor) (by repeat constructor) rfl rfl ?_)
                      intro w19 hS
                      refine keepS (hS.sb (by repeat constructor)) (fun hD => ?_)
                      refine SatD.done 0 (by kernel_rfl) ?_
                      replace hS := hS.pick 0 rfl rfl
                      replace hS := hS.pick 1 rfl rfl
                      refine SatE.weak (e' := [(6, _), (7, _), (8, _)]) (by repeat constructor) ?_
                      exact hK b8 b7 w19 hS
                  · skip
                    intro b7 w15 _ hS
                    refine keepS (hS.sb (by repeat constructor)) (fun hD => ?_)
                    refine SatD.effs [5, 7] (by kernel_rfl) ⟨⟨_, rfl, rfl, OpW.enter rfl rfl rfl rfl (best_any _ _ _ _ _ _ _) ?_⟩, ⟨_, rfl, rfl, OpW.alloc hS rfl rfl (by repeat constructor) ?_⟩, trivial⟩
                    · skip
                      rintro _ w16 ⟨rfl, h⟩
                      replace hS := St.callN hS h
                      refine keepS (hS.sb (by repeat constructor)) (fun hD => ?_)
                      refine SatD.eff 7 (by kernel_rfl) rfl rfl (OpW.alloc hS rfl rfl (by repeat constructor) ?_)
                      intro b8 w17 _ hS
                      refine keepS (hS.sb (by repeat constructor)) (fun hD => ?_)
                      refine SatD.eff 8 (by kernel_rfl) rfl rfl (OpW.store hS rfl rfl (by repeat constructor) (by repeat constructor) (by repeat constructor) rfl rfl ?_)
                      intro w18 hS
                      refine keepS (hS.sb (by repeat constructor)) (fun hD => ?_)
                      refine SatD.eff 9 (by kernel_rfl) rfl rfl (OpW.store hS rfl rfl (by repeat constructor) (by repeat constructor) (by repeat constructor) rfl rfl ?_)
                      intro w19 hS
                      refine keepS (hS.sb (by repeat constructor)) (fun hD => ?_)
                      refine SatD.done 0 (by kernel_rfl) ?_
                      refine SatE.weak (e' := [(6, _), (7, _), (8, _)]) (by repeat constructor) ?_
                      exact hK b8 b7 w19 hS
                    · skip
                      intro b8 w16 _ hS
                      refine keepS (hS.sb (by repeat constructor)) (fun hD => ?_)
                      refine SatD.eff 5 (by kernel_rfl) rfl rfl (OpW.enter rfl rfl rfl rfl (best_any _ _ _ _ _ _ _) ?_)
                      rintro _ w17 ⟨rfl, h⟩
                      replace hS := St.callN hS h
                      refine keepS (hS.sb (by repeat constructor)) (fun hD => ?_)
                      refine SatD.eff 8 (by kernel_rfl) rfl rfl (OpW.store hS rfl rfl (by repeat constructor) (by repeat constructor) (by repeat constructor) rfl rfl ?_)
                      intro w18 hS
                      refine keepS (hS.sb (by repeat constructor)) (fun hD => ?_)
                      refine SatD.eff 9 (by kernel_rfl) rfl rfl (OpW.store hS rfl rfl (by repeat constructor) (by repeat constructor) (by repeat constructor) rfl rfl ?_)
                      intro w19 hS
                      refine keepS (hS.sb (by repeat constructor)) (fun hD => ?_)
                      refine SatD.done 0 (by kernel_rfl) ?_
                      refine SatE.weak (e' := [(6, _), (7, _), (8, _)]) (by repeat constructor) ?_
                      exact hK b8 b7 w19 hS
                  · skip
                    intro b8 w15 _ hS
                    refine keepS (hS.sb (by repeat constructor)) (fun hD => ?_)
                    refine SatD.effs [5, 6] (by kernel_rfl) ⟨⟨_, rfl, rfl, OpW.enter rfl rfl rfl rfl (best_any _ _ _ _ _ _ _) ?_⟩, ⟨_, rfl, rfl, OpW.alloc hS rfl rfl (by repeat constructor) ?_⟩, trivial⟩
                    · skip
                      rintro _ w16 ⟨rfl, h⟩
                      replace hS := St.callN hS h
                      refine keepS (hS.sb (by repeat constructor)) (fun hD => ?_)
                      refine SatD.eff 6 (by kernel_rfl) rfl rfl (OpW.alloc hS rfl rfl (by repeat constructor) ?_)
                      intro b7 w17 _ hS
                      refine keepS (hS.sb (by repeat constructor)) (fun hD => ?_)
                      refine SatD.eff 8 (by kernel_rfl) rfl rfl (OpW.store hS rfl rfl (by repeat constructor) (by repeat constructor) (by repeat constructor) rfl rfl ?_)
                      intro w18 hS
                      refine keepS (hS.sb (by repeat constructor)) (fun hD => ?_)
                      refine SatD.eff 9 (by kernel_rfl) rfl rfl (OpW.store hS rfl rfl (by repeat constructor) (by repeat constructor) (by repeat constructor) rfl rfl ?_)
                      intro w19 hS
                      refine keepS (hS.sb (by repeat constructor)) (fun hD => ?_)
                      refine SatD.done 0 (by kernel_rfl) ?_
                      replace hS := hS.pick 0 rfl rfl
                      replace hS := hS.pick 1 rfl rfl
                      refine SatE.weak (e' := [(6, _), (7, _), (8, _)]) (by repeat constructor) ?_
                      exact hK b8 b7 w19 hS
                    · skip
                      intro b7 w16 _ hS
                      refine keepS (hS.sb (by repeat constructor)) (fun hD => ?_)
                      refine SatD.eff 5 (by kernel_rfl) rfl rfl (OpW.enter rfl rfl rfl rfl (best_any _ _ _ _ _ _ _) ?_)
                      rintro _ w17 ⟨rfl, h⟩
                      replace hS := St.callN hS h
                      refine keepS (hS.sb (by repeat constructor)) (fun hD => ?_)
                      refine SatD.eff 8 (by kernel_rfl) rfl rfl (OpW.store hS rfl rfl (by repeat constructor) (by repeat constructor) (by repeat constructor) rfl rfl ?_)
                      intro w18 hS
                      refine keepS (hS.sb (by repeat constructor)) (fun hD => ?_)
                      refine SatD.eff 9 (by kernel_rfl) rfl rfl (OpW.store hS rfl rfl (by repeat constructor) (by repeat constructor) (by repeat constructor) rfl rfl ?_)
                      intro w19 hS
                      refine keepS (hS.sb (by repeat constructor)) (fun hD => ?_)
                      refine SatD.done 0 (by kernel_rfl) ?_
                      replace hS := hS.pick 0 rfl rfl
                      replace hS := hS.pick 1 rfl rfl
                      refine SatE.weak (e' := [(6, _), (7, _), (8, _)]) (by repeat constructor) ?_
                      exact hK b8 b7 w19 hS
                · skip
                  intro b7 w14 _ hS
                  refine keepS (hS.sb (by repeat constructor)) (fun hD => ?_)
                  refine SatD.effs [2, 7] (by kernel_rfl) ⟨⟨_, rfl, rfl, OpW.enter rfl rfl rfl rfl (best_any _ _ _ _ _ _ _) ?_⟩, ⟨_, rfl, rfl, OpW.alloc hS rfl rfl (by repeat constructor) ?_⟩, trivial⟩
                  · skip
                    rintro _ w15 ⟨rfl, h⟩
                    replace hS := St.callN hS h
                    refine keepS (hS.sb (by repeat constructor)) (fun hD => ?_)
                    refine SatD.effs [5, 7] (by kernel_rfl) ⟨⟨_, rfl, rfl, OpW.enter rfl rfl rfl rfl (best_any _ _ _ _ _ _ _) ?_⟩, ⟨_, rfl, rfl, OpW.alloc hS rfl rfl (by repeat constructor) ?_⟩, trivial⟩
                    · skip
                      rintro _ w16 ⟨rfl, h⟩
                      replace hS := St.callN hS h
                      refine keepS (hS.sb (by repeat constructor)) (fun hD => ?_)
                      refine SatD.eff 7 (by kernel_rfl) rfl rfl (OpW.alloc hS rfl rfl (by repeat constructor) ?_)
                      intro b8 w17 _ hS
                      refine keepS (hS.sb (by repeat constructor)) (fun hD => ?_)
                      refine SatD.eff 8 (by kernel_rfl) rfl rfl (OpW.store hS rfl rfl (by repeat constructor) (by repeat constructor) (by repeat constructor) rfl rfl ?_)
                      intro w18 hS
                      refine keepS (hS.sb (by repeat constructor)) (fun hD => ?_)
                      refine SatD.eff 9 (by kernel_rfl) rfl rfl (OpW.store hS rfl rfl (by repeat constructor) (by repeat constructor) (by repeat constructor) rfl rfl ?_)
                      intro w19 hS
                      refine keepS (hS.sb (by repeat constructor)) (fun hD => ?_)
                      refine SatD.done 0 (by kernel_rfl) ?_
                      refine SatE.weak (e' := [(6, _), (7, _), (8, _)]) (by repeat constructor) ?_
                      exact hK b8 b7 w19 hS
                    · skip
                      intro b8 w16 _ hS
                      refine keepS (hS.sb (by repeat constructor)) (fun hD => ?_)
                      refine SatD.eff 5 (by kernel_rfl) rfl rfl (OpW.enter rfl rfl rfl rfl (best_any _ _ _ _ _ _ _) ?_)
                      rintro _ w17 ⟨rfl, h⟩
                      replace hS := St.callN hS h
                      refine keepS (hS.sb (by repeat constructor)) (fun hD => ?_)
                      refine SatD.eff 8 (by kernel_rfl) rfl rfl (OpW.store hS rfl rfl (by repeat constructor) (by repeat constructor) (by repeat constructor) rfl rfl ?_)
                      intro w18 hS
                      refine keepS (hS.sb (by repeat constructor)) (fun hD => ?_)
                      refine SatD.eff 9 (by kernel_rfl) rfl rfl (OpW.store hS rfl rfl (by repeat constructor) (by repeat constructor) (by repeat constructor) rfl rfl ?_)
                      intro w19 hS
                      refine keepS (hS.sb (by repeat constructor)) (fun hD => ?_)
                      refine SatD.done 0 (by kernel_rfl) ?_
                      refine SatE.weak (e' := [(6, _), (7, _), (8, _)]) (by repeat constructor) ?_
                      exact hK b8 b7 w19 hS
                  · skip
                    intro b8 w15 _ hS
                    refine keepS (hS.sb (by repeat constructor)) (fun hD => ?_)
                    refine SatD.eff 2 (by kernel_rfl) rfl rfl (OpW.enter rfl rfl rfl rfl (best_any _ _ _ _ _ _ _) ?_)
                    rintro _ w16 ⟨rfl, h⟩
                    replace hS := St.callN hS h
                    refine keepS (hS.sb (by repeat constructor)) (fun hD => ?_)
                    refine SatD.eff 5 (by kernel_rfl) rfl rfl (OpW.enter rfl rfl rfl rfl (best_any _ _ _ _ _ _ _) ?_)
                    rintro _ w17 ⟨rfl, h⟩
                    replace hS := St.callN hS h
                    refine keepS (hS.sb (by repeat constructor)) (fun hD => ?_)
                    refine SatD.eff 8 (by kernel_rfl) rfl rfl (OpW.store hS rfl rfl (by repeat constructor) (by repeat constructor) (by repeat constructor) rfl rfl ?_)
                    intro w18 hS
                    refine keepS (hS.sb (by repeat constructor)) (fun hD => ?_)
                    refine SatD.eff 9 (by kernel_rfl) rfl rfl (OpW.store hS rfl rfl (by repeat constructor) (by repeat constructor) (by repeat constructor) rfl rfl ?_)
                    intro w19 hS
                    refine keepS (hS.sb (by repeat constructor)) (fun hD => ?_)
                    refine SatD.done 0 (by kernel_rfl) ?_
                    refine SatE.weak (e' := [(6, _), (7, _), (8, _)]) (by repeat constructor) ?_
                    exact hK b8 b7 w19 hS
                · skip
                  intro b8 w14 _ hS
                  refine keepS (hS.sb (by repeat constructor)) (fun hD => ?_)
                  refine SatD.effs [2, 6] (by kernel_rfl) ⟨⟨_, rfl, rfl, OpW.enter rfl rfl rfl rfl (best_any _ _ _ _ _ _ _) ?_⟩, ⟨_, rfl, rfl, OpW.alloc hS rfl rfl (by repeat constructor) ?_⟩, trivial⟩
                  · skip
                    rintro _ w15 ⟨rfl, h⟩
                    replace hS := St.callN hS h
                    refine keepS (hS.sb (by repeat constructor)) (fun hD => ?_)
                    refine SatD.effs [5, 6] (by kernel_rfl) ⟨⟨_, rfl, rfl, OpW.enter rfl rfl rfl rfl (best_any _ _ _ _ _ _ _) ?_⟩, ⟨_, rfl, rfl, OpW.alloc hS rfl rfl (by repeat constructor) ?_⟩, trivial⟩
                    · skip
                      rintro _ w16 ⟨rfl, h⟩
                      replace hS := St.callN hS h
                      refine keepS (hS.sb (by repeat constructor)) (fun hD => ?_)
                      refine SatD.eff 6 (by kernel_rfl) rfl rfl (OpW.alloc hS rfl rfl (by repeat constructor) ?_)
                      intro b7 w17 _ hS
                      refine keepS (hS.sb (by repeat constructor)) (fun hD => ?_)
                      refine SatD.eff 8 (by kernel_rfl) rfl rfl (OpW.store hS rfl rfl (by repeat constructor) (by repeat constructor) (by repeat constructor) rfl rfl ?_)
                      intro w18 hS
                      refine keepS (hS.sb (by repeat constructor)) (fun hD => ?_)
                      refine SatD.eff 9 (by kernel_rfl) rfl rfl (OpW.store hS rfl rfl (by repeat constructor) (by repeat constructor) (by repeat constructor) rfl rfl ?_)
                      intro w19 hS
                      refine keepS (hS.sb (by repeat constructor)) (fun hD => ?_)
                      refine SatD.done 0 (by kernel_rfl) ?_
                      replace hS := hS.pick 0 rfl rfl
                      replace hS := hS.pick 1 rfl rfl
                      refine SatE.weak (e' := [(6, _), (7, _), (8, _)]) (by repeat constructor) ?_
                      exact hK b8 b7 w19 hS
                    · skip
                      intro b7 w16 _ hS
                      refine keepS (hS.sb (by repeat constructor)) (fun hD => ?_)
                      refine SatD.eff 5 (by kernel_rfl) rfl rfl (OpW.enter rfl rfl rfl rfl (best_any _ _ _ _ _ _ _) ?_)
                      rintro _ w17 ⟨rfl, h⟩
                      replace hS := St.callN hS h
                      refine keepS (hS.sb (by repeat constructor)) (fun hD => ?_)
                      refine SatD.eff 8 (by kernel_rfl) rfl rfl (OpW.store hS rfl rfl (by repeat constructor) (by repeat constructor) (by repeat constructor) rfl rfl ?_)
                      intro w18 hS
                      refine keepS (hS.sb (by repeat constructor)) (fun hD => ?_)
                      refine SatD.eff 9 (by kernel_rfl) rfl rfl (OpW.store hS rfl rfl (by repeat constructor) (by repeat constructor) (by repeat constructor) rfl rfl ?_)
                      intro w19 hS
                      refine keepS (hS.sb (by repeat constructor)) (fun hD => ?_)
                      refine SatD.done 0 (by kernel_rfl) ?_
                      replace hS := hS.pick 0 rfl rfl
                      replace hS := hS.pick 1 rfl rfl
                      refine SatE.weak (e' := [(6, _), (7, _), (8, _)]) (by repeat constructor) ?_
                      exact hK b8 b7 w19 hS
                  · skip
                    intro b7 w15 _ hS
                    refine keepS (hS.sb (by repeat constructor)) (fun hD => ?_)
                    refine SatD.eff 2 (by kernel_rfl) rfl rfl (OpW.enter rfl rfl rfl rfl (best_any _ _ _ _ _ _ _) ?_)
                    rintro _ w16 ⟨rfl, h⟩
                    replace hS := St.callN hS h
                    refine keepS (hS.sb (by repeat constructor)) (fun hD => ?_)
                    refine SatD.eff 5 (by kernel_rfl) rfl rfl (OpW.enter rfl rfl rfl rfl (best_any _ _ _ _ _ _ _) ?_)
                    rintro _ w17 ⟨rfl, h⟩
                    replace hS := St.callN hS h
                    refine keepS (hS.sb (by repeat constructor)) (fun hD => ?_)
                    refine SatD.eff 8 (by kernel_rfl) rfl rfl (OpW.store hS rfl rfl (by repeat constructor) (by repeat constructor) (by repeat constructor) rfl rfl ?_)
                    intro w18 hS
                    refine keepS (hS.sb (by repeat constructor)) (fun hD => ?_)
                    refine SatD.eff 9 (by kernel_rfl) rfl rfl (OpW.store hS rfl rfl (by repeat constructor) (by repeat constructor) (by repeat constructor) rfl rfl ?_)
                    intro w19 hS
                    refine keepS (hS.sb (by repeat constructor)) (fun hD => ?_)
                    refine SatD.done 0 (by kernel_rfl) ?_
                    replace hS := hS.pick 0 rfl rfl
                    replace hS := hS.pick 1 rfl rfl
                    refine SatE.weak (e' := [(6, _), (7, _), (8, _)]) (by repeat constructor) ?_
                    exact hK b8 b7 w19 hS
              intro b8 b7 w64 hS
              refine SatE.thenC ?_
              refine SatC.seq ?_
              refine SatC.region ?_
              refine SatL.pu (RunV.loadN hS rfl rfl (by repeat constructor) (by repeat constructor)) rfl ?_
              refine SatL.pu (RunV.loadN hS rfl rfl (by repeat constructor) (by repeat constructor)) rfl ?_
              refine SatL.pu (RunV.bin rfl rfl (guard24 _ _ _ _ _ _ _ _ _ _) (run_eql24 _ _ _ _ _ _ _)) rfl ?_
              refine SatL.pu (RunV.move rfl) rfl ?_
              refine SatL.guard rfl rfl rfl (fun h7 => ?_) (fun h7 => ?_)
              · (try simp only [cx, ne_eq, abv, Upd.mk.injEq, decide_eq_decide, true_and] at h7)
                try (exfalso; omega)
                all_goals
                refine SatL.op rfl (OpW.enter rfl rfl rfl rfl (works_any _) ?_)
                rintro _ w65 ⟨rfl, h⟩
                replace hS := St.callN hS h
                refine SatL.pu (RunV.pick_t rfl rfl) rfl ?_
                refine SatL.pu (RunV.assign rfl) rfl ?_
                refine SatL.nil (SatE.thenC ?_)
                refine SatC.ret ?_
                refine SatE.ret1 rfl rfl ?_
                refine ⟨congrArg Value.bool ?_, hS.sub (List.nil_sublist _)⟩
                clear hS
                first | rfl | (rw [Bool.eq_iff_iff]; simp only [decide_eq_true_eq, decide_eq_false_iff_not, Bool.not_true, Bool.not_false, Bool.not_eq_true', Bool.not_eq_false', beq_iff_eq, beq_eq_false_iff_ne, bne_iff_ne, ne_eq, Int.not_lt, Int.not_le, Decidable.not_not, Bool.and_eq_true, Bool.or_eq_true, Bool.false_eq_true, false_iff, true_iff, iff_false, iff_true] <;> omega) | (exfalso; omega) | (exfalso; simp only [best, abv, decide_eq_true_eq, true_and] at h7; revert h7; (repeat' split) <;> intro hx <;> dsimp only at hx <;> omega)
              · (try simp only [cx, ne_eq, abv, Upd.mk.injEq, decide_eq_decide, true_and] at h7)
                try (exfalso; omega)
                all_goals
                refine SatL.pu (RunV.pick_f rfl rfl) rfl ?_
                refine SatL.pu (RunV.assign rfl) rfl ?_
                refine SatL.nil (SatE.thenC ?_)
                refine SatC.ret ?_
                refine SatE.ret1 rfl rfl ?_
                refine ⟨congrArg Value.bool ?_, hS.sub (List.nil_sublist _)⟩
                clear hS
                first | rfl | (rw [Bool.eq_iff_iff]; simp only [decide_eq_true_eq, decide_eq_false_iff_not, Bool.not_true, Bool.not_false, Bool.not_eq_true', Bool.not_eq_false', beq_iff_eq, beq_eq_false_iff_ne, bne_iff_ne, ne_eq, Int.not_lt, Int.not_le, Decidable.not_not, Bool.and_eq_true, Bool.or_eq_true, Bool.false_eq_true, false_iff, true_iff, iff_false, iff_true] <;> omega) | (exfalso; omega) | (exfalso; simp only [best, abv, decide_eq_true_eq, true_and] at h7; revert h7; (repeat' split) <;> intro hx <;> dsimp only at hx <;> omega)
          · (try simp only [cx, ne_eq, abv, Upd.mk.injEq, decide_eq_decide, true_and] at h5)
            try (exfalso; omega)
            all_goals
            refine SatL.guard_n rfl rfl rfl rfl ?_
            refine SatL.guard_n rfl rfl rfl rfl ?_
            refine SatL.guard_n rfl rfl rfl rfl ?_
            refine SatL.pu (RunV.pick_f rfl rfl) rfl ?_
            refine SatL.nil (SatE.thenC ?_)
            refine SatC.weak (e' := [(3, _), (4, _), (6, _), (45, _)]) (by repeat constructor) ?_
            refine SatC.cond_f rfl ?_
            refine SatC.skip (SatE.thenC ?_)
            refine SatC.seq ?_
            refine SatC.drawnS (hS) (by kernel_rfl) ?_
            clear hS
            intro w12 _ hS hD
            refine SatD.take 0 rfl (by kernel_rfl) (fun _ _ _ h => h) rfl rfl hD (fun _ hw => RunV.loadN hw rfl rfl (by repeat constructor) (by repeat constructor)) ?_
            refine SatD.take 1 rfl (by kernel_rfl) (fun _ _ _ h => h) rfl rfl hD (fun _ hw => RunV.loadN hw rfl rfl (by repeat constructor) (by repeat constructor)) ?_
            refine SatD.take 3 rfl (by kernel_rfl) (fun _ _ _ h => h) rfl rfl hD (fun _ hw => RunV.loadN hw rfl rfl (by repeat constructor) (by repeat constructor)) ?_
            refine SatD.take 4 rfl (by kernel_rfl) (fun _ _ _ h => h) rfl rfl hD (fun _ hw => RunV.loadN hw rfl rfl (by repeat constructor) (by repeat constructor)) ?_
            apply SatD.join2
            · intro hK
              refine SatD.effs [2, 6, 7] (by kernel_rfl) ⟨⟨_, rfl, rfl, OpW.enter rfl rfl rfl rfl (best_any _ _ _ _ _ _ _) ?_⟩, ⟨_, rfl, rfl, OpW.alloc hS rfl rfl (by repeat constructor) ?_⟩, ⟨_, rfl, rfl, OpW.alloc hS rfl rfl (by repeat constructor) ?_⟩, trivial⟩
              · skip
                rintro _ w13 ⟨rfl, h⟩
                replace hS := St.callN hS h
                refine keepS (hS.sb (by repeat constructor)) (fun hD => ?_)
                refine SatD.effs [5, 6, 7] (by kernel_rfl) ⟨⟨_, rfl, rfl, OpW.enter rfl rfl rfl rfl (best_any _ _ _ _ _ _ _) ?_⟩, ⟨_, rfl, rfl, OpW.alloc hS rfl rfl (by repeat constructor) ?_⟩, ⟨_, rfl, rfl, OpW.alloc hS rfl rfl (by repeat constructor) ?_⟩, trivial⟩
                · skip
                  rintro _ w14 ⟨rfl, h⟩
                  replace hS := St.callN hS h
                  refine keepS (hS.sb (by repeat constructor)) (fun hD => ?_)
                  refine SatD.effs [6, 7] (by kernel_rfl) ⟨⟨_, rfl, rfl, OpW.alloc hS rfl rfl (by repeat constructor) ?_⟩, ⟨_, rfl, rfl, OpW.alloc hS rfl rfl (by repeat constructor) ?_⟩, trivial⟩
                  · skip
                    intro b7 w15 _ hS
                    refine keepS (hS.sb (by repeat constructor)) (fun hD => ?_)
                    refine SatD.eff 7 (by kernel_rfl) rfl rfl (OpW.alloc hS rfl rfl (by repeat constructor) ?_)
                    intro b8 w16 _ hS
                    refine keepS (hS.sb (by repeat constructor)) (fun hD => ?_)
                    refine SatD.eff 8 (by kernel_rfl) rfl rfl (OpW.store hS rfl rfl (by repeat constructor) (by repeat constructor) (by repeat constructor) rfl rfl ?_)
                    intro w17 hS
                    refine keepS (hS.sb (by repeat constructor)) (fun hD => ?_)
                    refine SatD.eff 9 (by kernel_rfl) rfl rfl (OpW.store hS rfl rfl (by repeat constructor) (by repeat constructor) (by repeat constructor) rfl rfl ?_)
                    intro w18 hS
                    refine keepS (hS.sb (by repeat constructor)) (fun hD => ?_)
                    refine SatD.done 0 (by kernel_rfl) ?_
                    refine SatE.weak (e' := [(6, _), (7, _), (8, _)]) (by repeat constructor) ?_
                    exact hK b8 b7 w18 hS
                  · skip
                    intro b8 w15 _ hS
                    refine keepS (hS.sb (by repeat constructor)) (fun hD => ?_)
                    refine SatD.eff 6 (by kernel_rfl) rfl rfl (OpW.alloc hS rfl rfl (by repeat constructor) ?_)
                    intro b7 w16 _ hS
                    refine keepS (hS.sb (by repeat constructor)) (fun hD => ?_)
                    refine SatD.eff 8 (by kernel_rfl) rfl rfl (OpW.store hS rfl rfl (by repeat constructor) (by repeat constructor) (by repeat constructor) rfl rfl ?_)
                    intro w17 hS
                    refine keepS (hS.sb (by repeat constructor)) (fun hD => ?_)
                    refine SatD.eff 9 (by kernel_rfl) rfl rfl (OpW.store hS rfl rfl (by repeat constructor) (by repeat constructor) (by repeat constructor) rfl rfl ?_)
                    intro w18 hS
                    refine keepS (hS.sb (by repeat constructor)) (fun hD => ?_)
                    refine SatD.done 0 (by kernel_rfl) ?_
                    replace hS := hS.pick 0 rfl rfl
                    replace hS := hS.pick 1 rfl rfl
                    refine SatE.weak (e' := [(6, _), (7, _), (8, _)]) (by repeat constructor) ?_
                    exact hK b8 b7 w18 hS
                · skip
                  intro b7 w14 _ hS
                  refine keepS (hS.sb (by repeat constructor)) (fun hD => ?_)
                  refine SatD.effs [5, 7] (by kernel_rfl) ⟨⟨_, rfl, rfl, OpW.enter rfl rfl rfl rfl (best_any _ _ _ _ _ _ _) ?_⟩, ⟨_, rfl, rfl, OpW.alloc hS rfl rfl (by repeat constructor) ?_⟩, trivial⟩
                  · skip
                    rintro _ w15 ⟨rfl, h⟩
                    replace hS := St.callN hS h
                    refine keepS (hS.sb (by repeat constructor)) (fun hD => ?_)
                    refine SatD.eff 7 (by kernel_rfl) rfl rfl (OpW.alloc hS rfl rfl (by repeat constructor) ?_)
                    intro b8 w16 _ hS
                    refine keepS (hS.sb (by repeat constructor)) (fun hD => ?_)
                    refine SatD.eff 8 (by kernel_rfl) rfl rfl (OpW.store hS rfl rfl (by repeat constructor) (by repeat constructor) (by repeat constructor) rfl rfl ?_)
                    intro w17 hS
                    refine keepS (hS.sb (by repeat constructor)) (fun hD => ?_)
                    refine SatD.eff 9 (by kernel_rfl) rfl rfl (OpW.store hS rfl rfl (by repeat constructor) (by repeat constructor) (by repeat constructor) rfl rfl ?_)
                    intro w18 hS
                    refine keepS (hS.sb (by repeat constructor)) (fun hD => ?_)
                    refine SatD.done 0 (by kernel_rfl) ?_
                    refine SatE.weak (e' := [(6, _), (7, _), (8, _)]) (by repeat constructor) ?_
                    exact hK b8 b7 w18 hS
                  · skip
                    intro b8 w15 _ hS
                    refine keepS (hS.sb (by repeat constructor)) (fun hD => ?_)
                    refine SatD.eff 5 (by kernel_rfl) rfl rfl (OpW.enter rfl rfl rfl rfl (best_any _ _ _ _ _ _ _) ?_)
                    rintro _ w16 ⟨rfl, h⟩
                    replace hS := St.callN hS h
                    refine keepS (hS.sb (by repeat constructor)) (fun hD => ?_)
                    refine SatD.eff 8 (by kernel_rfl) rfl rfl (OpW.store hS rfl rfl (by repeat constructor) (by repeat constructor) (by repeat constructor) rfl rfl ?_)
                    intro w17 hS
                    refine keepS (hS.sb (by repeat constructor)) (fun hD => ?_)
                    refine SatD.eff 9 (by kernel_rfl) rfl rfl (OpW.store hS rfl rfl (by repeat constructor) (by repeat constructor) (by repeat constructor) rfl rfl ?_)
                    intro w18 hS
                    refine keepS (hS.sb (by repeat constructor)) (fun hD => ?_)
                    refine SatD.done 0 (by kernel_rfl) ?_
                    refine SatE.weak (e' := [(6, _), (7, _), (8, _)]) (by repeat constructor) ?_
                    exact hK b8 b7 w18 hS
                · skip
                  intro b8 w14 _ hS
                  refine keepS (hS.sb (by repeat constructor)) (fun hD => ?_)
                  refine SatD.effs [5, 6] (by kernel_rfl) ⟨⟨_, rfl, rfl, OpW.enter rfl rfl rfl rfl (best_any _ _ _ _ _ _ _) ?_⟩, ⟨_, rfl, rfl, OpW.alloc hS rfl rfl (by repeat constructor) ?_⟩, trivial⟩
                  · skip
                    rintro _ w15 ⟨rfl, h⟩
                    replace hS := St.callN hS h
                    refine keepS (hS.sb (by repeat constructor)) (fun hD => ?_)
                    refine SatD.eff 6 (by kernel_rfl) rfl rfl (OpW.alloc hS rfl rfl (by repeat constructor) ?_)
                    intro b7 w16 _ hS
                    refine keepS (hS.sb (by repeat constructor)) (fun hD => ?_)
                    refine SatD.eff 8 (by kernel_rfl) rfl rfl (OpW.store hS rfl rfl (by repeat constructor) (by repeat constructor) (by repeat constructor) rfl rfl ?_)
                    intro w17 hS
                    refine keepS (hS.sb (by repeat constructor)) (fun hD => ?_)
                    refine SatD.eff 9 (by kernel_rfl) rfl rfl (OpW.store hS rfl rfl (by repeat constructor) (by repeat constructor) (by repeat constructor) rfl rfl ?_)
                    intro w18 hS
                    refine keepS (hS.sb (by repeat constructor)) (fun hD => ?_)
                    refine SatD.done 0 (by kernel_rfl) ?_
                    replace hS := hS.pick 0 rfl rfl
                    replace hS := hS.pick 1 rfl rfl
                    refine SatE.weak (e' := [(6, _), (7, _), (8, _)]) (by repeat constructor) ?_
                    exact hK b8 b7 w18 hS
                  · skip
                    intro b7 w15 _ hS
                    refine keepS (hS.sb (by repeat constructor)) (fun hD => ?_)
                    refine SatD.eff 5 (by kernel_rfl) rfl rfl (OpW.enter rfl rfl rfl rfl (best_any _ _ _ _ _ _ _) ?_)
                    rintro _ w16 ⟨rfl, h⟩
                    replace hS := St.callN hS h
                    refine keepS (hS.sb (by repeat constructor)) (fun hD => ?_)
                    refine SatD.eff 8 (by kernel_rfl) rfl rfl (OpW.store hS rfl rfl (by repeat constructor) (by repeat constructor) (by repeat constructor) rfl rfl ?_)
                    intro w17 hS
                    refine keepS (hS.sb (by repeat constructor)) (fun hD => ?_)
                    refine SatD.eff 9 (by kernel_rfl) rfl rfl (OpW.store hS rfl rfl (by repeat constructor) (by repeat constructor) (by repeat constructor) rfl rfl ?_)
                    intro w18 hS
                    refine keepS (hS.sb (by repeat constructor)) (fun hD => ?_)
                    refine SatD.done 0 (by kernel_rfl) ?_
                    replace hS := hS.pick 0 rfl rfl
                    replace hS := hS.pick 1 rfl rfl
                    refine SatE.weak (e' := [(6, _), (7, _), (8, _)]) (by repeat constructor) ?_
                    exact hK b8 b7 w18 hS
              · skip
                intro b7 w13 _ hS
                refine keepS (hS.sb (by repeat constructor)) (fun hD => ?_)
                refine SatD.effs [2, 7] (by kernel_rfl) ⟨⟨_, rfl, rfl, OpW.enter rfl rfl rfl rfl (best_any _ _ _ _ _ _ _) ?_⟩, ⟨_, rfl, rfl, OpW.alloc hS rfl rfl (by repeat constructor) ?_⟩, trivial⟩
                · skip
                  rintro _ w14 ⟨rfl, h⟩
                  replace hS := St.callN hS h
                  refine keepS (hS.sb (by repeat constructor)) (fun hD => ?_)
                  refine SatD.effs [5, 7] (by kernel_rfl) ⟨⟨_, rfl, rfl, OpW.enter rfl rfl rfl rfl (best_any _ _ _ _ _ _ _) ?_⟩, ⟨_, rfl, rfl, OpW.alloc hS rfl rfl (by repeat constructor) ?_⟩, trivial⟩
                  · skip
                    rintro _ w15 ⟨rfl, h⟩
                    replace hS := St.callN hS h
                    refine keepS (hS.sb (by repeat constructor)) (fun hD => ?_)
                    refine SatD.eff 7 (by kernel_rfl) rfl rfl (OpW.alloc hS rfl rfl (by repeat constructor) ?_)
                    intro b8 w16 _ hS
                    refine keepS (hS.sb (by repeat constructor)) (fun hD => ?_)
                    refine SatD.eff 8 (by kernel_rfl) rfl rfl (OpW.store hS rfl rfl (by repeat constructor) (by repeat constructor) (by repeat constructor) rfl rfl ?_)
                    intro w17 hS
                    refine keepS (hS.sb (by repeat constructor)) (fun hD => ?_)
                    refine SatD.eff 9 (by kernel_rfl) rfl rfl (OpW.store hS rfl rfl (by repeat constructor) (by repeat constructor) (by repeat constructor) rfl rfl ?_)
                    intro w18 hS
                    refine keepS (hS.sb (by repeat constructor)) (fun hD => ?_)
                    refine SatD.done 0 (by kernel_rfl) ?_
                    refine SatE.weak (e' := [(6, _), (7, _), (8, _)]) (by repeat constructor) ?_
                    exact hK b8 b7 w18 hS
                  · skip
                    intro b8 w15 _ hS
                    refine keepS (hS.sb (by repeat constructor)) (fun hD => ?_)
                    refine SatD.eff 5 (by kernel_rfl) rfl rfl (OpW.enter rfl rfl rfl rfl (best_any _ _ _ _ _ _ _) ?_)
                    rintro _ w16 ⟨rfl, h⟩
                    replace hS := St.callN hS h
                    refine keepS (hS.sb (by repeat constructor)) (fun hD => ?_)
                    refine SatD.eff 8 (by kernel_rfl) rfl rfl (OpW.store hS rfl rfl (by repeat constructor) (by repeat constructor) (by repeat constructor) rfl rfl ?_)
                    intro w17 hS
                    refine keepS (hS.sb (by repeat constructor)) (fun hD => ?_)
                    refine SatD.eff 9 (by kernel_rfl) rfl rfl (OpW.store hS rfl rfl (by repeat constructor) (by repeat constructor) (by repeat constructor) rfl rfl ?_)
                    intro w18 hS
                    refine keepS (hS.sb (by repeat constructor)) (fun hD => ?_)
                    refine SatD.done 0 (by kernel_rfl) ?_
                    refine SatE.weak (e' := [(6, _), (7, _), (8, _)]) (by repeat constructor) ?_
                    exact hK b8 b7 w18 hS
                · skip
                  intro b8 w14 _ hS
                  refine keepS (hS.sb (by repeat constructor)) (fun hD => ?_)
                  refine SatD.eff 2 (by kernel_rfl) rfl rfl (OpW.enter rfl rfl rfl rfl (best_any _ _ _ _ _ _ _) ?_)
                  rintro _ w15 ⟨rfl, h⟩
                  replace hS := St.callN hS h
                  refine keepS (hS.sb (by repeat constructor)) (fun hD => ?_)
                  refine SatD.eff 5 (by kernel_rfl) rfl rfl (OpW.enter rfl rfl rfl rfl (best_any _ _ _ _ _ _ _) ?_)
                  rintro _ w16 ⟨rfl, h⟩
                  replace hS := St.callN hS h
                  refine keepS (hS.sb (by repeat constructor)) (fun hD => ?_)
                  refine SatD.eff 8 (by kernel_rfl) rfl rfl (OpW.store hS rfl rfl (by repeat constructor) (by repeat constructor) (by repeat constructor) rfl rfl ?_)
                  intro w17 hS
                  refine keepS (hS.sb (by repeat constructor)) (fun hD => ?_)
                  refine SatD.eff 9 (by kernel_rfl) rfl rfl (OpW.store hS rfl rfl (by repeat constructor) (by repeat constructor) (by repeat constructor) rfl rfl ?_)
                  intro w18 hS
                  refine keepS (hS.sb (by repeat constructor)) (fun hD => ?_)
                  refine SatD.done 0 (by kernel_rfl) ?_
                  refine SatE.weak (e' := [(6, _), (7, _), (8, _)]) (by repeat constructor) ?_
                  exact hK b8 b7 w18 hS
              · skip
                intro b8 w13 _ hS
                refine keepS (hS.sb (by repeat constructor)) (fun hD => ?_)
                refine SatD.effs [2, 6] (by kernel_rfl) ⟨⟨_, rfl, rfl, OpW.enter rfl rfl rfl rfl (best_any _ _ _ _ _ _ _) ?_⟩, ⟨_, rfl, rfl, OpW.alloc hS rfl rfl (by repeat constructor) ?_⟩, trivial⟩
                · skip
                  rintro _ w14 ⟨rfl, h⟩
                  replace hS := St.callN hS h
                  refine keepS (hS.sb (by repeat constructor)) (fun hD => ?_)
                  refine SatD.effs [5, 6] (by kernel_rfl) ⟨⟨_, rfl, rfl, OpW.enter rfl rfl rfl rfl (best_any _ _ _ _ _ _ _) ?_⟩, ⟨_, rfl, rfl, OpW.alloc hS rfl rfl (by repeat constructor) ?_⟩, trivial⟩
                  · skip
                    rintro _ w15 ⟨rfl, h⟩
                    replace hS := St.callN hS h
                    refine keepS (hS.sb (by repeat constructor)) (fun hD => ?_)
                    refine SatD.eff 6 (by kernel_rfl) rfl rfl (OpW.alloc hS rfl rfl (by repeat constructor) ?_)
                    intro b7 w16 _ hS
                    refine keepS (hS.sb (by repeat constructor)) (fun hD => ?_)
                    refine SatD.eff 8 (by kernel_rfl) rfl rfl (OpW.store hS rfl rfl (by repeat constructor) (by repeat constructor) (by repeat constructor) rfl rfl ?_)
                    intro w17 hS
                    refine keepS (hS.sb (by repeat constructor)) (fun hD => ?_)
                    refine SatD.eff 9 (by kernel_rfl) rfl rfl (OpW.store hS rfl rfl (by repeat constructor) (by repeat constructor) (by repeat constructor) rfl rfl ?_)
                    intro w18 hS
                    refine keepS (hS.sb (by repeat constructor)) (fun hD => ?_)
                    refine SatD.done 0 (by kernel_rfl) ?_
                    replace hS := hS.pick 0 rfl rfl
                    replace hS := hS.pick 1 rfl rfl
                    refine SatE.weak (e' := [(6, _), (7, _), (8, _)]) (by repeat constructor) ?_
                    exact hK b8 b7 w18 hS
                  · skip
                    intro b7 w15 _ hS
                    refine keepS (hS.sb (by repeat constructor)) (fun hD => ?_)
                    refine SatD.eff 5 (by kernel_rfl) rfl rfl (OpW.enter rfl rfl rfl rfl (best_any _ _ _ _ _ _ _) ?_)
                    rintro _ w16 ⟨rfl, h⟩
                    replace hS := St.callN hS h
                    refine keepS (hS.sb (by repeat constructor)) (fun hD => ?_)
                    refine SatD.eff 8 (by kernel_rfl) rfl rfl (OpW.store hS rfl rfl (by repeat constructor) (by repeat constructor) (by repeat constructor) rfl rfl ?_)
                    intro w17 hS
                    refine keepS (hS.sb (by repeat constructor)) (fun hD => ?_)
                    refine SatD.eff 9 (by kernel_rfl) rfl rfl (OpW.store hS rfl rfl (by repeat constructor) (by repeat constructor) (by repeat constructor) rfl rfl ?_)
                    intro w18 hS
                    refine keepS (hS.sb (by repeat constructor)) (fun hD => ?_)
                    refine SatD.done 0 (by kernel_rfl) ?_
                    replace hS := hS.pick 0 rfl rfl
                    replace hS := hS.pick 1 rfl rfl
                    refine SatE.weak (e' := [(6, _), (7, _), (8, _)]) (by repeat constructor) ?_
                    exact hK b8 b7 w18 hS
                · skip
                  intro b7 w14 _ hS
                  refine keepS (hS.sb (by repeat constructor)) (fun hD => ?_)
                  refine SatD.eff 2 (by kernel_rfl) rfl rfl (OpW.enter rfl rfl rfl rfl (best_any _ _ _ _ _ _ _) ?_)
                  rintro _ w15 ⟨rfl, h⟩
                  replace hS := St.callN hS h
                  refine keepS (hS.sb (by repeat constructor)) (fun hD => ?_)
                  refine SatD.eff 5 (by kernel_rfl) rfl rfl (OpW.enter rfl rfl rfl rfl (best_any _ _ _ _ _ _ _) ?_)
                  rintro _ w16 ⟨rfl, h⟩
                  replace hS := St.callN hS h
                  refine keepS (hS.sb (by repeat constructor)) (fun hD => ?_)
                  refine SatD.eff 8 (by kernel_rfl) rfl rfl (OpW.store hS rfl rfl (by repeat constructor) (by repeat constructor) (by repeat constructor) rfl rfl ?_)
                  intro w17 hS
                  refine keepS (hS.sb (by repeat constructor)) (fun hD => ?_)
                  refine SatD.eff 9 (by kernel_rfl) rfl rfl (OpW.store hS rfl rfl (by repeat constructor) (by repeat constructor) (by repeat constructor) rfl rfl ?_)
                  intro w18 hS
                  refine keepS (hS.sb (by repeat constructor)) (fun hD => ?_)
                  refine SatD.done 0 (by kernel_rfl) ?_
                  replace hS := hS.pick 0 rfl rfl
                  replace hS := hS.pick 1 rfl rfl
                  refine SatE.weak (e' := [(6, _), (7, _), (8, _)]) (by repeat constructor) ?_
                  exact hK b8 b7 w18 hS
            intro b8 b7 w63 hS
            refine SatE.thenC ?_
            refine SatC.seq ?_
            refine SatC.region ?_
            refine SatL.pu (RunV.loadN hS rfl rfl (by repeat constructor) (by repeat constructor)) rfl ?_
            refine SatL.pu (RunV.loadN hS rfl rfl (by repeat constructor) (by repeat constructor)) rfl ?_
            refine SatL.pu (RunV.bin rfl rfl (guard24 _ _ _ _ _ _ _ _ _ _) (run_eql24 _ _ _ _ _ _ _)) rfl ?_
            refine SatL.pu (RunV.move rfl) rfl ?_
            refine SatL.guard rfl rfl rfl (fun h6 => ?_) (fun h6 => ?_)
            · (try simp only [cx, ne_eq, abv, Upd.mk.injEq, decide_eq_decide, true_and] at h6)
              try (exfalso; omega)
              all_goals
              refine SatL.op rfl (OpW.enter rfl rfl rfl rfl (works_any _) ?_)
              rintro _ w64 ⟨rfl, h⟩
              replace hS := St.callN hS h
              refine SatL.pu (RunV.pick_t rfl rfl) rfl ?_
              refine SatL.pu (RunV.assign rfl) rfl ?_
              refine SatL.nil (SatE.thenC ?_)
              refine SatC.ret ?_
              refine SatE.ret1 rfl rfl ?_
              refine ⟨congrArg Value.bool ?_, hS.sub (List.nil_sublist _)⟩
              clear hS
              first | rfl | (rw [Bool.eq_iff_iff]; simp only [decide_eq_true_eq, decide_eq_false_iff_not, Bool.not_true, Bool.not_false, Bool.not_eq_true', Bool.not_eq_false', beq_iff_eq, beq_eq_false_iff_ne, bne_iff_ne, ne_eq, Int.not_lt, Int.not_le, Decidable.not_not, Bool.and_eq_true, Bool.or_eq_true, Bool.false_eq_true, false_iff, true_iff, iff_false, iff_true] <;> omega) | (exfalso; omega) | (exfalso; simp only [best, abv, decide_eq_true_eq, true_and] at h6; revert h6; (repeat' split) <;> intro hx <;> dsimp only at hx <;> omega)
            · (try simp only [cx, ne_eq, abv, Upd.mk.injEq, decide_eq_decide, true_and] at h6)
              try (exfalso; omega)
              all_goals
              refine SatL.pu (RunV.pick_f rfl rfl) rfl ?_
              refine SatL.pu (RunV.assign rfl) rfl ?_
              refine SatL.nil (SatE.thenC ?_)
              refine SatC.ret ?_
              refine SatE.ret1 rfl rfl ?_
              refine ⟨congrArg Value.bool ?_, hS.sub (List.nil_sublist _)⟩
              clear hS
              first | rfl | (rw [Bool.eq_iff_iff]; simp only [decide_eq_true_eq, decide_eq_false_iff_not, Bool.not_true, Bool.not_false, Bool.not_eq_true', Bool.not_eq_false', beq_iff_eq, beq_eq_false_iff_ne, bne_iff_ne, ne_eq, Int.not_lt, Int.not_le, Decidable.not_not, Bool.and_eq_true, Bool.or_eq_true, Bool.false_eq_true, false_iff, true_iff, iff_false, iff_true] <;> omega) | (exfalso; omega) | (exfalso; simp only [best, abv, decide_eq_true_eq, true_and] at h6; revert h6; (repeat' split) <;> intro hx <;> dsimp only at hx <;> omega)
        · (try simp only [cx, ne_eq, abv, Upd.mk.injEq, decide_eq_decide, true_and] at h4)
          try (exfalso; omega)
          all_goals
          refine SatL.guard_n rfl rfl rfl rfl ?_
          refine SatL.guard_n rfl rfl rfl rfl ?_
          refine SatL.pu (RunV.pick_f rfl rfl) rfl ?_
          refine SatL.pu (RunV.move rfl) rfl ?_
          refine SatL.guard_n rfl rfl rfl rfl ?_
          refine SatL.guard_n rfl rfl rfl rfl ?_
          refine SatL.guard_n rfl rfl rfl rfl ?_
          refine SatL.guard_n rfl rfl rfl rfl ?_
          refine SatL.pu (RunV.pick_f rfl rfl) rfl ?_
          refine SatL.nil (SatE.thenC ?_)
          refine SatC.weak (e' := [(3, _), (4, _), (6, _), (45, _)]) (by repeat constructor) ?_
          refine SatC.cond_f rfl ?_
          refine SatC.skip (SatE.thenC ?_)
          refine SatC.seq ?_
          refine SatC.drawnS (hS) (by kernel_rfl) ?_
          clear hS
          intro w11 _ hS hD
          refine SatD.take 0 rfl (by kernel_rfl) (fun _ _ _ h => h) rfl rfl hD (fun _ hw => RunV.loadN hw rfl rfl (by repeat constructor) (by repeat constructor)) ?_
          refine SatD.take 1 rfl (by kernel_rfl) (fun _ _ _ h => h) rfl rfl hD (fun _ hw => RunV.loadN hw rfl rfl (by repeat constructor) (by repeat constructor)) ?_
          refine SatD.take 3 rfl (by kernel_rfl) (fun _ _ _ h => h) rfl rfl hD (fun _ hw => RunV.loadN hw rfl rfl (by repeat constructor) (by repeat constructor)) ?_
          refine SatD.take 4 rfl (by kernel_rfl) (fun _ _ _ h => h) rfl rfl hD (fun _ hw => RunV.loadN hw rfl rfl (by repeat constructor) (by repeat constructor)) ?_
          apply SatD.join2
          · intro hK
            refine SatD.effs [2, 6, 7] (by kernel_rfl) ⟨⟨_, rfl, rfl, OpW.enter rfl rfl rfl rfl (best_any _ _ _ _ _ _ _) ?_⟩, ⟨_, rfl, rfl, OpW.alloc hS rfl rfl (by repeat constructor) ?_⟩, ⟨_, rfl, rfl, OpW.alloc hS rfl rfl (by repeat constructor) ?_⟩, trivial⟩
            · skip
              rintro _ w12 ⟨rfl, h⟩
              replace hS := St.callN hS h
              refine keepS (hS.sb (by repeat constructor)) (fun hD => ?_)
              refine SatD.effs [5, 6, 7] (by kernel_rfl) ⟨⟨_, rfl, rfl, OpW.enter rfl rfl rfl rfl (best_any _ _ _ _ _ _ _) ?_⟩, ⟨_, rfl, rfl, OpW.alloc hS rfl rfl (by repeat constructor) ?_⟩, ⟨_, rfl, rfl, OpW.alloc hS rfl rfl (by repeat constructor) ?_⟩, trivial⟩
              · skip
                rintro _ w13 ⟨rfl, h⟩
                replace hS := St.callN hS h
                refine keepS (hS.sb (by repeat constructor)) (fun hD => ?_)
                refine SatD.effs [6, 7] (by kernel_rfl) ⟨⟨_, rfl, rfl, OpW.alloc hS rfl rfl (by repeat constructor) ?_⟩, ⟨_, rfl, rfl, OpW.alloc hS rfl rfl (by repeat constructor) ?_⟩, trivial⟩
                · skip
                  intro b7 w14 _ hS
                  refine keepS (hS.sb (by repeat constructor)) (fun hD => ?_)
                  refine SatD.eff 7 (by kernel_rfl) rfl rfl (OpW.alloc hS rfl rfl (by repeat constructor) ?_)
                  intro b8 w15 _ hS
                  refine keepS (hS.sb (by repeat constructor)) (fun hD => ?_)
                  refine SatD.eff 8 (by kernel_rfl) rfl rfl (OpW.store hS rfl rfl (by repeat constructor) (by repeat constructor) (by repeat constructor) rfl rfl ?_)
                  intro w16 hS
                  refine keepS (hS.sb (by repeat constructor)) (fun hD => ?_)
                  refine SatD.eff 9 (by kernel_rfl) rfl rfl (OpW.store hS rfl rfl (by repeat constructor) (by repeat constructor) (by repeat constructor) rfl rfl ?_)
                  intro w17 hS
                  refine keepS (hS.sb (by repeat constructor)) (fun hD => ?_)
                  refine SatD.done 0 (by kernel_rfl) ?_
                  refine SatE.weak (e' := [(6, _), (7, _), (8, _)]) (by repeat constructor) ?_
                  exact hK b8 b7 w17 hS
                · skip
                  intro b8 w14 _ hS
                  refine keepS (hS.sb (by repeat constructor)) (fun hD => ?_)
                  refine SatD.eff 6 (by kernel_rfl) rfl rfl (OpW.alloc hS rfl rfl (by repeat constructor) ?_)
                  intro b7 w15 _ hS
                  refine keepS (hS.sb (by repeat constructor)) (fun hD => ?_)
                  refine SatD.eff 8 (by kernel_rfl) rfl rfl (OpW.store hS rfl rfl (by repeat constructor) (by repeat constructor) (by repeat constructor) rfl rfl ?_)
                  intro w16 hS
                  refine keepS (hS.sb (by repeat constructor)) (fun hD => ?_)
                  refine SatD.eff 9 (by kernel_rfl) rfl rfl (OpW.store hS rfl rfl (by repeat constructor) (by repeat constructor) (by repeat constructor) rfl rfl ?_)
                  intro w17 hS
                  refine keepS (hS.sb (by repeat constructor)) (fun hD => ?_)
                  refine SatD.done 0 (by kernel_rfl) ?_
                  replace hS := hS.pick 0 rfl rfl
                  replace hS := hS.pick 1 rfl rfl
                  refine SatE.weak (e' := [(6, _), (7, _), (8, _)]) (by repeat constructor) ?_
                  exact hK b8 b7 w17 hS
              · skip
                intro b7 w13 _ hS
                refine keepS (hS.sb (by repeat constructor)) (fun hD => ?_)
                refine SatD.effs [5, 7] (by kernel_rfl) ⟨⟨_, rfl, rfl, OpW.enter rfl rfl rfl rfl (best_any _ _ _ _ _ _ _) ?_⟩, ⟨_, rfl, rfl, OpW.alloc hS rfl rfl (by repeat constructor) ?_⟩, trivial⟩
                · skip
                  rintro _ w14 ⟨rfl, h⟩
                  replace hS := St.callN hS h
                  refine keepS (hS.sb (by repeat constructor)) (fun hD => ?_)
                  refine SatD.eff 7 (by kernel_rfl) rfl rfl (OpW.alloc hS rfl rfl (by repeat constructor) ?_)
                  intro b8 w15 _ hS
                  refine keepS (hS.sb (by repeat constructor)) (fun hD => ?_)
                  refine SatD.eff 8 (by kernel_rfl) rfl rfl (OpW.store hS rfl rfl (by repeat constructor) (by repeat constructor) (by repeat constructor) rfl rfl ?_)
                  intro w16 hS
                  refine keepS (hS.sb (by repeat constructor)) (fun hD => ?_)
                  refine SatD.eff 9 (by kernel_rfl) rfl rfl (OpW.store hS rfl rfl (by repeat constructor) (by repeat constructor) (by repeat constructor) rfl rfl ?_)
                  intro w17 hS
                  refine keepS (hS.sb (by repeat constructor)) (fun hD => ?_)
                  refine SatD.done 0 (by kernel_rfl) ?_
                  refine SatE.weak (e' := [(6, _), (7, _), (8, _)]) (by repeat constructor) ?_
                  exact hK b8 b7 w17 hS
                · skip
                  intro b8 w14 _ hS
                  refine keepS (hS.sb (by repeat constructor)) (fun hD => ?_)
                  refine SatD.eff 5 (by kernel_rfl) rfl rfl (OpW.enter rfl rfl rfl rfl (best_any _ _ _ _ _ _ _) ?_)
                  rintro _ w15 ⟨rfl, h⟩
                  replace hS := St.callN hS h
                  refine keepS (hS.sb (by repeat constructor)) (fun hD => ?_)
                  refine SatD.eff 8 (by kernel_rfl) rfl rfl (OpW.store hS rfl rfl (by repeat constructor) (by repeat constructor) (by repeat constructor) rfl rfl ?_)
                  intro w16 hS
                  refine keepS (hS.sb (by repeat constructor)) (fun hD => ?_)
                  refine SatD.eff 9 (by kernel_rfl) rfl rfl (OpW.store hS rfl rfl (by repeat constructor) (by repeat constructor) (by repeat constructor) rfl rfl ?_)
                  intro w17 hS
                  refine keepS (hS.sb (by repeat constructor)) (fun hD => ?_)
                  refine SatD.done 0 (by kernel_rfl) ?_
                  refine SatE.weak (e' := [(6, _), (7, _), (8, _)]) (by repeat constructor) ?_
                  exact hK b8 b7 w17 hS
              · skip
                intro b8 w13 _ hS
                refine keepS (hS.sb (by repeat constructor)) (fun hD => ?_)
                refine SatD.effs [5, 6] (by kernel_rfl) ⟨⟨_, rfl, rfl, OpW.enter rfl rfl rfl rfl (best_any _ _ _ _ _ _ _) ?_⟩, ⟨_, rfl, rfl, OpW.alloc hS rfl rfl (by repeat constructor) ?_⟩, trivial⟩
                · skip
                  rintro _ w14 ⟨rfl, h⟩
                  replace hS := St.callN hS h
                  refine keepS (hS.sb (by repeat constructor)) (fun hD => ?_)
                  refine SatD.eff 6 (by kernel_rfl) rfl rfl (OpW.alloc hS rfl rfl (by repeat constructor) ?_)
                  intro b7 w15 _ hS
                  refine keepS (hS.sb (by repeat constructor)) (fun hD => ?_)
                  refine SatD.eff 8 (by kernel_rfl) rfl rfl (OpW.store hS rfl rfl (by repeat constructor) (by repeat constructor) (by repeat constructor) rfl rfl ?_)
                  intro w16 hS
                  refine keepS (hS.sb (by repeat constructor)) (fun hD => ?_)
                  refine SatD.eff 9 (by kernel_rfl) rfl rfl (OpW.store hS rfl rfl (by repeat constructor) (by repeat constructor) (by repeat constructor) rfl rfl ?_)
                  intro w17 hS
                  refine keepS (hS.sb (by repeat constructor)) (fun hD => ?_)
                  refine SatD.done 0 (by kernel_rfl) ?_
                  replace hS := hS.pick 0 rfl rfl
                  replace hS := hS.pick 1 rfl rfl
                  refine SatE.weak (e' := [(6, _), (7, _), (8, _)]) (by repeat constructor) ?_
                  exact hK b8 b7 w17 hS
                · skip
                  intro b7 w14 _ hS
                  refine keepS (hS.sb (by repeat constructor)) (fun hD => ?_)
                  refine SatD.eff 5 (by kernel_rfl) rfl rfl (OpW.enter rfl rfl rfl rfl (best_any _ _ _ _ _ _ _) ?_)
                  rintro _ w15 ⟨rfl, h⟩
                  replace hS := St.callN hS h
                  refine keepS (hS.sb (by repeat constructor)) (fun hD => ?_)
                  refine SatD.eff 8 (by kernel_rfl) rfl rfl (OpW.store hS rfl rfl (by repeat constructor) (by repeat constructor) (by repeat constructor) rfl rfl ?_)
                  intro w16 hS
                  refine keepS (hS.sb (by repeat constructor)) (fun hD => ?_)
                  refine SatD.eff 9 (by kernel_rfl) rfl rfl (OpW.store hS rfl rfl (by repeat constructor) (by repeat constructor) (by repeat constructor) rfl rfl ?_)
                  intro w17 hS
                  refine keepS (hS.sb (by repeat constructor)) (fun hD => ?_)
                  refine SatD.done 0 (by kernel_rfl) ?_
                  replace hS := hS.pick 0 rfl rfl
                  replace hS := hS.pick 1 rfl rfl
                  refine SatE.weak (e' := [(6, _), (7, _), (8, _)]) (by repeat constructor) ?_
                  exact hK b8 b7 w17 hS
            · skip
              intro b7 w12 _ hS
              refine keepS (hS.sb (by repeat constructor)) (fun hD => ?_)
              refine SatD.effs [2, 7] (by kernel_rfl) ⟨⟨_, rfl, rfl, OpW.enter rfl rfl rfl rfl (best_any _ _ _ _ _ _ _) ?_⟩, ⟨_, rfl, rfl, OpW.alloc hS rfl rfl (by repeat constructor) ?_⟩, trivial⟩
              · skip
                rintro _ w13 ⟨rfl, h⟩
                replace hS := St.callN hS h
                refine keepS (hS.sb (by repeat constructor)) (fun hD => ?_)
                refine SatD.effs [5, 7] (by kernel_rfl) ⟨⟨_, rfl, rfl, OpW.enter rfl rfl rfl rfl (best_any _ _ _ _ _ _ _) ?_⟩, ⟨_, rfl, rfl, OpW.alloc hS rfl rfl (by repeat constructor) ?_⟩, trivial⟩
                · skip
                  rintro _ w14 ⟨rfl, h⟩
                  replace hS := St.callN hS h
                  refine keepS (hS.sb (by repeat constructor)) (fun hD => ?_)
                  refine SatD.eff 7 (by kernel_rfl) rfl rfl (OpW.alloc hS rfl rfl (by repeat constructor) ?_)
                  intro b8 w15 _ hS
                  refine keepS (hS.sb (by repeat constructor)) (fun hD => ?_)
                  refine SatD.eff 8 (by kernel_rfl) rfl rfl (OpW.store hS rfl rfl (by repeat constructor) (by repeat constructor) (by repeat constructor) rfl rfl ?_)
                  intro w16 hS
                  refine keepS (hS.sb (by repeat constructor)) (fun hD => ?_)
                  refine SatD.eff 9 (by kernel_rfl) rfl rfl (OpW.store hS rfl rfl (by repeat constructor) (by repeat constructor) (by repeat constructor) rfl rfl ?_)
                  intro w17 hS
                  refine keepS (hS.sb (by repeat constructor)) (fun hD => ?_)
                  refine SatD.done 0 (by kernel_rfl) ?_
                  refine SatE.weak (e' := [(6, _), (7, _), (8, _)]) (by repeat constructor) ?_
                  exact hK b8 b7 w17 hS
                · skip
                  intro b8 w14 _ hS
                  refine keepS (hS.sb (by repeat constructor)) (fun hD => ?_)
                  refine SatD.eff 5 (by kernel_rfl) rfl rfl (OpW.enter rfl rfl rfl rfl (best_any _ _ _ _ _ _ _) ?_)
                  rintro _ w15 ⟨rfl, h⟩
                  replace hS := St.callN hS h
                  refine keepS (hS.sb (by repeat constructor)) (fun hD => ?_)
                  refine SatD.eff 8 (by kernel_rfl) rfl rfl (OpW.store hS rfl rfl (by repeat constructor) (by repeat constructor) (by repeat constructor) rfl rfl ?_)
                  intro w16 hS
                  refine keepS (hS.sb (by repeat constructor)) (fun hD => ?_)
                  refine SatD.eff 9 (by kernel_rfl) rfl rfl (OpW.store hS rfl rfl (by repeat constructor) (by repeat constructor) (by repeat constructor) rfl rfl ?_)
                  intro w17 hS
                  refine keepS (hS.sb (by repeat constructor)) (fun hD => ?_)
                  refine SatD.done 0 (by kernel_rfl) ?_
                  refine SatE.weak (e' := [(6, _), (7, _), (8, _)]) (by repeat constructor) ?_
                  exact hK b8 b7 w17 hS
              · skip
                intro b8 w13 _ hS
                refine keepS (hS.sb (by repeat constructor)) (fun hD => ?_)
                refine SatD.eff 2 (by kernel_rfl) rfl rfl (OpW.enter rfl rfl rfl rfl (best_any _ _ _ _ _ _ _) ?_)
                rintro _ w14 ⟨rfl, h⟩
                replace hS := St.callN hS h
                refine keepS (hS.sb (by repeat constructor)) (fun hD => ?_)
                refine SatD.eff 5 (by kernel_rfl) rfl rfl (OpW.enter rfl rfl rfl rfl (best_any _ _ _ _ _ _ _) ?_)
                rintro _ w15 ⟨rfl, h⟩
                replace hS := St.callN hS h
                refine keepS (hS.sb (by repeat constructor)) (fun hD => ?_)
                refine SatD.eff 8 (by kernel_rfl) rfl rfl (OpW.store hS rfl rfl (by repeat constructor) (by repeat constructor) (by repeat constructor) rfl rfl ?_)
                intro w16 hS
                refine keepS (hS.sb (by repeat constructor)) (fun hD => ?_)
                refine SatD.eff 9 (by kernel_rfl) rfl rfl (OpW.store hS rfl rfl (by repeat constructor) (by repeat constructor) (by repeat constructor) rfl rfl ?_)
                intro w17 hS
                refine keepS (hS.sb (by repeat constructor)) (fun hD => ?_)
                refine SatD.done 0 (by kernel_rfl) ?_
                refine SatE.weak (e' := [(6, _), (7, _), (8, _)]) (by repeat constructor) ?_
                exact hK b8 b7 w17 hS
            · skip
              intro b8 w12 _ hS
              refine keepS (hS.sb (by repeat constructor)) (fun hD => ?_)
              refine SatD.effs [2, 6] (by kernel_rfl) ⟨⟨_, rfl, rfl, OpW.enter rfl rfl rfl rfl (best_any _ _ _ _ _ _ _) ?_⟩, ⟨_, rfl, rfl, OpW.alloc hS rfl rfl (by repeat constructor) ?_⟩, trivial⟩
              · skip
                rintro _ w13 ⟨rfl, h⟩
                replace hS := St.callN hS h
                refine keepS (hS.sb (by repeat constructor)) (fun hD => ?_)
                refine SatD.effs [5, 6] (by kernel_rfl) ⟨⟨_, rfl, rfl, OpW.enter rfl rfl rfl rfl (best_any _ _ _ _ _ _ _) ?_⟩, ⟨_, rfl, rfl, OpW.alloc hS rfl rfl (by repeat constructor) ?_⟩, trivial⟩
                · skip
                  rintro _ w14 ⟨rfl, h⟩
                  replace hS := St.callN hS h
                  refine keepS (hS.sb (by repeat constructor)) (fun hD => ?_)
                  refine SatD.eff 6 (by kernel_rfl) rfl rfl (OpW.alloc hS rfl rfl (by repeat constructor) ?_)
                  intro b7 w15 _ hS
                  refine keepS (hS.sb (by repeat constructor)) (fun hD => ?_)
                  refine SatD.eff 8 (by kernel_rfl) rfl rfl (OpW.store hS rfl rfl (by repeat constructor) (by repeat constructor) (by repeat constructor) rfl rfl ?_)
                  intro w16 hS
                  refine keepS (hS.sb (by repeat constructor)) (fun hD => ?_)
                  refine SatD.eff 9 (by kernel_rfl) rfl rfl (OpW.store hS rfl rfl (by repeat constructor) (by repeat constructor) (by repeat constructor) rfl rfl ?_)
                  intro w17 hS
                  refine keepS (hS.sb (by repeat constructor)) (fun hD => ?_)
                  refine SatD.done 0 (by kernel_rfl) ?_
                  replace hS := hS.pick 0 rfl rfl
                  replace hS := hS.pick 1 rfl rfl
                  refine SatE.weak (e' := [(6, _), (7, _), (8, _)]) (by repeat constructor) ?_
                  exact hK b8 b7 w17 hS
                · skip
                  intro b7 w14 _ hS
                  refine keepS (hS.sb (by repeat constructor)) (fun hD => ?_)
                  refine SatD.eff 5 (by kernel_rfl) rfl rfl (OpW.enter rfl rfl rfl rfl (best_any _ _ _ _ _ _ _) ?_)
                  rintro _ w15 ⟨rfl, h⟩
                  replace hS := St.callN hS h
                  refine keepS (hS.sb (by repeat constructor)) (fun hD => ?_)
                  refine SatD.eff 8 (by kernel_rfl) rfl rfl (OpW.store hS rfl rfl (by repeat constructor) (by repeat constructor) (by repeat constructor) rfl rfl ?_)
                  intro w16 hS
                  refine keepS (hS.sb (by repeat constructor)) (fun hD => ?_)
                  refine SatD.eff 9 (by kernel_rfl) rfl rfl (OpW.store hS rfl rfl (by repeat constructor) (by repeat constructor) (by repeat constructor) rfl rfl ?_)
                  intro w17 hS
                  refine keepS (hS.sb (by repeat constructor)) (fun hD => ?_)
                  refine SatD.done 0 (by kernel_rfl) ?_
                  replace hS := hS.pick 0 rfl rfl
                  replace hS := hS.pick 1 rfl rfl
                  refine SatE.weak (e' := [(6, _), (7, _), (8, _)]) (by repeat constructor) ?_
                  exact hK b8 b7 w17 hS
              · skip
                intro b7 w13 _ hS
                refine keepS (hS.sb (by repeat constructor)) (fun hD => ?_)
                refine SatD.eff 2 (by kernel_rfl) rfl rfl (OpW.enter rfl rfl rfl rfl (best_any _ _ _ _ _ _ _) ?_)
                rintro _ w14 ⟨rfl, h⟩
                replace hS := St.callN hS h
                refine keepS (hS.sb (by repeat constructor)) (fun hD => ?_)
                refine SatD.eff 5 (by kernel_rfl) rfl rfl (OpW.enter rfl rfl rfl rfl (best_any _ _ _ _ _ _ _) ?_)
                rintro _ w15 ⟨rfl, h⟩
                replace hS := St.callN hS h
                refine keepS (hS.sb (by repeat constructor)) (fun hD => ?_)
                refine SatD.eff 8 (by kernel_rfl) rfl rfl (OpW.store hS rfl rfl (by repeat constructor) (by repeat constructor) (by repeat constructor) rfl rfl ?_)
                intro w16 hS
                refine keepS (hS.sb (by repeat constructor)) (fun hD => ?_)
                refine SatD.eff 9 (by kernel_rfl) rfl rfl (OpW.store hS rfl rfl (by repeat constructor) (by repeat constructor) (by repeat constructor) rfl rfl ?_)
                intro w17 hS
                refine keepS (hS.sb (by repeat constructor)) (fun hD => ?_)
                refine SatD.done 0 (by kernel_rfl) ?_
                replace hS := hS.pick 0 rfl rfl
                replace hS := hS.pick 1 rfl rfl
                refine SatE.weak (e' := [(6, _), (7, _), (8, _)]) (by repeat constructor) ?_
                exact hK b8 b7 w17 hS
          intro b8 b7 w62 hS
          refine SatE.thenC ?_
          refine SatC.seq ?_
          refine SatC.region ?_
          refine SatL.pu (RunV.loadN hS rfl rfl (by repeat constructor) (by repeat constructor)) rfl ?_
          refine SatL.pu (RunV.loadN hS rfl rfl (by repeat constructor) (by repeat constructor)) rfl ?_
          refine SatL.pu (RunV.bin rfl rfl (guard24 _ _ _ _ _ _ _ _ _ _) (run_eql24 _ _ _ _ _ _ _)) rfl ?_
          refine SatL.pu (RunV.move rfl) rfl ?_
          refine SatL.guard rfl rfl rfl (fun h5 => ?_) (fun h5 => ?_)
          · (try simp only [cx, ne_eq, abv, Upd.mk.injEq, decide_eq_decide, true_and] at h5)
            try (exfalso; omega)
            all_goals
            refine SatL.op rfl (OpW.enter rfl rfl rfl rfl (works_any _) ?_)
            rintro _ w63 ⟨rfl, h⟩
            replace hS := St.callN hS h
            refine SatL.pu (RunV.pick_t rfl rfl) rfl ?_
            refine SatL.pu (RunV.assign rfl) rfl ?_
            refine SatL.nil (SatE.thenC ?_)
            refine SatC.ret ?_
            refine SatE.ret1 rfl rfl ?_
            refine ⟨congrArg Value.bool ?_, hS.sub (List.nil_sublist _)⟩
            clear hS
            first | rfl | (rw [Bool.eq_iff_iff]; simp only [decide_eq_true_eq, decide_eq_false_iff_not, Bool.not_true, Bool.not_false, Bool.not_eq_true', Bool.not_eq_false', beq_iff_eq, beq_eq_false_iff_ne, bne_iff_ne, ne_eq, Int.not_lt, Int.not_le, Decidable.not_not, Bool.and_eq_true, Bool.or_eq_true, Bool.false_eq_true, false_iff, true_iff, iff_false, iff_true] <;> omega) | (exfalso; omega) | (exfalso; simp only [best, abv, decide_eq_true_eq, true_and] at h5; revert h5; (repeat' split) <;> intro hx <;> dsimp only at hx <;> omega)
          · (try simp only [cx, ne_eq, abv, Upd.mk.injEq, decide_eq_decide, true_and] at h5)
            try (exfalso; omega)
            all_goals
            refine SatL.pu (RunV.pick_f rfl rfl) rfl ?_
            refine SatL.pu (RunV.assign rfl) rfl ?_
            refine SatL.nil (SatE.thenC ?_)
            refine SatC.ret ?_
            refine SatE.ret1 rfl rfl ?_
            refine ⟨congrArg Value.bool ?_, hS.sub (List.nil_sublist _)⟩
            clear hS
            first | rfl | (rw [Bool.eq_iff_iff]; simp only [decide_eq_true_eq, decide_eq_false_iff_not, Bool.not_true, Bool.not_false, Bool.not_eq_true', Bool.not_eq_false', beq_iff_eq, beq_eq_false_iff_ne, bne_iff_ne, ne_eq, Int.not_lt, Int.not_le, Decidable.not_not, Bool.and_eq_true, Bool.or_eq_true, Bool.false_eq_true, false_iff, true_iff, iff_false, iff_true] <;> omega) | (exfalso; omega) | (exfalso; simp only [best, abv, decide_eq_true_eq, true_and] at h5; revert h5; (repeat' split) <;> intro hx <;> dsimp only at hx <;> omega)
  · (try simp only [cx, ne_eq, abv, Upd.mk.injEq, decide_eq_decide, true_and] at h1)
    try (exfalso; omega)
    all_goals
    refine SatD.skip 4 rfl (by kernel_rfl) (fun _ _ _ h => h) rfl rfl hD ?_
    refine SatD.skip 5 rfl (by kernel_rfl) (fun _ _ _ h => h) rfl rfl hD ?_
    refine SatD.skip 6 rfl (by kernel_rfl) (fun _ _ _ h => h) rfl rfl hD ?_
    refine SatD.skip 7 rfl (by kernel_rfl) (fun _ _ _ h => h) rfl rfl hD ?_
    refine SatD.skip 8 rfl (by kernel_rfl) (fun _ _ _ h => h) rfl rfl hD ?_
    refine SatD.skip 9 rfl (by kernel_rfl) (fun _ _ _ h => h) rfl rfl hD ?_
    refine SatD.skip 10 rfl (by kernel_rfl) (fun _ _ _ h => h) rfl rfl hD ?_
    refine SatD.take 11 rfl (by kernel_rfl) (fun _ _ _ h => h) rfl rfl hD (fun _ hw => RunV.pick_f rfl rfl) ?_
    refine SatD.take 12 rfl (by kernel_rfl) (fun _ _ _ h => h) rfl rfl hD (fun _ hw => RunV.move rfl) ?_
    refine SatD.take 13 rfl (by kernel_rfl) (fun _ _ _ h => h) rfl rfl hD (fun _ hw => RunV.loadN hw rfl rfl (by repeat constructor) (by repeat constructor)) ?_
    refine SatD.take 14 rfl (by kernel_rfl) (fun _ _ _ h => h) rfl rfl hD (fun _ hw => RunV.loadN hw rfl rfl (by repeat constructor) (by repeat constructor)) ?_
    refine SatD.eff 15 (by kernel_rfl) rfl rfl (OpW.enter rfl rfl rfl rfl (above_any _ _ _ _ _ _ _) ?_)
    rintro _ w7 ⟨rfl, h⟩
    replace hS := St.callN hS h
    refine keepS (hS.sb (by repeat constructor)) (fun hD => ?_)
    refine SatD.take 16 rfl (by kernel_rfl) (fun _ _ _ h => h) rfl rfl hD (fun _ hw => RunV.pick_f rfl rfl) ?_
    refine SatD.done 0 (by kernel_rfl) (SatE.thenC ?_)
    clear hD
    refine SatC.weak (e' := [(3, _), (4, _), (5, _), (6, _), (31, _)]) (by repeat constructor) ?_
    refine SatC.cond rfl (fun h2 => ?_) (fun h2 => ?_)
    · (try simp only [cx, ne_eq, abv, Upd.mk.injEq, decide_eq_decide, true_and] at h2)
      try (exfalso; omega)
      all_goals
      refine SatC.seq ?_
      refine SatC.region ?_
      refine SatL.pu (RunV.assign rfl) rfl ?_
      refine SatL.nil (SatE.thenC ?_)
      refine SatC.ret (SatE.then_ret ?_)
      refine SatE.ret1 rfl rfl ?_
      refine ⟨congrArg Value.bool ?_, hS.sub (List.nil_sublist _)⟩
      clear hS
      first | rfl | (rw [Bool.eq_iff_iff]; simp only [decide_eq_true_eq, decide_eq_false_iff_not, Bool.not_true, Bool.not_false, Bool.not_eq_true', Bool.not_eq_false', beq_iff_eq, beq_eq_false_iff_ne, bne_iff_ne, ne_eq, Int.not_lt, Int.not_le, Decidable.not_not, Bool.and_eq_true, Bool.or_eq_true, Bool.false_eq_true, false_iff, true_iff, iff_false, iff_true] <;> omega) | (exfalso; omega) | (exfalso; simp only [best, abv, decide_eq_true_eq, true_and] at h2; revert h2; (repeat' split) <;> intro hx <;> dsimp only at hx <;> omega)
    · (try simp only [cx, ne_eq, abv, Upd.mk.injEq, decide_eq_decide, true_and] at h2)
      try (exfalso; omega)
      all_goals
      refine SatC.skip (SatE.thenC ?_)
      refine SatC.seq ?_
      refine SatC.seq ?_
      refine SatC.region ?_
      refine SatL.pu (RunV.loadN hS rfl rfl (by repeat constructor) (by repeat constructor)) rfl ?_
      refine SatL.pu (RunV.loadN hS rfl rfl (by repeat constructor) (by repeat constructor)) rfl ?_
      refine SatL.op rfl (OpW.enter rfl rfl rfl rfl (above_any _ _ _ _ _ _ _) ?_)
      rintro _ w8 ⟨rfl, h⟩
      replace hS := St.callN hS h
      refine SatL.pu (RunV.move rfl) rfl ?_
      refine SatL.guard rfl rfl rfl (fun h3 => ?_) (fun h3 => ?_)
      · (try simp only [cx, ne_eq, abv, Upd.mk.injEq, decide_eq_decide, true_and] at h3)
        try (exfalso; omega)
        all_goals
        refine SatL.pu (RunV.loadN hS rfl rfl (by repeat constructor) (by repeat constructor)) rfl ?_
        refine SatL.guard_y rfl rfl ?_
        refine SatL.pu (RunV.loadN hS rfl rfl (by repeat constructor) (by repeat constructor)) rfl ?_
        refine SatL.guard_y rfl rfl ?_
        refine SatL.op rfl (OpW.enter rfl rfl rfl rfl (above_any _ _ _ _ _ _ _) ?_)
        rintro _ w9 ⟨rfl, h⟩
        replace hS := St.callN hS h
        refine SatL.pu (RunV.pick_t rfl rfl) rfl ?_
        refine SatL.pu (RunV.move rfl) rfl ?_
        refine SatL.guard rfl rfl rfl (fun h4 => ?_) (fun h4 => ?_)
        · (try simp only [cx, ne_eq, abv, Upd.mk.injEq, decide_eq_decide, true_and] at h4)
          try (exfalso; omega)
          all_goals
          refine SatL.pu (RunV.loadN hS rfl rfl (by repeat constructor) (by repeat constructor)) rfl ?_
          refine SatL.guard_y rfl rfl ?_
          refine SatL.pu (RunV.loadN hS rfl rfl (by repeat constructor) (by repeat constructor)) rfl ?_
          refine SatL.guard_y rfl rfl ?_
          refine SatL.op rfl (OpW.enter rfl rfl rfl rfl (above_any _ _ _ _ _ _ _) ?_)
          rintro _ w10 ⟨rfl, h⟩
          replace hS := St.callN hS h
          refine SatL.guard_y rfl rfl ?_
          refine SatL.pu (RunV.not rfl) rfl ?_
          refine SatL.pu (RunV.pick_t rfl rfl) rfl ?_
          refine SatL.nil (SatE.thenC ?_)
          refine SatC.weak (e' := [(3, _), (4, _), (6, _), (45, _)]) (by repeat constructor) ?_
          refine SatC.cond rfl (fun h5 => ?_) (fun h5 => ?_)
          · (try simp only [cx, ne_eq, abv, Upd.mk.injEq, decide_eq_decide, true_and] at h5)
            try (exfalso; omega)
            all_goals
            refine SatC.seq ?_
            refine SatC.region ?_
            refine SatL.pu (RunV.assign rfl) rfl ?_
            refine SatL.nil (SatE.thenC ?_)
            refine SatC.ret (SatE.then_ret ?_)
            refine SatE.ret1 rfl rfl ?_
            refine ⟨congrArg Value.bool ?_, hS.sub (List.nil_sublist _)⟩
            clear hS
            first | rfl | (rw [Bool.eq_iff_iff]; simp only [decide_eq_true_eq, decide_eq_false_iff_not, Bool.not_true, Bool.not_false, Bool.not_eq_true', Bool.not_eq_false', beq_iff_eq, beq_eq_false_iff_ne, bne_iff_ne, ne_eq, Int.not_lt, Int.not_le, Decidable.not_not, Bool.and_eq_true, Bool.or_eq_true, Bool.false_eq_true, false_iff, true_iff, iff_false, iff_true] <;> omega) | (exfalso; omega) | (exfalso; simp only [best, abv, decide_eq_true_eq, true_and] at h5; revert h5; (repeat' split) <;> intro hx <;> dsimp only at hx <;> omega)
          · (try simp only [cx, ne_eq, abv, Upd.mk.injEq, decide_eq_decide, true_and] at h5)
            try (exfalso; omega)
            all_goals
            refine SatC.skip (SatE.thenC ?_)
            refine SatC.seq ?_
            refine SatC.drawnS (hS) (by kernel_rfl) ?_
            clear hS
            intro w11 _ hS hD
            refine SatD.take 0 rfl (by kernel_rfl) (fun _ _ _ h => h) rfl rfl hD (fun _ hw => RunV.loadN hw rfl rfl (by repeat constructor) (by repeat constructor)) ?_
            refine SatD.take 1 rfl (by kernel_rfl) (fun _ _ _ h => h) rfl rfl hD (fun _ hw => RunV.loadN hw rfl rfl (by repeat constructor) (by repeat constructor)) ?_
            refine SatD.take 3 rfl (by kernel_rfl) (fun _ _ _ h => h) rfl rfl hD (fun _ hw => RunV.loadN hw rfl rfl (by repeat constructor) (by repeat constructor)) ?_
            refine SatD.take 4 rfl (by kernel_rfl) (fun _ _ _ h => h) rfl rfl hD (fun _ hw => RunV.loadN hw rfl rfl (by repeat constructor) (by repeat constructor)) ?_
            apply SatD.join2
            · intro hK
              refine SatD.effs [2, 6, 7] (by kernel_rfl) ⟨⟨_, rfl, rfl, OpW.enter rfl rfl rfl rfl (best_any _ _ _ _ _ _ _) ?_⟩, ⟨_, rfl, rfl, OpW.alloc hS rfl rfl (by repeat constructor) ?_⟩, ⟨_, rfl, rfl, OpW.alloc hS rfl rfl (by repeat constructor) ?_⟩, trivial⟩
              · skip
                rintro _ w12 ⟨rfl, h⟩
                replace hS := St.callN hS h
                refine keepS (hS.sb (by repeat constructor)) (fun hD => ?_)
                refine SatD.effs [5, 6, 7] (by kernel_rfl) ⟨⟨_, rfl, rfl, OpW.enter rfl rfl rfl rfl (best_any _ _ _ _ _ _ _) ?_⟩, ⟨_, rfl, rfl, OpW.alloc hS rfl rfl (by repeat constructor) ?_⟩, ⟨_, rfl, rfl, OpW.alloc hS rfl rfl (by repeat constructor) ?_⟩, trivial⟩
                · skip
                  rintro _ w13 ⟨rfl, h⟩
                  replace hS := St.callN hS h
                  refine keepS (hS.sb (by repeat constructor)) (fun hD => ?_)
                  refine SatD.effs [6, 7] (by kernel_rfl) ⟨⟨_, rfl, rfl, OpW.alloc hS rfl rfl (by repeat constructor) ?_⟩, ⟨_, rfl, rfl, OpW.alloc hS rfl rfl (by repeat constructor) ?_⟩, trivial⟩
                  · skip
                    intro b7 w14 _ hS
                    refine keepS (hS.sb (by repeat constructor)) (fun hD => ?_)
                    refine SatD.eff 7 (by kernel_rfl) rfl rfl (OpW.alloc hS rfl rfl (by repeat constructor) ?_)
                    intro b8 w15 _ hS
                    refine keepS (hS.sb (by repeat constructor)) (fun hD => ?_)
                    refine SatD.eff 8 (by kernel_rfl) rfl rfl (OpW.store hS rfl rfl (by repeat constructor) (by repeat constructor) (by repeat constructor) rfl rfl ?_)
                    intro w16 hS
                    refine keepS (hS.sb (by repeat constructor)) (fun hD => ?_)
                    refine SatD.eff 9 (by kernel_rfl) rfl rfl (OpW.store hS rfl rfl (by repeat constructor) (by repeat constructor) (by repeat constructor) rfl rfl ?_)
                    intro w17 hS
                    refine keepS (hS.sb (by repeat constructor)) (fun hD => ?_)
                    refine SatD.done 0 (by kernel_rfl) ?_
                    refine SatE.weak (e' := [(6, _), (7, _), (8, _)]) (by repeat constructor) ?_
                    exact hK b8 b7 w17 hS
                  · skip
                    intro b8 w14 _ hS
                    refine keepS (hS.sb (by repeat constructor)) (fun hD => ?_)
                    refine SatD.eff 6 (by kernel_rfl) rfl rfl (OpW.alloc hS rfl rfl (by repeat constructor) ?_)
                    intro b7 w15 _ hS
                    refine keepS (hS.sb (by repeat constructor)) (fun hD => ?_)
                    refine SatD.eff 8 (by kernel_rfl) rfl rfl (OpW.store hS rfl rfl (by repeat constructor) (by repeat constructor) (by repeat constructor) rfl rfl ?_)
                    intro w16 hS
                    refine keepS (hS.sb (by repeat constructor)) (fun hD => ?_)
                    refine SatD.eff 9 (by kernel_rfl) rfl rfl (OpW.store hS rfl rfl (by repeat constructor) (by repeat constructor) (by repeat constructor) rfl rfl ?_)
                    intro w17 hS
                    refine keepS (hS.sb (by repeat constructor)) (fun hD => ?_)
                    refine SatD.done 0 (by kernel_rfl) ?_
                    replace hS := hS.pick 0 rfl rfl
                    replace hS := hS.pick 1 rfl rfl
                    refine SatE.weak (e' := [(6, _), (7, _), (8, _)]) (by repeat constructor) ?_
                    exact hK b8 b7 w17 hS
                · skip
                  intro b7 w13 _ hS
                  refine keepS (hS.sb (by repeat constructor)) (fun hD => ?_)
                  refine SatD.effs [5, 7] (by kernel_rfl) ⟨⟨_, rfl, rfl, OpW.enter rfl rfl rfl rfl (best_any _ _ _ _ _ _ _) ?_⟩, ⟨_, rfl, rfl, OpW.alloc hS rfl rfl (by repeat constructor) ?_⟩, trivial⟩
                  · skip
                    rintro _ w14 ⟨rfl, h⟩
                    replace hS := St.callN hS h
                    refine keepS (hS.sb (by repeat constructor)) (fun hD => ?_)
                    refine SatD.eff 7 (by kernel_rfl) rfl rfl (OpW.alloc hS rfl rfl (by repeat constructor) ?_)
                    intro b8 w15 _ hS
                    refine keepS (hS.sb (by repeat constructor)) (fun hD => ?_)
                    refine SatD.eff 8 (by kernel_rfl) rfl rfl (OpW.store hS rfl rfl (by repeat constructor) (by repeat constructor) (by repeat constructor) rfl rfl ?_)
                    intro w16 hS
                    refine keepS (hS.sb (by repeat constructor)) (fun hD => ?_)
                    refine SatD.eff 9 (by kernel_rfl) rfl rfl (OpW.store hS rfl rfl (by repeat constructor) (by repeat constructor) (by repeat constructor) rfl rfl ?_)
                    intro w17 hS
                    refine keepS (hS.sb (by repeat constructor)) (fun hD => ?_)
                    refine SatD.done 0 (by kernel_rfl) ?_
                    refine SatE.weak (e' := [(6, _), (7, _), (8, _)]) (by repeat constructor) ?_
                    exact hK b8 b7 w17 hS
                  · skip
                    intro b8 w14 _ hS
                    refine keepS (hS.sb (by repeat constructor)) (fun hD => ?_)
                    refine SatD.eff 5 (by kernel_rfl) rfl rfl (OpW.enter rfl rfl rfl rfl (best_any _ _ _ _ _ _ _) ?_)
                    rintro _ w15 ⟨rfl, h⟩
                    replace hS := St.callN hS h
                    refine keepS (hS.sb (by repeat constructor)) (fun hD => ?_)
                    refine SatD.eff 8 (by kernel_rfl) rfl rfl (OpW.store hS rfl rfl (by repeat constructor) (by repeat constructor) (by repeat constructor) rfl rfl ?_)
                    intro w16 hS
                    refine keepS (hS.sb (by repeat constructor)) (fun hD => ?_)
                    refine SatD.eff 9 (by kernel_rfl) rfl rfl (OpW.store hS rfl rfl (by repeat constructor) (by repeat constructor) (by repeat constructor) rfl rfl ?_)
                    intro w17 hS
                    refine keepS (hS.sb (by repeat constructor)) (fun hD => ?_)
                    refine SatD.done 0 (by kernel_rfl) ?_
                    refine SatE.weak (e' := [(6, _), (7, _), (8, _)]) (by repeat constructor) ?_
                    exact hK b8 b7 w17 hS
                · skip
                  intro b8 w13 _ hS
                  refine keepS (hS.sb (by repeat constructor)) (fun hD => ?_)
                  refine SatD.effs [5, 6] (by kernel_rfl) ⟨⟨_, rfl, rfl, OpW.enter rfl rfl rfl rfl (best_any _ _ _ _ _ _ _) ?_⟩, ⟨_, rfl, rfl, OpW.alloc hS rfl rfl (by repeat constructor) ?_⟩, trivial⟩
                  · skip
                    rintro _ w14 ⟨rfl, h⟩
                    replace hS := St.callN hS h
                    refine keepS (hS.sb (by repeat constructor)) (fun hD => ?_)
                    refine SatD.eff 6 (by kernel_rfl) rfl rfl (OpW.alloc hS rfl rfl (by repeat constructor) ?_)
                    intro b7 w15 _ hS
                    refine keepS (hS.sb (by repeat constructor)) (fun hD => ?_)
                    refine SatD.eff 8 (by kernel_rfl) rfl rfl (OpW.store hS rfl rfl (by repeat constructor) (by repeat constructor) (by repeat constructor) rfl rfl ?_)
                    intro w16 hS
                    refine keepS (hS.sb (by repeat constructor)) (fun hD => ?_)
                    refine SatD.eff 9 (by kernel_rfl) rfl rfl (OpW.store hS rfl rfl (by repeat constructor) (by repeat constructor) (by repeat constructor) rfl rfl ?_)
                    intro w17 hS
                    refine keepS (hS.sb (by repeat constructor)) (fun hD => ?_)
                    refine SatD.done 0 (by kernel_rfl) ?_
                    replace hS := hS.pick 0 rfl rfl
                    replace hS := hS.pick 1 rfl rfl
                    refine SatE.weak (e' := [(6, _), (7, _), (8, _)]) (by repeat constructor) ?_
                    exact hK b8 b7 w17 hS
                  · skip
                    intro b7 w14 _ hS
                    refine keepS (hS.sb (by repeat constructor)) (fun hD => ?_)
                    refine SatD.eff 5 (by kernel_rfl) rfl rfl (OpW.enter rfl rfl rfl rfl (best_any _ _ _ _ _ _ _) ?_)
                    rintro _ w15 ⟨rfl, h⟩
                    replace hS := St.callN hS h
                    refine keepS (hS.sb (by repeat constructor)) (fun hD => ?_)
                    refine SatD.eff 8 (by kernel_rfl) rfl rfl (OpW.store hS rfl rfl (by repeat constructor) (by repeat constructor) (by repeat constructor) rfl rfl ?_)
                    intro w16 hS
                    refine keepS (hS.sb (by repeat constructor)) (fun hD => ?_)
                    refine SatD.eff 9 (by kernel_rfl) rfl rfl (OpW.store hS rfl rfl (by repeat constructor) (by repeat constructor) (by repeat constructor) rfl rfl ?_)
                    intro w17 hS
                    refine keepS (hS.sb (by repeat constructor)) (fun hD => ?_)
                    refine SatD.done 0 (by kernel_rfl) ?_
                    replace hS := hS.pick 0 rfl rfl
                    replace hS := hS.pick 1 rfl rfl
                    refine SatE.weak (e' := [(6, _), (7, _), (8, _)]) (by repeat constructor) ?_
                    exact hK b8 b7 w17 hS
              · skip
                intro b7 w12 _ hS
                refine keepS (hS.sb (by repeat constructor)) (fun hD => ?_)
                refine SatD.effs [2, 7] (by kernel_rfl) ⟨⟨_, rfl, rfl, OpW.enter rfl rfl rfl rfl (best_any _ _ _ _ _ _ _) ?_⟩, ⟨_, rfl, rfl, OpW.alloc hS rfl rfl (by repeat constructor) ?_⟩, trivial⟩
                · skip
                  rintro _ w13 ⟨rfl, h⟩
                  replace hS := St.callN hS h
                  refine keepS (hS.sb (by repeat constructor)) (fun hD => ?_)
                  refine SatD.effs [5, 7] (by kernel_rfl) ⟨⟨_, rfl, rfl, OpW.enter rfl rfl rfl rfl (best_any _ _ _ _ _ _ _) ?_⟩, ⟨_, rfl, rfl, OpW.alloc hS rfl rfl (by repeat constructor) ?_⟩, trivial⟩
                  · skip
                    rintro _ w14 ⟨rfl, h⟩
                    replace hS := St.callN hS h
                    refine keepS (hS.sb (by repeat constructor)) (fun hD => ?_)
                    refine SatD.eff 7 (by kernel_rfl) rfl rfl (OpW.alloc hS rfl rfl (by repeat constructor) ?_)
                    intro b8 w15 _ hS
                    refine keepS (hS.sb (by repeat constructor)) (fun hD => ?_)
                    refine SatD.eff 8 (by kernel_rfl) rfl rfl (OpW.store hS rfl rfl (by repeat constructor) (by repeat constructor) (by repeat constructor) rfl rfl ?_)
                    intro w16 hS
                    refine keepS (hS.sb (by repeat constructor)) (fun hD => ?_)
                    refine SatD.eff 9 (by kernel_rfl) rfl rfl (OpW.store hS rfl rfl (by repeat constructor) (by repeat constructor) (by repeat constructor) rfl rfl ?_)
                    intro w17 hS
                    refine keepS (hS.sb (by repeat constructor)) (fun hD => ?_)
                    refine SatD.done 0 (by kernel_rfl) ?_
                    refine SatE.weak (e' := [(6, _), (7, _), (8, _)]) (by repeat constructor) ?_
                    exact hK b8 b7 w17 hS
                  · skip
                    intro b8 w14 _ hS
                    refine keepS (hS.sb (by repeat constructor)) (fun hD => ?_)
                    refine SatD.eff 5 (by kernel_rfl) rfl rfl (OpW.enter rfl rfl rfl rfl (best_any _ _ _ _ _ _ _) ?_)
                    rintro _ w15 ⟨rfl, h⟩
                    replace hS := St.callN hS h
                    refine keepS (hS.sb (by repeat constructor)) (fun hD => ?_)
                    refine SatD.eff 8 (by kernel_rfl) rfl rfl (OpW.store hS rfl rfl (by repeat constructor) (by repeat constructor) (by repeat constructor) rfl rfl ?_)
                    intro w16 hS
                    refine keepS (hS.sb (by repeat constructor)) (fun hD => ?_)
                    refine SatD.eff 9 (by kernel_rfl) rfl rfl (OpW.store hS rfl rfl (by repeat constructor) (by repeat constructor) (by repeat constructor) rfl rfl ?_)
                    intro w17 hS
                    refine keepS (hS.sb (by repeat constructor)) (fun hD => ?_)
                    refine SatD.done 0 (by kernel_rfl) ?_
                    refine SatE.weak (e' := [(6, _), (7, _), (8, _)]) (by repeat constructor) ?_
                    exact hK b8 b7 w17 hS
                · skip
                  intro b8 w13 _ hS
                  refine keepS (hS.sb (by repeat constructor)) (fun hD => ?_)
                  refine SatD.eff 2 (by kernel_rfl) rfl rfl (OpW.enter rfl rfl rfl rfl (best_any _ _ _ _ _ _ _) ?_)
                  rintro _ w14 ⟨rfl, h⟩
                  replace hS := St.callN hS h
                  refine keepS (hS.sb (by repeat constructor)) (fun hD => ?_)
                  refine SatD.eff 5 (by kernel_rfl) rfl rfl (OpW.enter rfl rfl rfl rfl (best_any _ _ _ _ _ _ _) ?_)
                  rintro _ w15 ⟨rfl, h⟩
                  replace hS := St.callN hS h
                  refine keepS (hS.sb (by repeat constructor)) (fun hD => ?_)
                  refine SatD.eff 8 (by kernel_rfl) rfl rfl (OpW.store hS rfl rfl (by repeat constructor) (by repeat constructor) (by repeat constructor) rfl rfl ?_)
                  intro w16 hS
                  refine keepS (hS.sb (by repeat constructor)) (fun hD => ?_)
                  refine SatD.eff 9 (by kernel_rfl) rfl rfl (OpW.store hS rfl rfl (by repeat constructor) (by repeat constructor) (by repeat constructor) rfl rfl ?_)
                  intro w17 hS
                  refine keepS (hS.sb (by repeat constructor)) (fun hD => ?_)
                  refine SatD.done 0 (by kernel_rfl) ?_
                  refine SatE.weak (e' := [(6, _), (7, _), (8, _)]) (by repeat constructor) ?_
                  exact hK b8 b7 w17 hS
              · skip
                intro b8 w12 _ hS
                refine keepS (hS.sb (by repeat constructor)) (fun hD => ?_)
                refine SatD.effs [2, 6] (by kernel_rfl) ⟨⟨_, rfl, rfl, OpW.enter rfl rfl rfl rfl (best_any _ _ _ _ _ _ _) ?_⟩, ⟨_, rfl, rfl, OpW.alloc hS rfl rfl (by repeat constructor) ?_⟩, trivial⟩
                · skip
                  rintro _ w13 ⟨rfl, h⟩
                  replace hS := St.callN hS h
                  refine keepS (hS.sb (by repeat constructor)) (fun hD => ?_)
                  refine SatD.effs [5, 6] (by kernel_rfl) ⟨⟨_, rfl, rfl, OpW.enter rfl rfl rfl rfl (best_any _ _ _ _ _ _ _) ?_⟩, ⟨_, rfl, rfl, OpW.alloc hS rfl rfl (by repeat constructor) ?_⟩, trivial⟩
                  · skip
                    rintro _ w14 ⟨rfl, h⟩
                    replace hS := St.callN hS h
                    refine keepS (hS.sb (by repeat constructor)) (fun hD => ?_)
                    refine SatD.eff 6 (by kernel_rfl) rfl rfl (OpW.alloc hS rfl rfl (by repeat constructor) ?_)
                    intro b7 w15 _ hS
                    refine keepS (hS.sb (by repeat constructor)) (fun hD => ?_)
                    refine SatD.eff 8 (by kernel_rfl) rfl rfl (OpW.store hS rfl rfl (by repeat constructor) (by repeat constructor) (by repeat constructor) rfl rfl ?_)
                    intro w16 hS
                    refine keepS (hS.sb (by repeat constructor)) (fun hD => ?_)
                    refine SatD.eff 9 (by kernel_rfl) rfl rfl (OpW.store hS rfl rfl (by repeat constructor) (by repeat constructor) (by repeat constructor) rfl rfl ?_)
                    intro w17 hS
                    refine keepS (hS.sb (by repeat constructor)) (fun hD => ?_)
                    refine SatD.done 0 (by kernel_rfl) ?_
                    replace hS := hS.pick 0 rfl rfl
                    replace hS := hS.pick 1 rfl rfl
                    refine SatE.weak (e' := [(6, _), (7, _), (8, _)]) (by repeat constructor) ?_
                    exact hK b8 b7 w17 hS
                  · skip
                    intro b7 w14 _ hS
                    refine keepS (hS.sb (by repeat constructor)) (fun hD => ?_)
                    refine SatD.eff 5 (by kernel_rfl) rfl rfl (OpW.enter rfl rfl rfl rfl (best_any _ _ _ _ _ _ _) ?_)
                    rintro _ w15 ⟨rfl, h⟩
                    replace hS := St.callN hS h
                    refine keepS (hS.sb (by repeat constructor)) (fun hD => ?_)
                    refine SatD.eff 8 (by kernel_rfl) rfl rfl (OpW.store hS rfl rfl (by repeat constructor) (by repeat constructor) (by repeat constructor) rfl rfl ?_)
                    intro w16 hS
                    refine keepS (hS.sb (by repeat constructor)) (fun hD => ?_)
                    refine SatD.eff 9 (by kernel_rfl) rfl rfl (OpW.store hS rfl rfl (by repeat constructor) (by repeat constructor) (by repeat constructor) rfl rfl ?_)
                    intro w17 hS
                    refine keepS (hS.sb (by repeat constructor)) (fun hD => ?_)
                    refine SatD.done 0 (by kernel_rfl) ?_
                    replace hS := hS.pick 0 rfl rfl
                    replace hS := hS.pick 1 rfl rfl
                    refine SatE.weak (e' := [(6, _), (7, _), (8, _)]) (by repeat constructor) ?_
                    exact hK b8 b7 w17 hS
                · skip
                  intro b7 w13 _ hS
                  refine keepS (hS.sb (by repeat constructor)) (fun hD => ?_)
                  refine SatD.eff 2 (by kernel_rfl) rfl rfl (OpW.enter rfl rfl rfl rfl (best_any _ _ _ _ _ _ _) ?_)
                  rintro _ w14 ⟨rfl, h⟩
                  replace hS := St.callN hS h
                  refine keepS (hS.sb (by repeat constructor)) (fun hD => ?_)
                  refine SatD.eff 5 (by kernel_rfl) rfl rfl (OpW.enter rfl rfl rfl rfl (best_any _ _ _ _ _ _ _) ?_)
                  rintro _ w15 ⟨rfl, h⟩
                  replace hS := St.callN hS h
                  refine keepS (hS.sb (by repeat constructor)) (fun hD => ?_)
                  refine SatD.eff 8 (by kernel_rfl) rfl rfl (OpW.store hS rfl rfl (by repeat constructor) (by repeat constructor) (by repeat constructor) rfl rfl ?_)
                  intro w16 hS
                  refine keepS (hS.sb (by repeat constructor)) (fun hD => ?_)
                  refine SatD.eff 9 (by kernel_rfl) rfl rfl (OpW.store hS rfl rfl (by repeat constructor) (by repeat constructor) (by repeat constructor) rfl rfl ?_)
                  intro w17 hS
                  refine keepS (hS.sb (by repeat constructor)) (fun hD => ?_)
                  refine SatD.done 0 (by kernel_rfl) ?_
                  replace hS := hS.pick 0 rfl rfl
                  replace hS := hS.pick 1 rfl rfl
                  refine SatE.weak (e' := [(6, _), (7, _), (8, _)]) (by repeat constructor) ?_
                  exact hK b8 b7 w17 hS
            intro b8 b7 w62 hS
            refine SatE.thenC ?_
            refine SatC.seq ?_
            refine SatC.region ?_
            refine SatL.pu (RunV.loadN hS rfl rfl (by repeat constructor) (by repeat constructor)) rfl ?_
            refine SatL.pu (RunV.loadN hS rfl rfl (by repeat constructor) (by repeat constructor)) rfl ?_
            refine SatL.pu (RunV.bin rfl rfl (guard24 _ _ _ _ _ _ _ _ _ _) (run_eql24 _ _ _ _ _ _ _)) rfl ?_
            refine SatL.pu (RunV.move rfl) rfl ?_
            refine SatL.guard rfl rfl rfl (fun h6 => ?_) (fun h6 => ?_)
            · (try simp only [cx, ne_eq, abv, Upd.mk.injEq, decide_eq_decide, true_and] at h6)
              try (exfalso; omega)
              all_goals
              refine SatL.op rfl (OpW.enter rfl rfl rfl rfl (works_any _) ?_)
              rintro _ w63 ⟨rfl, h⟩
              replace hS := St.callN hS h
              refine SatL.pu (RunV.pick_t rfl rfl) rfl ?_
              refine SatL.pu (RunV.assign rfl) rfl ?_
              refine SatL.nil (SatE.thenC ?_)
              refine SatC.ret ?_
              refine SatE.ret1 rfl rfl ?_
              refine ⟨congrArg Value.bool ?_, hS.sub (List.nil_sublist _)⟩
              clear hS
              first | rfl | (rw [Bool.eq_iff_iff]; simp only [decide_eq_true_eq, decide_eq_false_iff_not, Bool.not_true, Bool.not_false, Bool.not_eq_true', Bool.not_eq_false', beq_iff_eq, beq_eq_false_iff_ne, bne_iff_ne, ne_eq, Int.not_lt, Int.not_le, Decidable.not_not, Bool.and_eq_true, Bool.or_eq_true, Bool.false_eq_true, false_iff, true_iff, iff_false, iff_true] <;> omega) | (exfalso; omega) | (exfalso; simp only [best, abv, decide_eq_true_eq, true_and] at h6; revert h6; (repeat' split) <;> intro hx <;> dsimp only at hx <;> omega)
            · (try simp only [cx, ne_eq, abv, Upd.mk.injEq, decide_eq_decide, true_and] at h6)
              try (exfalso; omega)
              all_goals
              refine SatL.pu (RunV.pick_f rfl rfl) rfl ?_
              refine SatL.pu (RunV.assign rfl) rfl ?_
              refine SatL.nil (SatE.thenC ?_)
              refine SatC.ret ?_
              refine SatE.ret1 rfl rfl ?_
              refine ⟨congrArg Value.bool ?_, hS.sub (List.nil_sublist _)⟩
              clear hS
              first | rfl | (rw [Bool.eq_iff_iff]; simp only [decide_eq_true_eq, decide_eq_false_iff_not, Bool.not_true, Bool.not_false, Bool.not_eq_true', Bool.not_eq_false', beq_iff_eq, beq_eq_false_iff_ne, bne_iff_ne, ne_eq, Int.not_lt, Int.not_le, Decidable.not_not, Bool.and_eq_true, Bool.or_eq_true, Bool.false_eq_true, false_iff, true_iff, iff_false, iff_true] <;> omega) | (exfalso; omega) | (exfalso; simp only [best, abv, decide_eq_true_eq, true_and] at h6; revert h6; (repeat' split) <;> intro hx <;> dsimp only at hx <;> omega)
        · (try simp only [cx, ne_eq, abv, Upd.mk.injEq, decide_eq_decide, true_and] at h4)
          try (exfalso; omega)
          all_goals
          refine SatL.guard_n rfl rfl rfl rfl ?_
          refine SatL.guard_n rfl rfl rfl rfl ?_
          refine SatL.guard_n rfl rfl rfl rfl ?_
          refine SatL.pu (RunV.pick_f rfl rfl) rfl ?_
          refine SatL.nil (SatE.thenC ?_)
          refine SatC.weak (e' := [(3, _), (4, _), (6, _), (45, _)]) (by repeat constructor) ?_
          refine SatC.cond_f rfl ?_
          refine SatC.skip (SatE.thenC ?_)
          refine SatC.seq ?_
          refine SatC.drawnS (hS) (by kernel_rfl) ?_
          clear hS
          intro w10 _ hS hD
          refine SatD.take 0 rfl (by kernel_rfl) (fun _ _ _ h => h) rfl rfl hD (fun _ hw => RunV.loadN hw rfl rfl (by repeat constructor) (by repeat constructor)) ?_
          refine SatD.take 1 rfl (by kernel_rfl) (fun _ _ _ h => h) rfl rfl hD (fun _ hw => RunV.loadN hw rfl rfl (by repeat constructor) (by repeat constructor)) ?_
          refine SatD.take 3 rfl (by kernel_rfl) (fun _ _ _ h => h) rfl rfl hD (fun _ hw => RunV.loadN hw rfl rfl (by repeat constructor) (by repeat constructor)) ?_
          refine SatD.take 4 rfl (by kernel_rfl) (fun _ _ _ h => h) rfl rfl hD (fun _ hw => RunV.loadN hw rfl rfl (by repeat constructor) (by repeat constructor)) ?_
          apply SatD.join2
          · intro hK
            refine SatD.effs [2, 6, 7] (by kernel_rfl) ⟨⟨_, rfl, rfl, OpW.enter rfl rfl rfl rfl (best_any _ _ _ _ _ _ _) ?_⟩, ⟨_, rfl, rfl, OpW.alloc hS rfl rfl (by repeat constructor) ?_⟩, ⟨_, rfl, rfl, OpW.alloc hS rfl rfl (by repeat constructor) ?_⟩, trivial⟩
            · skip
              rintro _ w11 ⟨rfl, h⟩
              replace hS := St.callN hS h
              refine keepS (hS.sb (by repeat constructor)) (fun hD => ?_)
              refine SatD.effs [5, 6, 7] (by kernel_rfl) ⟨⟨_, rfl, rfl, OpW.enter rfl rfl rfl rfl (best_any _ _ _ _ _ _ _) ?_⟩, ⟨_, rfl, rfl, OpW.alloc hS rfl rfl (by repeat constructor) ?_⟩, ⟨_, rfl, rfl, OpW.alloc hS rfl rfl (by repeat constructor) ?_⟩, trivial⟩
              · skip
                rintro _ w12 ⟨rfl, h⟩
                replace hS := St.callN hS h
                refine keepS (hS.sb (by repeat constructor)) (fun hD => ?_)
                refine SatD.effs [6, 7] (by kernel_rfl) ⟨⟨_, rfl, rfl, OpW.alloc hS rfl rfl (by repeat constructor) ?_⟩, ⟨_, rfl, rfl, OpW.alloc hS rfl rfl (by repeat constructor) ?_⟩, trivial⟩
                · skip
                  intro b7 w13 _ hS
                  refine keepS (hS.sb (by repeat constructor)) (fun hD => ?_)
                  refine SatD.eff 7 (by kernel_rfl) rfl rfl (OpW.alloc hS rfl rfl (by repeat constructor) ?_)
                  intro b8 w14 _ hS
                  refine keepS (hS.sb (by repeat constructor)) (fun hD => ?_)
                  refine SatD.eff 8 (by kernel_rfl) rfl rfl (OpW.store hS rfl rfl (by repeat constructor) (by repeat constructor) (by repeat constructor) rfl rfl ?_)
                  intro w15 hS
                  refine keepS (hS.sb (by repeat constructor)) (fun hD => ?_)
                  refine SatD.eff 9 (by kernel_rfl) rfl rfl (OpW.store hS rfl rfl (by repeat constructor) (by repeat constructor) (by repeat constructor) rfl rfl ?_)
                  intro w16 hS
                  refine keepS (hS.sb (by repeat constructor)) (fun hD => ?_)
                  refine SatD.done 0 (by kernel_rfl) ?_
                  refine SatE.weak (e' := [(6, _), (7, _), (8, _)]) (by repeat constructor) ?_
                  exact hK b8 b7 w16 hS
                · skip
                  intro b8 w13 _ hS
                  refine keepS (hS.sb (by repeat constructor)) (fun hD => ?_)
                  refine SatD.eff 6 (by kernel_rfl) rfl rfl (OpW.alloc hS rfl rfl (by repeat constructor) ?_)
                  intro b7 w14 _ hS
                  refine keepS (hS.sb (by repeat constructor)) (fun hD => ?_)
                  refine SatD.eff 8 (by kernel_rfl) rfl rfl (OpW.store hS rfl rfl (by repeat constructor) (by repeat constructor) (by repeat constructor) rfl rfl ?_)
                  intro w15 hS
                  refine keepS (hS.sb (by repeat constructor)) (fun hD => ?_)
                  refine SatD.eff 9 (by kernel_rfl) rfl rfl (OpW.store hS rfl rfl (by repeat constructor) (by repeat constructor) (by repeat constructor) rfl rfl ?_)
                  intro w16 hS
                  refine keepS (hS.sb (by repeat constructor)) (fun hD => ?_)
                  refine SatD.done 0 (by kernel_rfl) ?_
                  replace hS := hS.pick 0 rfl rfl
                  replace hS := hS.pick 1 rfl rfl
                  refine SatE.weak (e' := [(6, _), (7, _), (8, _)]) (by repeat constructor) ?_
                  exact hK b8 b7 w16 hS
              · skip
                intro b7 w12 _ hS
                refine keepS (hS.sb (by repeat constructor)) (fun hD => ?_)
                refine SatD.effs [5, 7] (by kernel_rfl) ⟨⟨_, rfl, rfl, OpW.enter rfl rfl rfl rfl (best_any _ _ _ _ _ _ _) ?_⟩, ⟨_, rfl, rfl, OpW.alloc hS rfl rfl (by repeat constructor) ?_⟩, trivial⟩
                · skip
                  rintro _ w13 ⟨rfl, h⟩
                  replace hS := St.callN hS h
                  refine keepS (hS.sb (by repeat constructor)) (fun hD => ?_)
                  refine SatD.eff 7 (by kernel_rfl) rfl rfl (OpW.alloc hS rfl rfl (by repeat constructor) ?_)
                  intro b8 w14 _ hS
                  refine keepS (hS.sb (by repeat constructor)) (fun hD => ?_)
                  refine SatD.eff 8 (by kernel_rfl) rfl rfl (OpW.store hS rfl rfl (by repeat constructor) (by repeat constructor) (by repeat constructor) rfl rfl ?_)
                  intro w15 hS
                  refine keepS (hS.sb (by repeat constructor)) (fun hD => ?_)
                  refine SatD.eff 9 (by kernel_rfl) rfl rfl (OpW.store hS rfl rfl (by repeat constructor) (by repeat constructor) (by repeat constructor) rfl rfl ?_)
                  intro w16 hS
                  refine keepS (hS.sb (by repeat constructor)) (fun hD => ?_)
                  refine SatD.done 0 (by kernel_rfl) ?_
                  refine SatE.weak (e' := [(6, _), (7, _), (8, _)]) (by repeat constructor) ?_
                  exact hK b8 b7 w16 hS
                · skip
                  intro b8 w13 _ hS
                  refine keepS (hS.sb (by repeat constructor)) (fun hD => ?_)
                  refine SatD.eff 5 (by kernel_rfl) rfl rfl (OpW.enter rfl rfl rfl rfl (best_any _ _ _ _ _ _ _) ?_)
                  rintro _ w14 ⟨rfl, h⟩
                  replace hS := St.callN hS h
                  refine keepS (hS.sb (by repeat constructor)) (fun hD => ?_)
                  refine SatD.eff 8 (by kernel_rfl) rfl rfl (OpW.store hS rfl rfl (by repeat constructor) (by repeat constructor) (by repeat constructor) rfl rfl ?_)
                  intro w15 hS
                  refine keepS (hS.sb (by repeat constructor)) (fun hD => ?_)
                  refine SatD.eff 9 (by kernel_rfl) rfl rfl (OpW.store hS rfl rfl (by repeat constructor) (by repeat constructor) (by repeat constructor) rfl rfl ?_)
                  intro w16 hS
                  refine keepS (hS.sb (by repeat constructor)) (fun hD => ?_)
                  refine SatD.done 0 (by kernel_rfl) ?_
                  refine SatE.weak (e' := [(6, _), (7, _), (8, _)]) (by repeat constructor) ?_
                  exact hK b8 b7 w16 hS
              · skip
                intro b8 w12 _ hS
                refine keepS (hS.sb (by repeat constructor)) (fun hD => ?_)
                refine SatD.effs [5, 6] (by kernel_rfl) ⟨⟨_, rfl, rfl, OpW.enter rfl rfl rfl rfl (best_any _ _ _ _ _ _ _) ?_⟩, ⟨_, rfl, rfl, OpW.alloc hS rfl rfl (by repeat constructor) ?_⟩, trivial⟩
                · skip
                  rintro _ w13 ⟨rfl, h⟩
                  replace hS := St.callN hS h
                  refine keepS (hS.sb (by repeat constructor)) (fun hD => ?_)
                  refine SatD.eff 6 (by kernel_rfl) rfl rfl (OpW.alloc hS rfl rfl (by repeat constructor) ?_)
                  intro b7 w14 _ hS
                  refine keepS (hS.sb (by repeat constructor)) (fun hD => ?_)
                  refine SatD.eff 8 (by kernel_rfl) rfl rfl (OpW.store hS rfl rfl (by repeat constructor) (by repeat constructor) (by repeat constructor) rfl rfl ?_)
                  intro w15 hS
                  refine keepS (hS.sb (by repeat constructor)) (fun hD => ?_)
                  refine SatD.eff 9 (by kernel_rfl) rfl rfl (OpW.store hS rfl rfl (by repeat constructor) (by repeat constructor) (by repeat constructor) rfl rfl ?_)
                  intro w16 hS
                  refine keepS (hS.sb (by repeat constructor)) (fun hD => ?_)
                  refine SatD.done 0 (by kernel_rfl) ?_
                  replace hS := hS.pick 0 rfl rfl
                  replace hS := hS.pick 1 rfl rfl
                  refine SatE.weak (e' := [(6, _), (7, _), (8, _)]) (by repeat constructor) ?_
                  exact hK b8 b7 w16 hS
                · skip
                  intro b7 w13 _ hS
                  refine keepS (hS.sb (by repeat constructor)) (fun hD => ?_)
                  refine SatD.eff 5 (by kernel_rfl) rfl rfl (OpW.enter rfl rfl rfl rfl (best_any _ _ _ _ _ _ _) ?_)
                  rintro _ w14 ⟨rfl, h⟩
                  replace hS := St.callN hS h
                  refine keepS (hS.sb (by repeat constructor)) (fun hD => ?_)
                  refine SatD.eff 8 (by kernel_rfl) rfl rfl (OpW.store hS rfl rfl (by repeat constructor) (by repeat constructor) (by repeat constructor) rfl rfl ?_)
                  intro w15 hS
                  refine keepS (hS.sb (by repeat constructor)) (fun hD => ?_)
                  refine SatD.eff 9 (by kernel_rfl) rfl rfl (OpW.store hS rfl rfl (by repeat constructor) (by repeat constructor) (by repeat constructor) rfl rfl ?_)
                  intro w16 hS
                  refine keepS (hS.sb (by repeat constructor)) (fun hD => ?_)
                  refine SatD.done 0 (by kernel_rfl) ?_
                  replace hS := hS.pick 0 rfl rfl
                  replace hS := hS.pick 1 rfl rfl
                  refine SatE.weak (e' := [(6, _), (7, _), (8, _)]) (by repeat constructor) ?_
                  exact hK b8 b7 w16 hS
            · skip
              intro b7 w11 _ hS
              refine keepS (hS.sb (by repeat constructor)) (fun hD => ?_)
              refine SatD.effs [2, 7] (by kernel_rfl) ⟨⟨_, rfl, rfl, OpW.enter rfl rfl rfl rfl (best_any _ _ _ _ _ _ _) ?_⟩, ⟨_, rfl, rfl, OpW.alloc hS rfl rfl (by repeat constructor) ?_⟩, trivial⟩
              · skip
                rintro _ w12 ⟨rfl, h⟩
                replace hS := St.callN hS h
                refine keepS (hS.sb (by repeat constructor)) (fun hD => ?_)
                refine SatD.effs [5, 7] (by kernel_rfl) ⟨⟨_, rfl, rfl, OpW.enter rfl rfl rfl rfl (best_any _ _ _ _ _ _ _) ?_⟩, ⟨_, rfl, rfl, OpW.alloc hS rfl rfl (by repeat constructor) ?_⟩, trivial⟩
                · skip
                  rintro _ w13 ⟨rfl, h⟩
                  replace hS := St.callN hS h
                  refine keepS (hS.sb (by repeat constructor)) (fun hD => ?_)
                  refine SatD.eff 7 (by kernel_rfl) rfl rfl (OpW.alloc hS rfl rfl (by repeat constructor) ?_)
                  intro b8 w14 _ hS
                  refine keepS (hS.sb (by repeat constructor)) (fun hD => ?_)
                  refine SatD.eff 8 (by kernel_rfl) rfl rfl (OpW.store hS rfl rfl (by repeat constructor) (by repeat constructor) (by repeat constructor) rfl rfl ?_)
                  intro w15 hS
                  refine keepS (hS.sb (by repeat constructor)) (fun hD => ?_)
                  refine SatD.eff 9 (by kernel_rfl) rfl rfl (OpW.store hS rfl rfl (by repeat constructor) (by repeat constructor) (by repeat constructor) rfl rfl ?_)
                  intro w16 hS
                  refine keepS (hS.sb (by repeat constructor)) (fun hD => ?_)
                  refine SatD.done 0 (by kernel_rfl) ?_
                  refine SatE.weak (e' := [(6, _), (7, _), (8, _)]) (by repeat constructor) ?_
                  exact hK b8 b7 w16 hS
                · skip
                  intro b8 w13 _ hS
                  refine keepS (hS.sb (by repeat constructor)) (fun hD => ?_)
                  refine SatD.eff 5 (by kernel_rfl) rfl rfl (OpW.enter rfl rfl rfl rfl (best_any _ _ _ _ _ _ _) ?_)
                  rintro _ w14 ⟨rfl, h⟩
                  replace hS := St.callN hS h
                  refine keepS (hS.sb (by repeat constructor)) (fun hD => ?_)
                  refine SatD.eff 8 (by kernel_rfl) rfl rfl (OpW.store hS rfl rfl (by repeat constructor) (by repeat constructor) (by repeat constructor) rfl rfl ?_)
                  intro w15 hS
                  refine keepS (hS.sb (by repeat constructor)) (fun hD => ?_)
                  refine SatD.eff 9 (by kernel_rfl) rfl rfl (OpW.store hS rfl rfl (by repeat constructor) (by repeat constructor) (by repeat constructor) rfl rfl ?_)
                  intro w16 hS
                  refine keepS (hS.sb (by repeat constructor)) (fun hD => ?_)
                  refine SatD.done 0 (by kernel_rfl) ?_
                  refine SatE.weak (e' := [(6, _), (7, _), (8, _)]) (by repeat constructor) ?_
                  exact hK b8 b7 w16 hS
              · skip
                intro b8 w12 _ hS
                refine keepS (hS.sb (by repeat constructor)) (fun hD => ?_)
                refine SatD.eff 2 (by kernel_rfl) rfl rfl (OpW.enter rfl rfl rfl rfl (best_any _ _ _ _ _ _ _) ?_)
                rintro _ w13 ⟨rfl, h⟩
                replace hS := St.callN hS h
                refine keepS (hS.sb (by repeat constructor)) (fun hD => ?_)
                refine SatD.eff 5 (by kernel_rfl) rfl rfl (OpW.enter rfl rfl rfl rfl (best_any _ _ _ _ _ _ _) ?_)
                rintro _ w14 ⟨rfl, h⟩
                replace hS := St.callN hS h
                refine keepS (hS.sb (by repeat constructor)) (fun hD => ?_)
                refine SatD.eff 8 (by kernel_rfl) rfl rfl (OpW.store hS rfl rfl (by repeat constructor) (by repeat constructor) (by repeat constructor) rfl rfl ?_)
                intro w15 hS
                refine keepS (hS.sb (by repeat constructor)) (fun hD => ?_)
                refine SatD.eff 9 (by kernel_rfl) rfl rfl (OpW.store hS rfl rfl (by repeat constructor) (by repeat constructor) (by repeat constructor) rfl rfl ?_)
                intro w16 hS
                refine keepS (hS.sb (by repeat constructor)) (fun hD => ?_)
                refine SatD.done 0 (by kernel_rfl) ?_
                refine SatE.weak (e' := [(6, _), (7, _), (8, _)]) (by repeat constructor) ?_
                exact hK b8 b7 w16 hS
            · skip
              intro b8 w11 _ hS
              refine keepS (hS.sb (by repeat constructor)) (fun hD => ?_)
              refine SatD.effs [2, 6] (by kernel_rfl) ⟨⟨_, rfl, rfl, OpW.enter rfl rfl rfl rfl (best_any _ _ _ _ _ _ _) ?_⟩, ⟨_, rfl, rfl, OpW.alloc hS rfl rfl (by repeat constructor) ?_⟩, trivial⟩
              · skip
                rintro _ w12 ⟨rfl, h⟩
                replace hS := St.callN hS h
                refine keepS (hS.sb (by repeat constructor)) (fun hD => ?_)
                refine SatD.effs [5, 6] (by kernel_rfl) ⟨⟨_, rfl, rfl, OpW.enter rfl rfl rfl rfl (best_any _ _ _ _ _ _ _) ?_⟩, ⟨_, rfl, rfl, OpW.alloc hS rfl rfl (by repeat constructor) ?_⟩, trivial⟩
                · skip
                  rintro _ w13 ⟨rfl, h⟩
                  replace hS := St.callN hS h
                  refine keepS (hS.sb (by repeat constructor)) (fun hD => ?_)
                  refine SatD.eff 6 (by kernel_rfl) rfl rfl (OpW.alloc hS rfl rfl (by repeat constructor) ?_)
                  intro b7 w14 _ hS
                  refine keepS (hS.sb (by repeat constructor)) (fun hD => ?_)
                  refine SatD.eff 8 (by kernel_rfl) rfl rfl (OpW.store hS rfl rfl (by repeat constructor) (by repeat constructor) (by repeat constructor) rfl rfl ?_)
                  intro w15 hS
                  refine keepS (hS.sb (by repeat constructor)) (fun hD => ?_)
                  refine SatD.eff 9 (by kernel_rfl) rfl rfl (OpW.store hS rfl rfl (by repeat constructor) (by repeat constructor) (by repeat constructor) rfl rfl ?_)
                  intro w16 hS
                  refine keepS (hS.sb (by repeat constructor)) (fun hD => ?_)
                  refine SatD.done 0 (by kernel_rfl) ?_
                  replace hS := hS.pick 0 rfl rfl
                  replace hS := hS.pick 1 rfl rfl
                  refine SatE.weak (e' := [(6, _), (7, _), (8, _)]) (by repeat constructor) ?_
                  exact hK b8 b7 w16 hS
                · skip
                  intro b7 w13 _ hS
                  refine keepS (hS.sb (by repeat constructor)) (fun hD => ?_)
                  refine SatD.eff 5 (by kernel_rfl) rfl rfl (OpW.enter rfl rfl rfl rfl (best_any _ _ _ _ _ _ _) ?_)
                  rintro _ w14 ⟨rfl, h⟩
                  replace hS := St.callN hS h
                  refine keepS (hS.sb (by repeat constructor)) (fun hD => ?_)
                  refine SatD.eff 8 (by kernel_rfl) rfl rfl (OpW.store hS rfl rfl (by repeat constructor) (by repeat constructor) (by repeat constructor) rfl rfl ?_)
                  intro w15 hS
                  refine keepS (hS.sb (by repeat constructor)) (fun hD => ?_)
                  refine SatD.eff 9 (by kernel_rfl) rfl rfl (OpW.store hS rfl rfl (by repeat constructor) (by repeat constructor) (by repeat constructor) rfl rfl ?_)
                  intro w16 hS
                  refine keepS (hS.sb (by repeat constructor)) (fun hD => ?_)
                  refine SatD.done 0 (by kernel_rfl) ?_
                  replace hS := hS.pick 0 rfl rfl
                  replace hS := hS.pick 1 rfl rfl
                  refine SatE.weak (e' := [(6, _), (7, _), (8, _)]) (by repeat constructor) ?_
                  exact hK b8 b7 w16 hS
              · skip
                intro b7 w12 _ hS
                refine keepS (hS.sb (by repeat constructor)) (fun hD => ?_)
                refine SatD.eff 2 (by kernel_rfl) rfl rfl (OpW.enter rfl rfl rfl rfl (best_any _ _ _ _ _ _ _) ?_)
                rintro _ w13 ⟨rfl, h⟩
                replace hS := St.callN hS h
                refine keepS (hS.sb (by repeat constructor)) (fun hD => ?_)
                refine SatD.eff 5 (by kernel_rfl) rfl rfl (OpW.enter rfl rfl rfl rfl (best_any _ _ _ _ _ _ _) ?_)
                rintro _ w14 ⟨rfl, h⟩
                replace hS := St.callN hS h
                refine keepS (hS.sb (by repeat constructor)) (fun hD => ?_)
                refine SatD.eff 8 (by kernel_rfl) rfl rfl (OpW.store hS rfl rfl (by repeat constructor) (by repeat constructor) (by repeat constructor) rfl rfl ?_)
                intro w15 hS
                refine keepS (hS.sb (by repeat constructor)) (fun hD => ?_)
                refine SatD.eff 9 (by kernel_rfl) rfl rfl (OpW.store hS rfl rfl (by repeat constructor) (by repeat constructor) (by repeat constructor) rfl rfl ?_)
                intro w16 hS
                refine keepS (hS.sb (by repeat constructor)) (fun hD => ?_)
                refine SatD.done 0 (by kernel_rfl) ?_
                replace hS := hS.pick 0 rfl rfl
                replace hS := hS.pick 1 rfl rfl
                refine SatE.weak (e' := [(6, _), (7, _), (8, _)]) (by repeat constructor) ?_
                exact hK b8 b7 w16 hS
          intro b8 b7 w61 hS
          refine SatE.thenC ?_
          refine SatC.seq ?_
          refine SatC.region ?_
          refine SatL.pu (RunV.loadN hS rfl rfl (by repeat constructor) (by repeat constructor)) rfl ?_
          refine SatL.pu (RunV.loadN hS rfl rfl (by repeat constructor) (by repeat constructor)) rfl ?_
          refine SatL.pu (RunV.bin rfl rfl (guard24 _ _ _ _ _ _ _ _ _ _) (run_eql24 _ _ _ _ _ _ _)) rfl ?_
          refine SatL.pu (RunV.move rfl) rfl ?_
          refine SatL.guard rfl rfl rfl (fun h5 => ?_) (fun h5 => ?_)
          · (try simp only [cx, ne_eq, abv, Upd.mk.injEq, decide_eq_decide, true_and] at h5)
            try (exfalso; omega)
            all_goals
            refine SatL.op rfl (OpW.enter rfl rfl rfl rfl (works_any _) ?_)
            rintro _ w62 ⟨rfl, h⟩
            replace hS := St.callN hS h
            refine SatL.pu (RunV.pick_t rfl rfl) rfl ?_
            refine SatL.pu (RunV.assign rfl) rfl ?_
            refine SatL.nil (SatE.thenC ?_)
            refine SatC.ret ?_
            refine SatE.ret1 rfl rfl ?_
            refine ⟨congrArg Value.bool ?_, hS.sub (List.nil_sublist _)⟩
            clear hS
            first | rfl | (rw [Bool.eq_iff_iff]; simp only [decide_eq_true_eq, decide_eq_false_iff_not, Bool.not_true, Bool.not_false, Bool.not_eq_true', Bool.not_eq_false', beq_iff_eq, beq_eq_false_iff_ne, bne_iff_ne, ne_eq, Int.not_lt, Int.not_le, Decidable.not_not, Bool.and_eq_true, Bool.or_eq_true, Bool.false_eq_true, false_iff, true_iff, iff_false, iff_true] <;> omega) | (exfalso; omega) | (exfalso; simp only [best, abv, decide_eq_true_eq, true_and] at h5; revert h5; (repeat' split) <;> intro hx <;> dsimp only at hx <;> omega)
          · (try simp only [cx, ne_eq, abv, Upd.mk.injEq, decide_eq_decide, true_and] at h5)
            try (exfalso; omega)
            all_goals
            refine SatL.pu (RunV.pick_f rfl rfl) rfl ?_
            refine SatL.pu (RunV.assign rfl) rfl ?_
            refine SatL.nil (SatE.thenC ?_)
            refine SatC.ret ?_
            refine SatE.ret1 rfl rfl ?_
            refine ⟨congrArg Value.bool ?_, hS.sub (List.nil_sublist _)⟩
            clear hS
            first | rfl | (rw [Bool.eq_iff_iff]; simp only [decide_eq_true_eq, decide_eq_false_iff_not, Bool.not_true, Bool.not_false, Bool.not_eq_true', Bool.not_eq_false', beq_iff_eq, beq_eq_false_iff_ne, bne_iff_ne, ne_eq, Int.not_lt, Int.not_le, Decidable.not_not, Bool.and_eq_true, Bool.or_eq_true, Bool.false_eq_true, false_iff, true_iff, iff_false, iff_true] <;> omega) | (exfalso; omega) | (exfalso; simp only [best, abv, decide_eq_true_eq, true_and] at h5; revert h5; (repeat' split) <;> intro hx <;> dsimp only at hx <;> omega)
      · (try simp only [cx, ne_eq, abv, Upd.mk.injEq, decide_eq_decide, true_and] at h3)
        try (exfalso; omega)
        all_goals
        refine SatL.guard_n rfl rfl rfl rfl ?_
        refine SatL.guard_n rfl rfl rfl rfl ?_
        refine SatL.pu (RunV.pick_f rfl rfl) rfl ?_
        refine SatL.pu (RunV.move rfl) rfl ?_
        refine SatL.guard_n rfl rfl rfl rfl ?_
        refine SatL.guard_n rfl rfl rfl rfl ?_
        refine SatL.guard_n rfl rfl rfl rfl ?_
        refine SatL.guard_n rfl rfl rfl rfl ?_
        refine SatL.pu (RunV.pick_f rfl rfl) rfl ?_
        refine SatL.nil (SatE.thenC ?_)
        refine SatC.weak (e' := [(3, _), (4, _), (6, _), (45, _)]) (by repeat constructor) ?_
        refine SatC.cond_f rfl ?_
        refine SatC.skip (SatE.thenC ?_)
        refine SatC.seq ?_
        refine SatC.drawnS (hS) (by kernel_rfl) ?_
        clear hS
        intro w9 _ hS hD
        refine SatD.take 0 rfl (by kernel_rfl) (fun _ _ _ h => h) rfl rfl hD (fun _ hw => RunV.loadN hw rfl rfl (by repeat constructor) (by repeat constructor)) ?_
        refine SatD.take 1 rfl (by kernel_rfl) (fun _ _ _ h => h) rfl rfl hD (fun _ hw => RunV.loadN hw rfl rfl (by repeat constructor) (by repeat constructor)) ?_
        refine SatD.take 3 rfl (by kernel_rfl) (fun _ _ _ h => h) rfl rfl hD (fun _ hw => RunV.loadN hw rfl rfl (by repeat constructor) (by repeat constructor)) ?_
        refine SatD.take 4 rfl (by kernel_rfl) (fun _ _ _ h => h) rfl rfl hD (fun _ hw => RunV.loadN hw rfl rfl (by repeat constructor) (by repeat constructor)) ?_
        apply SatD.join2
        · intro hK
          refine SatD.effs [2, 6, 7] (by kernel_rfl) ⟨⟨_, rfl, rfl, OpW.enter rfl rfl rfl rfl (best_any _ _ _ _ _ _ _) ?_⟩, ⟨_, rfl, rfl, OpW.alloc hS rfl rfl (by repeat constructor) ?_⟩, ⟨_, rfl, rfl, OpW.alloc hS rfl rfl (by repeat constructor) ?_⟩, trivial⟩
          · skip
            rintro _ w10 ⟨rfl, h⟩
            replace hS := St.callN hS h
            refine keepS (hS.sb (by repeat constructor)) (fun hD => ?_)
            refine SatD.effs [5, 6, 7] (by kernel_rfl) ⟨⟨_, rfl, rfl, OpW.enter rfl rfl rfl rfl (best_any _ _ _ _ _ _ _) ?_⟩, ⟨_, rfl, rfl, OpW.alloc hS rfl rfl (by repeat constructor) ?_⟩, ⟨_, rfl, rfl, OpW.alloc hS rfl rfl (by repeat constructor) ?_⟩, trivial⟩
            · skip
              rintro _ w11 ⟨rfl, h⟩
              replace hS := St.callN hS h
              refine keepS (hS.sb (by repeat constructor)) (fun hD => ?_)
              refine SatD.effs [6, 7] (by kernel_rfl) ⟨⟨_, rfl, rfl, OpW.alloc hS rfl rfl (by repeat constructor) ?_⟩, ⟨_, rfl, rfl, OpW.alloc hS rfl rfl (by repeat constructor) ?_⟩, trivial⟩
              · skip
                intro b7 w12 _ hS
                refine keepS (hS.sb (by repeat constructor)) (fun hD => ?_)
                refine SatD.eff 7 (by kernel_rfl) rfl rfl (OpW.alloc hS rfl rfl (by repeat constructor) ?_)
                intro b8 w13 _ hS
                refine keepS (hS.sb (by repeat constructor)) (fun hD => ?_)
                refine SatD.eff 8 (by kernel_rfl) rfl rfl (OpW.store hS rfl rfl (by repeat constructor) (by repeat constructor) (by repeat constructor) rfl rfl ?_)
                intro w14 hS
                refine keepS (hS.sb (by repeat constructor)) (fun hD => ?_)
                refine SatD.eff 9 (by kernel_rfl) rfl rfl (OpW.store hS rfl rfl (by repeat constructor) (by repeat constructor) (by repeat constructor) rfl rfl ?_)
                intro w15 hS
                refine keepS (hS.sb (by repeat constructor)) (fun hD => ?_)
                refine SatD.done 0 (by kernel_rfl) ?_
                refine SatE.weak (e' := [(6, _), (7, _), (8, _)]) (by repeat constructor) ?_
                exact hK b8 b7 w15 hS
              · skip
                intro b8 w12 _ hS
                refine keepS (hS.sb (by repeat constructor)) (fun hD => ?_)
                refine SatD.eff 6 (by kernel_rfl) rfl rfl (OpW.alloc hS rfl rfl (by repeat constructor) ?_)
                intro b7 w13 _ hS
                refine keepS (hS.sb (by repeat constructor)) (fun hD => ?_)
                refine SatD.eff 8 (by kernel_rfl) rfl rfl (OpW.store hS rfl rfl (by repeat constructor) (by repeat constructor) (by repeat constructor) rfl rfl ?_)
                intro w14 hS
                refine keepS (hS.sb (by repeat constructor)) (fun hD => ?_)
                refine SatD.eff 9 (by kernel_rfl) rfl rfl (OpW.store hS rfl rfl (by repeat constructor) (by repeat constructor) (by repeat constructor) rfl rfl ?_)
                intro w15 hS
                refine keepS (hS.sb (by repeat constructor)) (fun hD => ?_)
                refine SatD.done 0 (by kernel_rfl) ?_
                replace hS := hS.pick 0 rfl rfl
                replace hS := hS.pick 1 rfl rfl
                refine SatE.weak (e' := [(6, _), (7, _), (8, _)]) (by repeat constructor) ?_
                exact hK b8 b7 w15 hS
            · skip
              intro b7 w11 _ hS
              refine keepS (hS.sb (by repeat constructor)) (fun hD => ?_)
              refine SatD.effs [5, 7] (by kernel_rfl) ⟨⟨_, rfl, rfl, OpW.enter rfl rfl rfl rfl (best_any _ _ _ _ _ _ _) ?_⟩, ⟨_, rfl, rfl, OpW.alloc hS rfl rfl (by repeat constructor) ?_⟩, trivial⟩
              · skip
                rintro _ w12 ⟨rfl, h⟩
                replace hS := St.callN hS h
                refine keepS (hS.sb (by repeat constructor)) (fun hD => ?_)
                refine SatD.eff 7 (by kernel_rfl) rfl rfl (OpW.alloc hS rfl rfl (by repeat constructor) ?_)
                intro b8 w13 _ hS
                refine keepS (hS.sb (by repeat constructor)) (fun hD => ?_)
                refine SatD.eff 8 (by kernel_rfl) rfl rfl (OpW.store hS rfl rfl (by repeat constructor) (by repeat constructor) (by repeat constructor) rfl rfl ?_)
                intro w14 hS
                refine keepS (hS.sb (by repeat constructor)) (fun hD => ?_)
                refine SatD.eff 9 (by kernel_rfl) rfl rfl (OpW.store hS rfl rfl (by repeat constructor) (by repeat constructor) (by repeat constructor) rfl rfl ?_)
                intro w15 hS
                refine keepS (hS.sb (by repeat constructor)) (fun hD => ?_)
                refine SatD.done 0 (by kernel_rfl) ?_
                refine SatE.weak (e' := [(6, _), (7, _), (8, _)]) (by repeat constructor) ?_
                exact hK b8 b7 w15 hS
              · skip
                intro b8 w12 _ hS
                refine keepS (hS.sb (by repeat constructor)) (fun hD => ?_)
                refine SatD.eff 5 (by kernel_rfl) rfl rfl (OpW.enter rfl rfl rfl rfl (best_any _ _ _ _ _ _ _) ?_)
                rintro _ w13 ⟨rfl, h⟩
                replace hS := St.callN hS h
                refine keepS (hS.sb (by repeat constructor)) (fun hD => ?_)
                refine SatD.eff 8 (by kernel_rfl) rfl rfl (OpW.store hS rfl rfl (by repeat constructor) (by repeat constructor) (by repeat constructor) rfl rfl ?_)
                intro w14 hS
                refine keepS (hS.sb (by repeat constructor)) (fun hD => ?_)
                refine SatD.eff 9 (by kernel_rfl) rfl rfl (OpW.store hS rfl rfl (by repeat constructor) (by repeat constructor) (by repeat constructor) rfl rfl ?_)
                intro w15 hS
                refine keepS (hS.sb (by repeat constructor)) (fun hD => ?_)
                refine SatD.done 0 (by kernel_rfl) ?_
                refine SatE.weak (e' := [(6, _), (7, _), (8, _)]) (by repeat constructor) ?_
                exact hK b8 b7 w15 hS
            · skip
              intro b8 w11 _ hS
              refine keepS (hS.sb (by repeat constructor)) (fun hD => ?_)
              refine SatD.effs [5, 6] (by kernel_rfl) ⟨⟨_, rfl, rfl, OpW.enter rfl rfl rfl rfl (best_any _ _ _ _ _ _ _) ?_⟩, ⟨_, rfl, rfl, OpW.alloc hS rfl rfl (by repeat constructor) ?_⟩, trivial⟩
              · skip
                rintro _ w12 ⟨rfl, h⟩
                replace hS := St.callN hS h
                refine keepS (hS.sb (by repeat constructor)) (fun hD => ?_)
                refine SatD.eff 6 (by kernel_rfl) rfl rfl (OpW.alloc hS rfl rfl (by repeat constructor) ?_)
                intro b7 w13 _ hS
                refine keepS (hS.sb (by repeat constructor)) (fun hD => ?_)
                refine SatD.eff 8 (by kernel_rfl) rfl rfl (OpW.store hS rfl rfl (by repeat constructor) (by repeat constructor) (by repeat constructor) rfl rfl ?_)
                intro w14 hS
                refine keepS (hS.sb (by repeat constructor)) (fun hD => ?_)
                refine SatD.eff 9 (by kernel_rfl) rfl rfl (OpW.store hS rfl rfl (by repeat constructor) (by repeat constructor) (by repeat constructor) rfl rfl ?_)
                intro w15 hS
                refine keepS (hS.sb (by repeat constructor)) (fun hD => ?_)
                refine SatD.done 0 (by kernel_rfl) ?_
                replace hS := hS.pick 0 rfl rfl
                replace hS := hS.pick 1 rfl rfl
                refine SatE.weak (e' := [(6, _), (7, _), (8, _)]) (by repeat constructor) ?_
                exact hK b8 b7 w15 hS
              · skip
                intro b7 w12 _ hS
                refine keepS (hS.sb (by repeat constructor)) (fun hD => ?_)
                refine SatD.eff 5 (by kernel_rfl) rfl rfl (OpW.enter rfl rfl rfl rfl (best_any _ _ _ _ _ _ _) ?_)
                rintro _ w13 ⟨rfl, h⟩
                replace hS := St.callN hS h
                refine keepS (hS.sb (by repeat constructor)) (fun hD => ?_)
                refine SatD.eff 8 (by kernel_rfl) rfl rfl (OpW.store hS rfl rfl (by repeat constructor) (by repeat constructor) (by repeat constructor) rfl rfl ?_)
                intro w14 hS
                refine keepS (hS.sb (by repeat constructor)) (fun hD => ?_)
                refine SatD.eff 9 (by kernel_rfl) rfl rfl (OpW.store hS rfl rfl (by repeat constructor) (by repeat constructor) (by repeat constructor) rfl rfl ?_)
                intro w15 hS
                refine keepS (hS.sb (by repeat constructor)) (fun hD => ?_)
                refine SatD.done 0 (by kernel_rfl) ?_
                replace hS := hS.pick 0 rfl rfl
                replace hS := hS.pick 1 rfl rfl
                refine SatE.weak (e' := [(6, _), (7, _), (8, _)]) (by repeat constructor) ?_
                exact hK b8 b7 w15 hS
          · skip
            intro b7 w10 _ hS
            refine keepS (hS.sb (by repeat constructor)) (fun hD => ?_)
            refine SatD.effs [2, 7] (by kernel_rfl) ⟨⟨_, rfl, rfl, OpW.enter rfl rfl rfl rfl (best_any _ _ _ _ _ _ _) ?_⟩, ⟨_, rfl, rfl, OpW.alloc hS rfl rfl (by repeat constructor) ?_⟩, trivial⟩
            · skip
              rintro _ w11 ⟨rfl, h⟩
              replace hS := St.callN hS h
              refine keepS (hS.sb (by repeat constructor)) (fun hD => ?_)
              refine SatD.effs [5, 7] (by kernel_rfl) ⟨⟨_, rfl, rfl, OpW.enter rfl rfl rfl rfl (best_any _ _ _ _ _ _ _) ?_⟩, ⟨_, rfl, rfl, OpW.alloc hS rfl rfl (by repeat constructor) ?_⟩, trivial⟩
              · skip
                rintro _ w12 ⟨rfl, h⟩
                replace hS := St.callN hS h
                refine keepS (hS.sb (by repeat constructor)) (fun hD => ?_)
                refine SatD.eff 7 (by kernel_rfl) rfl rfl (OpW.alloc hS rfl rfl (by repeat constructor) ?_)
                intro b8 w13 _ hS
                refine keepS (hS.sb (by repeat constructor)) (fun hD => ?_)
                refine SatD.eff 8 (by kernel_rfl) rfl rfl (OpW.store hS rfl rfl (by repeat constructor) (by repeat constructor) (by repeat constructor) rfl rfl ?_)
                intro w14 hS
                refine keepS (hS.sb (by repeat constructor)) (fun hD => ?_)
                refine SatD.eff 9 (by kernel_rfl) rfl rfl (OpW.store hS rfl rfl (by repeat constructor) (by repeat constructor) (by repeat constructor) rfl rfl ?_)
                intro w15 hS
                refine keepS (hS.sb (by repeat constructor)) (fun hD => ?_)
                refine SatD.done 0 (by kernel_rfl) ?_
                refine SatE.weak (e' := [(6, _), (7, _), (8, _)]) (by repeat constructor) ?_
                exact hK b8 b7 w15 hS
              · skip
                intro b8 w12 _ hS
                refine keepS (hS.sb (by repeat constructor)) (fun hD => ?_)
                refine SatD.eff 5 (by kernel_rfl) rfl rfl (OpW.enter rfl rfl rfl rfl (best_any _ _ _ _ _ _ _) ?_)
                rintro _ w13 ⟨rfl, h⟩
                replace hS := St.callN hS h
                refine keepS (hS.sb (by repeat constructor)) (fun hD => ?_)
                refine SatD.eff 8 (by kernel_rfl) rfl rfl (OpW.store hS rfl rfl (by repeat constructor) (by repeat constructor) (by repeat constructor) rfl rfl ?_)
                intro w14 hS
                refine keepS (hS.sb (by repeat constructor)) (fun hD => ?_)
                refine SatD.eff 9 (by kernel_rfl) rfl rfl (OpW.store hS rfl rfl (by repeat constructor) (by repeat constructor) (by repeat constructor) rfl rfl ?_)
                intro w15 hS
                refine keepS (hS.sb (by repeat constructor)) (fun hD => ?_)
                refine SatD.done 0 (by kernel_rfl) ?_
                refine SatE.weak (e' := [(6, _), (7, _), (8, _)]) (by repeat constructor) ?_
                exact hK b8 b7 w15 hS
            · skip
              intro b8 w11 _ hS
              refine keepS (hS.sb (by repeat constructor)) (fun hD => ?_)
              refine SatD.eff 2 (by kernel_rfl) rfl rfl (OpW.enter rfl rfl rfl rfl (best_any _ _ _ _ _ _ _) ?_)
              rintro _ w12 ⟨rfl, h⟩
              replace hS := St.callN hS h
              refine keepS (hS.sb (by repeat constructor)) (fun hD => ?_)
              refine SatD.eff 5 (by kernel_rfl) rfl rfl (OpW.enter rfl rfl rfl rfl (best_any _ _ _ _ _ _ _) ?_)
              rintro _ w13 ⟨rfl, h⟩
              replace hS := St.callN hS h
              refine keepS (hS.sb (by repeat constructor)) (fun hD => ?_)
              refine SatD.eff 8 (by kernel_rfl) rfl rfl (OpW.store hS rfl rfl (by repeat constructor) (by repeat constructor) (by repeat constructor) rfl rfl ?_)
              intro w14 hS
              refine keepS (hS.sb (by repeat constructor)) (fun hD => ?_)
              refine SatD.eff 9 (by kernel_rfl) rfl rfl (OpW.store hS rfl rfl (by repeat constructor) (by repeat constructor) (by repeat constructor) rfl rfl ?_)
              intro w15 hS
              refine keepS (hS.sb (by repeat constructor)) (fun hD => ?_)
              refine SatD.done 0 (by kernel_rfl) ?_
              refine SatE.weak (e' := [(6, _), (7, _), (8, _)]) (by repeat constructor) ?_
              exact hK b8 b7 w15 hS
          · skip
            intro b8 w10 _ hS
            refine keepS (hS.sb (by repeat constructor)) (fun hD => ?_)
            refine SatD.effs [2, 6] (by kernel_rfl) ⟨⟨_, rfl, rfl, OpW.enter rfl rfl rfl rfl (best_any _ _ _ _ _ _ _) ?_⟩, ⟨_, rfl, rfl, OpW.alloc hS rfl rfl (by repeat constructor) ?_⟩, trivial⟩
            · skip
              rintro _ w11 ⟨rfl, h⟩
              replace hS := St.callN hS h
              refine keepS (hS.sb (by repeat constructor)) (fun hD => ?_)
              refine SatD.effs [5, 6] (by kernel_rfl) ⟨⟨_, rfl, rfl, OpW.enter rfl rfl rfl rfl (best_any _ _ _ _ _ _ _) ?_⟩, ⟨_, rfl, rfl, OpW.alloc hS rfl rfl (by repeat constructor) ?_⟩, trivial⟩
              · skip
                rintro _ w12 ⟨rfl, h⟩
                replace hS := St.callN hS h
                refine keepS (hS.sb (by repeat constructor)) (fun hD => ?_)
                refine SatD.eff 6 (by kernel_rfl) rfl rfl (OpW.alloc hS rfl rfl (by repeat constructor) ?_)
                intro b7 w13 _ hS
                refine keepS (hS.sb (by repeat constructor)) (fun hD => ?_)
                refine SatD.eff 8 (by kernel_rfl) rfl rfl (OpW.store hS rfl rfl (by repeat constructor) (by repeat constructor) (by repeat constructor) rfl rfl ?_)
                intro w14 hS
                refine keepS (hS.sb (by repeat constructor)) (fun hD => ?_)
                refine SatD.eff 9 (by kernel_rfl) rfl rfl (OpW.store hS rfl rfl (by repeat constructor) (by repeat constructor) (by repeat constructor) rfl rfl ?_)
                intro w15 hS
                refine keepS (hS.sb (by repeat constructor)) (fun hD => ?_)
                refine SatD.done 0 (by kernel_rfl) ?_
                replace hS := hS.pick 0 rfl rfl
                replace hS := hS.pick 1 rfl rfl
                refine SatE.weak (e' := [(6, _), (7, _), (8, _)]) (by repeat constructor) ?_
                exact hK b8 b7 w15 hS
              · skip
                intro b7 w12 _ hS
                refine keepS (hS.sb (by repeat constructor)) (fun hD => ?_)
                refine SatD.eff 5 (by kernel_rfl) rfl rfl (OpW.enter rfl rfl rfl rfl (best_any _ _ _ _ _ _ _) ?_)
                rintro _ w13 ⟨rfl, h⟩
                replace hS := St.callN hS h
                refine keepS (hS.sb (by repeat constructor)) (fun hD => ?_)
                refine SatD.eff 8 (by kernel_rfl) rfl rfl (OpW.store hS rfl rfl (by repeat constructor) (by repeat constructor) (by repeat constructor) rfl rfl ?_)
                intro w14 hS
                refine keepS (hS.sb (by repeat constructor)) (fun hD => ?_)
                refine SatD.eff 9 (by kernel_rfl) rfl rfl (OpW.store hS rfl rfl (by repeat constructor) (by repeat constructor) (by repeat constructor) rfl rfl ?_)
                intro w15 hS
                refine keepS (hS.sb (by repeat constructor)) (fun hD => ?_)
                refine SatD.done 0 (by kernel_rfl) ?_
                replace hS := hS.pick 0 rfl rfl
                replace hS := hS.pick 1 rfl rfl
                refine SatE.weak (e' := [(6, _), (7, _), (8, _)]) (by repeat constructor) ?_
                exact hK b8 b7 w15 hS
            · skip
              intro b7 w11 _ hS
              refine keepS (hS.sb (by repeat constructor)) (fun hD => ?_)
              refine SatD.eff 2 (by kernel_rfl) rfl rfl (OpW.enter rfl rfl rfl rfl (best_any _ _ _ _ _ _ _) ?_)
              rintro _ w12 ⟨rfl, h⟩
              replace hS := St.callN hS h
              refine keepS (hS.sb (by repeat constructor)) (fun hD => ?_)
              refine SatD.eff 5 (by kernel_rfl) rfl rfl (OpW.enter rfl rfl rfl rfl (best_any _ _ _ _ _ _ _) ?_)
              rintro _ w13 ⟨rfl, h⟩
              replace hS := St.callN hS h
              refine keepS (hS.sb (by repeat constructor)) (fun hD => ?_)
              refine SatD.eff 8 (by kernel_rfl) rfl rfl (OpW.store hS rfl rfl (by repeat constructor) (by repeat constructor) (by repeat constructor) rfl rfl ?_)
              intro w14 hS
              refine keepS (hS.sb (by repeat constructor)) (fun hD => ?_)
              refine SatD.eff 9 (by kernel_rfl) rfl rfl (OpW.store hS rfl rfl (by repeat constructor) (by repeat constructor) (by repeat constructor) rfl rfl ?_)
              intro w15 hS
              refine keepS (hS.sb (by repeat constructor)) (fun hD => ?_)
              refine SatD.done 0 (by kernel_rfl) ?_
              replace hS := hS.pick 0 rfl rfl
              replace hS := hS.pick 1 rfl rfl
              refine SatE.weak (e' := [(6, _), (7, _), (8, _)]) (by repeat constructor) ?_
              exact hK b8 b7 w15 hS
        intro b8 b7 w60 hS
        refine SatE.thenC ?_
        refine SatC.seq ?_
        refine SatC.region ?_
        refine SatL.pu (RunV.loadN hS rfl rfl (by repeat constructor) (by repeat constructor)) rfl ?_
        refine SatL.pu (RunV.loadN hS rfl rfl (by repeat constructor) (by repeat constructor)) rfl ?_
        refine SatL.pu (RunV.bin rfl rfl (guard24 _ _ _ _ _ _ _ _ _ _) (run_eql24 _ _ _ _ _ _ _)) rfl ?_
        refine SatL.pu (RunV.move rfl) rfl ?_
        refine SatL.guard rfl rfl rfl (fun h4 => ?_) (fun h4 => ?_)
        · (try simp only [cx, ne_eq, abv, Upd.mk.injEq, decide_eq_decide, true_and] at h4)
          try (exfalso; omega)
          all_goals
          refine SatL.op rfl (OpW.enter rfl rfl rfl rfl (works_any _) ?_)
          rintro _ w61 ⟨rfl, h⟩
          replace hS := St.callN hS h
          refine SatL.pu (RunV.pick_t rfl rfl) rfl ?_
          refine SatL.pu (RunV.assign rfl) rfl ?_
          refine SatL.nil (SatE.thenC ?_)
          refine SatC.ret ?_
          refine SatE.ret1 rfl rfl ?_
          refine ⟨congrArg Value.bool ?_, hS.sub (List.nil_sublist _)⟩
          clear hS
          first | rfl | (rw [Bool.eq_iff_iff]; simp only [decide_eq_true_eq, decide_eq_false_iff_not, Bool.not_true, Bool.not_false, Bool.not_eq_true', Bool.not_eq_false', beq_iff_eq, beq_eq_false_iff_ne, bne_iff_ne, ne_eq, Int.not_lt, Int.not_le, Decidable.not_not, Bool.and_eq_true, Bool.or_eq_true, Bool.false_eq_true, false_iff, true_iff, iff_false, iff_true] <;> omega) | (exfalso; omega) | (exfalso; simp only [best, abv, decide_eq_true_eq, true_and] at h4; revert h4; (repeat' split) <;> intro hx <;> dsimp only at hx <;> omega)
        · (try simp only [cx, ne_eq, abv, Upd.mk.injEq, decide_eq_decide, true_and] at h4)
          try (exfalso; omega)
          all_goals
          refine SatL.pu (RunV.pick_f rfl rfl) rfl ?_
          refine SatL.pu (RunV.assign rfl) rfl ?_
          refine SatL.nil (SatE.thenC ?_)
          refine SatC.ret ?_
          refine SatE.ret1 rfl rfl ?_
          refine ⟨congrArg Value.bool ?_, hS.sub (List.nil_sublist _)⟩
          clear hS
          first | rfl | (rw [Bool.eq_iff_iff]; simp only [decide_eq_true_eq, decide_eq_false_iff_not, Bool.not_true, Bool.not_false, Bool.not_eq_true', Bool.not_eq_false', beq_iff_eq, beq_eq_false_iff_ne, bne_iff_ne, ne_eq, Int.not_lt, Int.not_le, Decidable.not_not, Bool.and_eq_true, Bool.or_eq_true, Bool.false_eq_true, false_iff, true_iff, iff_false, iff_true] <;> omega) | (exfalso; omega) | (exfalso; simp only [best, abv, decide_eq_true_eq, true_and] at h4; revert h4; (repeat' split) <;> intro hx <;> dsimp only at hx <;> omega)
theorem rankOrder_lifted (os : Os) (started : os.Started) (H : Type) (enc : TypeId × Value → H) :
    ReturnsInHanded {} Try.checked os 3 .any (Rows.rankOrderSpec.pre6 enc Try.prog Try.f3 Rows.rankOrderRow.domain false) (Rows.rankOrderSpec.post enc Try.prog Try.f3 false true false false) := by
  refine law_returns (C := Try.checked) (b := 4) (by kernel_rfl) started (by kernel_rfl) Try.func3
    (ChangeSpec.witness6 (enc := enc) (C := Try.checked) false ⟨#[], #[.agg #[.int .i64 0, .int .u32 0, .int .i64 0], .agg #[.int .i64 0, .int .u32 0, .int .i64 0], .agg #[.int .i64 0, .int .u32 0, .int .i64 0]], []⟩ 8 (by kernel_rfl) (by kernel_rfl) (by kernel_rfl) (by kernel_rfl))
    rfl rfl (by kernel_rfl) (by kernel_rfl) (by kernel_rfl) (fun ds h => ?_) ?_
  · rw [Try.params3] at h
    match ds, h with
    | [_, _, _], _ => rfl
  intro W base args ds ps hval hA hsz
  rw [Try.params3] at hA hval
  obtain ⟨v0, v1, v2, d0, d1, d2, q0, q1, q2, hargs, rfl, rfl, h0, h1, h2⟩ := trodAll_three hA
  subst hargs
  obtain ⟨c0, rfl, l0⟩ := open_struct (l := [3, 22, 3]) 6 Try.underlying24 (by kernel_rfl) (hval 0 24 v0 rfl rfl) h0
  obtain ⟨a0_0, a0_1, a0_2, rfl, l0_0, l0_1, l0_2⟩ := allLeaf_list3 l0
  obtain ⟨a0_0, rfl, ba0_0⟩ := leaf_int Try.underlying3 l0_0
  replace ba0_0 := bnd_i64 ba0_0
  obtain ⟨a0_1, rfl, ba0_1⟩ := leaf_int Try.underlying22 l0_1
  replace ba0_1 := bnd_u32 ba0_1
  obtain ⟨a0_2, rfl, ba0_2⟩ := leaf_int Try.underlying3 l0_2
  replace ba0_2 := bnd_i64 ba0_2
  obtain ⟨c1, rfl, l1⟩ := open_struct (l := [3, 22, 3]) 6 Try.underlying24 (by kernel_rfl) (hval 1 24 v1 rfl rfl) h1
  obtain ⟨a1_0, a1_1, a1_2, rfl, l1_0, l1_1, l1_2⟩ := allLeaf_list3 l1
  obtain ⟨a1_0, rfl, ba1_0⟩ := leaf_int Try.underlying3 l1_0
  replace ba1_0 := bnd_i64 ba1_0
  obtain ⟨a1_1, rfl, ba1_1⟩ := leaf_int Try.underlying22 l1_1
  replace ba1_1 := bnd_u32 ba1_1
  obtain ⟨a1_2, rfl, ba1_2⟩ := leaf_int Try.underlying3 l1_2
  replace ba1_2 := bnd_i64 ba1_2
  obtain ⟨c2, rfl, l2⟩ := open_struct (l := [3, 22, 3]) 6 Try.underlying24 (by kernel_rfl) (hval 2 24 v2 rfl rfl) h2
  obtain ⟨a2_0, a2_1, a2_2, rfl, l2_0, l2_1, l2_2⟩ := allLeaf_list3 l2
  obtain ⟨a2_0, rfl, ba2_0⟩ := leaf_int Try.underlying3 l2_0
  replace ba2_0 := bnd_i64 ba2_0
  obtain ⟨a2_1, rfl, ba2_1⟩ := leaf_int Try.underlying22 l2_1
  replace ba2_1 := bnd_u32 ba2_1
  obtain ⟨a2_2, rfl, ba2_2⟩ := leaf_int Try.underlying3 l2_2
  replace ba2_2 := bnd_i64 ba2_2
  exact law_done (order_any _ _ _ _ _ _ _ _ _ W)
theorem rankOrder_holds : Rows.RankOrderSaid :=
  OpenClaim.holds_of_wide 3 Try.f3 rfl rfl rfl rfl rfl rfl rfl ⟨rfl, rfl, rfl, rfl, rfl⟩ rfl rfl rfl rfl rfl (by kernel_rfl) Try.func3 (by kernel_rfl)
    (of_decide_eq_true (by kernel_rfl)) (by unfold Func.isWrapper; first | (rw [if_pos (by decide +kernel)]; kernel_rfl) | (rw [if_neg (by decide +kernel)]; exact ⟨rfl, rfl⟩))
    (fun os started H enc _ => rankOrder_lifted os started H enc)
end Go.Proofs.Ytnjegigoifkikaa
