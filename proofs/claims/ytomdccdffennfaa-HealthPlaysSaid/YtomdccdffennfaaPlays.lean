/- HealthPlays: whatever is told, and ticked, a check of any plan is what the document says: true at every input, with no condition. -/
import Derived.Test.YtomdccdffennfaaE
import Derived.Test.YtomdccdffennfaaK7
import Derived.Test.YtomdccdffennfaaRows
set_option linter.unusedSimpArgs false
set_option linter.unusedVariables false
set_option maxRecDepth 100000
set_option maxHeartbeats 1000000
namespace Go.Proofs.Ytomdccdffennfaa
open Go.RowKit Go.ChangeShapes Go.WideShapes Go.ChangeAt
@[reducible] def st2 (y : Int × Int) : List Value := [.int .i64 y.1, .int .i64 y.2]
theorem guard28 (op : BinOp) (x y : Operand) (p q : Pl) (w : World) : (eqGuard op 28 x y (.agg (plc p).toArray) (.agg (plc q).toArray)).run Try.prog w = .ok () w := by
  unfold eqGuard
  cases op <;> simp [go_sem]
theorem eql28 (p : Pl) (w : World) : (binOp .eql 28 (.agg (plc p).toArray) (.agg (plc p).toArray)).run Try.prog w = .ok (.bool true) w := by
  simp [go_sem]
theorem plays_no (p : Pl) (v : Value) (ys : List (Int × Int)) (w : World) (hr : RdRow w v 2 (ys.map st2)) (hp : ¬ Pok p) : Ret Try.prog 6 #[.agg (plc p).toArray, v] w fun v w' => v = .bool true ∧ St w [] [] w' := by
  have hS := St.init0 w
  refine Ret.enter Try.func6 Try.ntmps6 rfl rfl ?_
  simp only [argEnv, Nat.reduceAdd]
  refine SatC.seq ?_
  refine SatC.region ?_
  refine SatL.op rfl (OpW.box hS rfl rfl (by repeat constructor) ?_)
  clear hS
  intro b2 w1 _ hS
  refine SatL.pu (RunV.assign rfl) rfl ?_
  refine SatL.nil (SatE.thenC ?_)
  refine SatC.seq ?_
  refine SatC.region ?_
  refine SatL.pu (RunV.loadN hS rfl rfl (by repeat constructor) (by repeat constructor)) rfl ?_
  refine SatL.op rfl (OpW.enter rfl rfl rfl (rfl) (new_no p _ hp) ?_)
  rintro r2 w2 ⟨rfl, h⟩
  replace hS := St.callN hS h
  refine SatL.pu (RunV.move rfl) rfl ?_
  refine SatL.pu (RunV.extract rfl rfl) rfl ?_
  refine SatL.pu (RunV.extract rfl rfl) rfl ?_
  refine SatL.pu (RunV.assign rfl) rfl ?_
  refine SatL.pu (RunV.assign rfl) rfl ?_
  refine SatL.nil (SatE.thenC ?_)
  refine SatC.seq ?_
  refine SatC.seq ?_
  refine SatC.drawnT 5 hS (hS) (by kernel_rfl) ?_
  clear hS
  intro w3 hh hS hD
  refine SatD.take 0 rfl [] (by kernel_rfl) (fun _ _ _ h => h) rfl rfl hD (fun _ hw => RunV.loadN hw rfl rfl (by repeat constructor) (by repeat constructor)) ?_
  refine SatD.take 2 rfl [] (by kernel_rfl) (fun _ _ _ h => h) rfl rfl hD (fun _ hw => RunV.loadN hw rfl rfl (by repeat constructor) (by repeat constructor)) ?_
  refine SatD.eff 1 (by kernel_rfl) rfl rfl (OpW.enter rfl rfl rfl (rfl) (pright_any _ _) ?_)
  rintro r4 w4 ⟨rfl, h⟩
  replace hS := St.callN hS h
  refine keepS (hS.sb (by repeat constructor)) (fun hD => ?_)
  refine SatD.eff 3 (by kernel_rfl) rfl rfl (OpW.enter rfl rfl rfl (rfl) (pright_ref _ _) ?_)
  rintro r5 w5 ⟨rfl, h⟩
  replace hS := St.callN hS h
  refine keepS (hS.sb (by repeat constructor)) (fun hD => ?_)
  refine SatD.take 4 rfl [] (by kernel_rfl) (fun _ _ _ h => h) rfl rfl hD (fun _ hw => RunV.bneq rfl rfl rfl) ?_
  refine SatD.done 0 (by kernel_rfl) (SatE.thenC ?_)
  clear hD
  refine SatC.cond rfl (fun h1 => ?_) (fun h1 => ?_)
  · (try simp only [cx, ne_eq] at h1)
    try (exfalso; (first | omega | exact h1 trivial | contradiction | exact hp h1 | exact absurd rfl h1); done)
    all_goals
    refine SatC.seq ?_
    refine SatC.weak (e' := [(4, _)]) (by repeat constructor) ?_
    refine SatC.region ?_
    refine SatL.pu (RunV.assign rfl) rfl ?_
    refine SatL.nil (SatE.thenC ?_)
    refine SatC.ret (SatE.then_ret ?_)
    refine SatE.ret1 rfl rfl ?_
    exact ⟨rfl, hS.sub (List.nil_sublist _)⟩
  · (try simp only [cx, ne_eq] at h1)
    try (exfalso; (first | omega | exact h1 trivial | contradiction | exact hp h1 | exact absurd rfl h1); done)
    all_goals
    refine SatC.skip (SatE.thenC ?_)
    refine SatC.seq ?_
    refine SatC.seq ?_
    refine SatC.region ?_
    refine SatL.pu (RunV.loadN hS rfl rfl (by repeat constructor) (by repeat constructor)) rfl ?_
    refine SatL.op rfl (OpW.enter rfl rfl rfl (rfl) (pright_ref _ _) ?_)
    rintro r6 w6 ⟨rfl, h⟩
    replace hS := St.callN hS h
    refine SatL.pu (RunV.not rfl) rfl ?_
    refine SatL.nil (SatE.thenC ?_)
    refine SatC.weak (e' := [(1, _), (2, _), (4, _), (5, _), (6, _), (21, _)]) (by repeat constructor) ?_
    refine SatC.cond rfl (fun h2 => ?_) (fun h2 => ?_)
    · (try simp only [cx, ne_eq] at h2)
      try (exfalso; (first | omega | exact h2 trivial | contradiction | exact hp h2 | exact absurd rfl h2); done)
      all_goals
      refine SatC.seq ?_
      refine SatC.region ?_
      refine SatL.pu (RunV.move rfl) rfl ?_
      refine SatL.pu (RunV.eql rfl rfl) rfl ?_
      refine SatL.pu (RunV.move rfl) rfl ?_
      refine SatL.guard rfl rfl rfl (fun h3 => ?_) (fun h3 => ?_)
      · (try simp only [cx, ne_eq] at h3)
        try (exfalso; (first | omega | exact h3 trivial | contradiction | exact hp h3 | exact absurd rfl h3); done)
        all_goals
        refine SatL.pu (RunV.move rfl) rfl ?_
        refine SatL.guard_y rfl rfl ?_
        refine SatL.pu (RunV.eqlPtrNil rfl rfl rfl) rfl ?_
        refine SatL.pu (RunV.pick_t rfl rfl) rfl ?_
        refine SatL.pu (RunV.move rfl) rfl ?_
        refine SatL.guard rfl rfl rfl (fun h4 => ?_) (fun h4 => ?_)
        · (try simp only [cx, ne_eq] at h4)
          try (exfalso; (first | omega | exact h4 trivial | contradiction | exact hp h4 | exact absurd rfl h4); done)
          all_goals
          refine SatL.op rfl (OpW.enter rfl rfl rfl (rfl) (works_any _) ?_)
          rintro r7 w7 ⟨rfl, h⟩
          replace hS := St.callN hS h
          refine SatL.pu (RunV.pick_t rfl rfl) rfl ?_
          refine SatL.pu (RunV.assign rfl) rfl ?_
          refine SatL.nil (SatE.thenC ?_)
          refine SatC.ret (SatE.then_ret ?_)
          refine SatE.ret1 rfl rfl ?_
          exact ⟨rfl, hS.sub (List.nil_sublist _)⟩
        · (try simp only [cx, ne_eq] at h4)
          try (exfalso; (first | omega | exact h4 trivial | contradiction | exact hp h4 | exact absurd rfl h4); done)
          all_goals
          refine SatL.pu (RunV.pick_f rfl rfl) rfl ?_
          refine SatL.pu (RunV.assign rfl) rfl ?_
          refine SatL.nil (SatE.thenC ?_)
          refine SatC.ret (SatE.then_ret ?_)
          refine SatE.ret1 rfl rfl ?_
          exact ⟨rfl, hS.sub (List.nil_sublist _)⟩
      · (try simp only [cx, ne_eq] at h3)
        try (exfalso; (first | omega | exact h3 trivial | contradiction | exact hp h3 | exact absurd rfl h3); done)
        all_goals
        refine SatL.guard_n rfl rfl rfl rfl ?_
        refine SatL.pu (RunV.pick_f rfl rfl) rfl ?_
        refine SatL.pu (RunV.move rfl) rfl ?_
        refine SatL.guard_n rfl rfl rfl rfl ?_
        refine SatL.pu (RunV.pick_f rfl rfl) rfl ?_
        refine SatL.pu (RunV.assign rfl) rfl ?_
        refine SatL.nil (SatE.thenC ?_)
        refine SatC.ret (SatE.then_ret ?_)
        refine SatE.ret1 rfl rfl ?_
        exact ⟨rfl, hS.sub (List.nil_sublist _)⟩
    · (try simp only [cx, ne_eq] at h2)
      try (exfalso; (first | omega | exact h2 trivial | contradiction | exact hp h2 | exact absurd rfl h2); done)
      all_goals
      refine SatC.skip (SatE.thenC ?_)
      refine SatC.seq ?_
      refine SatC.region ?_
      refine SatL.pu (RunV.loadN hS rfl rfl (by repeat constructor) (by repeat constructor)) rfl ?_
      refine SatL.pu (RunV.build rfl (by simp [go_sem]; try rfl)) rfl ?_
      refine SatL.op rfl (OpW.box hS rfl rfl (by repeat constructor) ?_)
      clear hS
      intro b33 w7 _ hS
      refine SatL.pu (RunV.assign rfl) rfl ?_
      refine SatL.nil (SatE.thenC ?_)
      refine SatC.seq ?_
      refine SatC.seq ?_
      refine SatC.region ?_
      refine SatL.pu (RunV.assign rfl) rfl ?_
      refine SatL.nil (SatE.thenC ?_)
      refine SatC.block ?_
      -- LOOP 1: turn [4, 8], stay [1, 2, 5, 7]
      -- STOP loop 1
      skip
theorem plays_ok (p : Pl) (v : Value) (ys : List (Int × Int)) (w : World) (hr : RdRow w v 2 (ys.map st2)) (hp : Pok p) : Ret Try.prog 6 #[.agg (plc p).toArray, v] w fun v w' => v = .bool true ∧ St w [] [] w' := by
  have hS := St.init0 w
  have hk : ¬ p.kind = 0 := by unfold Pok at hp; omega
  obtain ⟨bl, ol, cl, hvl, hmaxl, hcl, hltl⟩ := hr.open
  simp only [List.length_map] at hvl hmaxl
  generalize hf0 : fv ⟨p, 2, 0, 0, 0, 0, false⟩ = f
  refine Ret.enter Try.func6 Try.ntmps6 rfl rfl ?_
  simp only [argEnv, Nat.reduceAdd]
  refine SatC.seq ?_
  refine SatC.region ?_
  refine SatL.op rfl (OpW.box hS rfl rfl (by repeat constructor) ?_)
  clear hS
  intro b2 w1 _ hS
  refine SatL.pu (RunV.assign rfl) rfl ?_
  refine SatL.nil (SatE.thenC ?_)
  refine SatC.seq ?_
  refine SatC.region ?_
  refine SatL.pu (RunV.loadN hS rfl rfl (by repeat constructor) (by repeat constructor)) rfl ?_
  refine SatL.op rfl (OpW.enter rfl rfl rfl (rfl) (new_any p _ hp) ?_)
  rintro r2 w2 ⟨b, rfl, h⟩
  replace hS := (hf0 ▸ hS.call0 h)
  refine SatL.pu (RunV.move rfl) rfl ?_
  refine SatL.pu (RunV.extract rfl rfl) rfl ?_
  refine SatL.pu (RunV.extract rfl rfl) rfl ?_
  refine SatL.pu (RunV.assign rfl) rfl ?_
  refine SatL.pu (RunV.assign rfl) rfl ?_
  refine SatL.nil (SatE.thenC ?_)
  refine SatC.seq ?_
  refine SatC.seq ?_
  refine SatC.drawnT 5 hS (hS.sub (show [(b2, C 28 (plc p))].Sublist _ by simp)) (by kernel_rfl) ?_
  clear hS
  intro w3 hh hS hD
  refine SatD.take 0 rfl [] (by kernel_rfl) (fun _ _ _ h => h) rfl rfl hD (fun _ hw => RunV.loadN hw rfl rfl (by repeat constructor) (by repeat constructor)) ?_
  refine SatD.take 2 rfl [] (by kernel_rfl) (fun _ _ _ h => h) rfl rfl hD (fun _ hw => RunV.loadN hw rfl rfl (by repeat constructor) (by repeat constructor)) ?_
  refine SatD.eff 1 (by kernel_rfl) rfl rfl (OpW.enter rfl rfl rfl (rfl) (pright_any _ _) ?_)
  rintro r4 w4 ⟨rfl, h⟩
  replace hS := St.callN hS h
  refine keepS (hS.sb (by repeat constructor)) (fun hD => ?_)
  refine SatD.eff 3 (by kernel_rfl) rfl rfl (OpW.enter rfl rfl rfl (rfl) (pright_ref _ _) ?_)
  rintro r5 w5 ⟨rfl, h⟩
  replace hS := St.callN hS h
  refine keepS (hS.sb (by repeat constructor)) (fun hD => ?_)
  refine SatD.take 4 rfl [] (by kernel_rfl) (fun _ _ _ h => h) rfl rfl hD (fun _ hw => RunV.bneq rfl rfl rfl) ?_
  refine SatD.done 0 (by kernel_rfl) (SatE.thenC ?_)
  clear hD
  refine SatC.cond rfl (fun h1 => ?_) (fun h1 => ?_)
  · (try simp only [cx, ne_eq, stepA_self, not_true_eq_false, not_false_eq_true, Bool.true_eq_false] at h1)
    try (exfalso; (first | omega | exact h1 trivial | contradiction | exact h1 hp | exact absurd rfl h1); done)
    all_goals
    refine SatC.seq ?_
    refine SatC.weak (e' := [(4, _)]) (by repeat constructor) ?_
    refine SatC.region ?_
    refine SatL.pu (RunV.assign rfl) rfl ?_
    refine SatL.nil (SatE.thenC ?_)
    refine SatC.ret (SatE.then_ret ?_)
    refine SatE.ret1 rfl rfl ?_
    exact ⟨by first | rfl | simp, hS.sub (List.nil_sublist _)⟩
  · (try simp only [cx, ne_eq, stepA_self, not_true_eq_false, not_false_eq_true, Bool.true_eq_false] at h1)
    try (exfalso; (first | omega | exact h1 trivial | contradiction | exact h1 hp | exact absurd rfl h1); done)
    all_goals
    refine SatC.skip (SatE.thenC ?_)
    refine SatC.seq ?_
    refine SatC.seq ?_
    refine SatC.region ?_
    refine SatL.pu (RunV.loadN hS rfl rfl (by repeat constructor) (by repeat constructor)) rfl ?_
    refine SatL.op rfl (OpW.enter rfl rfl rfl (rfl) (pright_ref _ _) ?_)
    rintro r6 w6 ⟨rfl, h⟩
    replace hS := St.callN hS h
    refine SatL.pu (RunV.not rfl) rfl ?_
    refine SatL.nil (SatE.thenC ?_)
    refine SatC.weak (e' := [(1, _), (2, _), (4, _), (5, _), (6, _), (21, _)]) (by repeat constructor) ?_
    refine SatC.cond rfl (fun h2 => ?_) (fun h2 => ?_)
    · (try simp only [cx, ne_eq, stepA_self, not_true_eq_false, not_false_eq_true, Bool.true_eq_false] at h2)
      try (exfalso; (first | omega | exact h2 trivial | contradiction | exact h2 hp | exact absurd rfl h2); done)
      all_goals
      refine SatC.seq ?_
      refine SatC.region ?_
      refine SatL.pu (RunV.move rfl) rfl ?_
      refine SatL.pu (RunV.eql rfl rfl) rfl ?_
      refine SatL.pu (RunV.move rfl) rfl ?_
      refine SatL.guard rfl rfl rfl (fun h3 => ?_) (fun h3 => ?_)
      · (try simp only [cx, ne_eq, stepA_self, not_true_eq_false, not_false_eq_true, Bool.true_eq_false] at h3)
        try (exfalso; (first | omega | exact h3 trivial | contradiction | exact h3 hp | exact absurd rfl h3); done)
        all_goals
        refine SatL.pu (RunV.move rfl) rfl ?_
        refine SatL.guard_y rfl rfl ?_
        refine SatL.pu (RunV.eqlPtrNil rfl rfl rfl) rfl ?_
        refine SatL.pu (RunV.pick_t rfl rfl) rfl ?_
        refine SatL.pu (RunV.move rfl) rfl ?_
        refine SatL.guard rfl rfl rfl (fun h4 => ?_) (fun h4 => ?_)
        · (try simp only [cx, ne_eq, stepA_self, not_true_eq_false, not_false_eq_true, Bool.true_eq_false] at h4)
          try (exfalso; (first | omega | exact h4 trivial | contradiction | exact h4 hp | exact absurd rfl h4); done)
          all_goals
          refine SatL.op rfl (OpW.enter rfl rfl rfl (rfl) (works_any _) ?_)
          rintro r7 w7 ⟨rfl, h⟩
          replace hS := St.callN hS h
          refine SatL.pu (RunV.pick_t rfl rfl) rfl ?_
          refine SatL.pu (RunV.assign rfl) rfl ?_
          refine SatL.nil (SatE.thenC ?_)
          refine SatC.ret (SatE.then_ret ?_)
          refine SatE.ret1 rfl rfl ?_
          exact ⟨by first | rfl | simp, hS.sub (List.nil_sublist _)⟩
        · (try simp only [cx, ne_eq, stepA_self, not_true_eq_false, not_false_eq_true, Bool.true_eq_false] at h4)
          try (exfalso; (first | omega | exact h4 trivial | contradiction | exact h4 hp | exact absurd rfl h4); done)
          all_goals
          refine SatL.pu (RunV.pick_f rfl rfl) rfl ?_
          refine SatL.pu (RunV.assign rfl) rfl ?_
          refine SatL.nil (SatE.thenC ?_)
          refine SatC.ret (SatE.then_ret ?_)
          refine SatE.ret1 rfl rfl ?_
          exact ⟨by first | rfl | simp, hS.sub (List.nil_sublist _)⟩
      · (try simp only [cx, ne_eq, stepA_self, not_true_eq_false, not_false_eq_true, Bool.true_eq_false] at h3)
        try (exfalso; (first | omega | exact h3 trivial | contradiction | exact h3 hp | exact absurd rfl h3); done)
        all_goals
        refine SatL.guard_n rfl rfl rfl rfl ?_
        refine SatL.pu (RunV.pick_f rfl rfl) rfl ?_
        refine SatL.pu (RunV.move rfl) rfl ?_
        refine SatL.guard_n rfl rfl rfl rfl ?_
        refine SatL.pu (RunV.pick_f rfl rfl) rfl ?_
        refine SatL.pu (RunV.assign rfl) rfl ?_
        refine SatL.nil (SatE.thenC ?_)
        refine SatC.ret (SatE.then_ret ?_)
        refine SatE.ret1 rfl rfl ?_
        exact ⟨by first | rfl | simp, hS.sub (List.nil_sublist _)⟩
    · (try simp only [cx, ne_eq, stepA_self, not_true_eq_false, not_false_eq_true, Bool.true_eq_false] at h2)
      try (exfalso; (first | omega | exact h2 trivial | contradiction | exact h2 hp | exact absurd rfl h2); done)
      all_goals
      refine SatC.skip (SatE.thenC ?_)
      refine SatC.seq ?_
      refine SatC.region ?_
      refine SatL.pu (RunV.loadN hS rfl rfl (by repeat constructor) (by repeat constructor)) rfl ?_
      refine SatL.pu (RunV.build rfl (by simp [go_sem]; try rfl)) rfl ?_
      refine SatL.op rfl (OpW.box hS rfl rfl (by repeat constructor) ?_)
      clear hS
      intro b33 w7 _ hS
      refine SatL.pu (RunV.assign rfl) rfl ?_
      refine SatL.nil (SatE.thenC ?_)
      refine SatC.seq ?_
      refine SatC.seq ?_
      refine SatC.region ?_
      refine SatL.pu (RunV.assign rfl) rfl ?_
      refine SatL.nil (SatE.thenC ?_)
      refine SatC.block ?_
      refine SatC.loopK (G := Nat × Ck) (V := fun ⟨i, c⟩ => [(8, .int .i64 (i : Int))]) (Cn := [(1, _), (2, _), (5, _), (7, _), (4, _)]) (I := fun ⟨i, c⟩ w' => i ≤ ys.length ∧ i ≤ 100 ∧ c.p = p ∧ Bd i c ∧ St w [] [(b33, C 37 (rc c)), (b, C 49 (hc f c)), (b2, C 28 (plc p))] w') (μ := fun ⟨i, c⟩ => ys.length - i) (0, ⟨p, 2, 0, 0, 0, 0, false⟩) ?_ (by repeat constructor) ?_
      · exact ⟨Nat.zero_le _, by omega, rfl, by simp [Bd], hS⟩
      clear hS
      rintro ⟨i, c⟩ w8 ⟨hi, hi1, hcp, hb, hS⟩
      refine SatC.weak (e' := [(1, _), (2, _), (4, _), (5, _), (7, _), (8, _)]) (by repeat constructor) ?_
      refine SatC.seq ?_
      refine SatC.seq ?_
      refine SatC.region ?_
      refine SatL.pu (RunV.move rfl) rfl ?_
      refine SatL.pu (RunV.move rfl) rfl ?_
      first | refine SatL.pu (RunV.lenR (by assumption) rfl rfl) rfl ?_ | refine SatL.pu (RunV.lenS rfl rfl) rfl ?_
      refine SatL.pu (RunV.lss rfl rfl) rfl ?_
      refine SatL.pu (RunV.move rfl) rfl ?_
      refine SatL.guard rfl rfl rfl (fun h3 => ?_) (fun h3 => ?_)
      · (try simp only [cx, ne_eq, stepA_self, not_true_eq_false, not_false_eq_true, Bool.true_eq_false] at h3)
        try (exfalso; (first | omega | exact h3 trivial | contradiction | exact h3 hp | exact absurd rfl h3); done)
        all_goals
        refine SatL.pu (RunV.move rfl) rfl ?_
        refine SatL.guard_y rfl rfl ?_
        refine SatL.pu (RunV.lss rfl rfl) rfl ?_
        refine SatL.pu (RunV.pick_t rfl rfl) rfl ?_
        refine SatL.nil (SatE.thenC ?_)
        refine SatC.cond rfl (fun h4 => ?_) (fun h4 => ?_)
        · (try simp only [cx, ne_eq, stepA_self, not_true_eq_false, not_false_eq_true, Bool.true_eq_false] at h4)
          try (exfalso; (first | omega | exact h4 trivial | contradiction | exact h4 hp | exact absurd rfl h4); done)
          all_goals
          refine SatC.skip (SatE.thenC ?_)
          refine SatC.seq ?_
          refine SatC.block ?_
          refine SatC.seq ?_
          obtain ⟨y, hy⟩ := get_some ys i (by omega)
          refine SatC.drawnT 31 hS (hS.sub (List.nil_sublist _)) (by kernel_rfl) ?_
          clear hS
          intro w9 hh hS hD
          refine SatD.take 0 rfl [] (by kernel_rfl) (fun _ _ _ h => h) rfl rfl hD (fun _ hw => RunV.move rfl) ?_
          refine SatD.take 1 rfl [] (by kernel_rfl) (fun _ _ _ h => h) rfl rfl hD (fun _ hw => RunV.move rfl) ?_
          refine SatD.take 2 rfl [] (by kernel_rfl) (fun _ _ _ h => h) rfl rfl hD (fun _ hw => RunV.move rfl) ?_
          refine SatD.take 3 rfl [] (by kernel_rfl) (fun _ _ _ h => h) rfl rfl hD (fun _ hw => RunV.move rfl) ?_
          first | refine SatD.take 4 rfl [] (by kernel_rfl) (fun _ _ _ h => h) rfl rfl hD (fun _ hw => RunV.indexR (by assumption) rfl rfl rfl (by omega) (by omega) rfl) ?_ | refine SatD.take 4 rfl [] (by kernel_rfl) (fun _ _ _ h => h) rfl rfl hD (fun _ hw => RunV.indexS rfl rfl rfl (by omega) (by omega) rfl) ?_
          first | refine SatD.take 5 rfl [] (by kernel_rfl) (fun _ _ _ h => h) rfl rfl hD (fun _ hw => RunV.loadRNz (RdC.st (by assumption) hw List.not_mem_nil) rfl rfl (by first | assumption | exact map_get (by assumption))) ?_ | refine SatD.take 5 rfl [] (by kernel_rfl) (fun _ _ _ h => h) rfl rfl hD (fun _ hw => RunV.loadRNz (Sl.rd (by assumption) hw (by repeat constructor)) rfl rfl (by first | assumption | exact map_get (by assumption))) ?_
          refine SatD.eff 6 (by kernel_rfl) rfl rfl (OpW.enter rfl rfl rfl (rfl) (step_any (f := f) _ _ (by rw [← hf0]; exact fv_p hcp.symm) (hS.ownT (by repeat constructor)) (by rw [hcp]; exact hk) (hb.le (by omega)) (hb.le (by omega))) ?_)
          rintro r10 w10 ⟨rfl, h⟩
          replace hS := hS.callT (A := [(b, C 49 (hc f c)), (b33, C 37 (rc c))]) (by repeat constructor) h
          have hb2 := stepC_bd (k := y.1) (n := y.2) hb
          have hp2 := stepC_p c y.1 y.2
          rw [hcp] at hp2
          rw [stepA_self]
          generalize stepC c y.1 y.2 = c2 at *
          refine keepS (hS.sb (by repeat constructor)) (fun hD => ?_)
          refine SatD.take 7 rfl [] (by kernel_rfl) (fun _ _ _ h => h) rfl rfl hD (fun _ hw => RunV.not rfl) ?_
          refine SatD.take 8 rfl [] (by kernel_rfl) (fun _ _ _ h => h) rfl rfl hD (fun _ hw => RunV.move rfl) ?_
          refine SatD.ways 52 rfl (fun h5 => ?_) (fun h5 => ?_)
          · (try simp only [cx, ne_eq, stepA_self, not_true_eq_false, not_false_eq_true, Bool.true_eq_false] at h5)
            try (exfalso; (first | omega | exact h5 trivial | contradiction | exact h5 hp | exact absurd rfl h5); done)
            all_goals
            refine SatD.skip 9 rfl [] (by kernel_rfl) (fun _ _ _ h => h) rfl rfl hD ?_
            refine SatD.skip 10 rfl [] (by kernel_rfl) (fun _ _ _ h => h) rfl rfl hD ?_
            refine SatD.skip 11 rfl [] (by kernel_rfl) (fun _ _ _ h => h) rfl rfl hD ?_
            refine SatD.skip 12 rfl [] (by kernel_rfl) (fun _ _ _ h => h) rfl rfl hD ?_
            refine SatD.skip 13 rfl [] (by kernel_rfl) (fun _ _ _ h => h) rfl rfl hD ?_
            refine SatD.take 14 rfl [] (by kernel_rfl) (fun _ _ _ h => h) rfl rfl hD (fun _ hw => RunV.pick_t rfl rfl) ?_
            refine SatD.take 15 rfl [] (by kernel_rfl) (fun _ _ _ h => h) rfl rfl hD (fun _ hw => RunV.move rfl) ?_
            refine SatD.skip 16 rfl [] (by kernel_rfl) (fun _ _ _ h => h) rfl rfl hD ?_
            refine SatD.skip 17 rfl [] (by kernel_rfl) (fun _ _ _ h => h) rfl rfl hD ?_
            refine SatD.skip 18 rfl [] (by kernel_rfl) (fun _ _ _ h => h) rfl rfl hD ?_
            refine SatD.skip 19 rfl [] (by kernel_rfl) (fun _ _ _ h => h) rfl rfl hD ?_
            refine SatD.skip 20 rfl [] (by kernel_rfl) (fun _ _ _ h => h) rfl rfl hD ?_
            refine SatD.eff 21 (by kernel_rfl) rfl rfl (OpW.pure (RunV.load1 hS rfl rfl (by repeat constructor) rfl) rfl ?_)
            refine keepS (hS.sb (by repeat constructor)) (fun hD => ?_)
            refine SatD.skip 22 rfl [] (by kernel_rfl) (fun _ _ _ h => h) rfl rfl hD ?_
            refine SatD.take 23 rfl [] (by kernel_rfl) (fun _ _ _ h => h) rfl rfl hD (fun _ hw => RunV.pick_t rfl rfl) ?_
            refine SatD.take 24 rfl [] (by kernel_rfl) (fun _ _ _ h => h) rfl rfl hD (fun _ hw => RunV.move rfl) ?_
            refine SatD.skip 25 rfl [] (by kernel_rfl) (fun _ _ _ h => h) rfl rfl hD ?_
            refine SatD.skip 26 rfl [] (by kernel_rfl) (fun _ _ _ h => h) rfl rfl hD ?_
            refine SatD.skip 27 rfl [] (by kernel_rfl) (fun _ _ _ h => h) rfl rfl hD ?_
            refine SatD.skip 28 rfl [] (by kernel_rfl) (fun _ _ _ h => h) rfl rfl hD ?_
            refine SatD.skip 29 rfl [] (by kernel_rfl) (fun _ _ _ h => h) rfl rfl hD ?_
            refine SatD.take 30 rfl [] (by kernel_rfl) (fun _ _ _ h => h) rfl rfl hD (fun _ hw => RunV.pick_t rfl rfl) ?_
            refine SatD.done 0 (by kernel_rfl) (SatE.thenC ?_)
            clear hD
            refine SatC.weak (e' := [(1, _), (2, _), (4, _), (5, _), (7, _), (8, _), (74, _)]) (by repeat constructor) ?_
            refine SatC.cond_t rfl ?_
            refine SatC.seq ?_
            refine SatC.region ?_
            refine SatL.pu (RunV.assign rfl) rfl ?_
            refine SatL.nil (SatE.thenC ?_)
            refine SatC.ret (SatE.blk_ret (SatE.then_ret (SatE.then_ret (SatE.blk_ret (SatE.then_ret ?_)))))
            refine SatE.ret1 rfl rfl ?_
            exact ⟨by first | rfl | simp, hS.sub (List.nil_sublist _)⟩
          · (try simp only [cx, ne_eq, stepA_self, not_true_eq_false, not_false_eq_true, Bool.true_eq_false] at h5)
            try (exfalso; (first | omega | exact h5 trivial | contradiction | exact h5 hp | exact absurd rfl h5); done)
            all_goals
            refine SatD.take 9 rfl [] (by kernel_rfl) (fun _ _ _ h => h) rfl rfl hD (fun _ hw => RunV.move rfl) ?_
            refine SatD.take 11 rfl [] (by kernel_rfl) (fun _ _ _ h => h) rfl rfl hD (fun _ hw => RunV.move rfl) ?_
            refine SatD.eff 10 (by kernel_rfl) rfl rfl (OpW.enter rfl rfl rfl (rfl) (stat_any (c := c2) (hS.ownOf (by repeat constructor)) (by rw [hp2]; exact hk)) ?_)
            rintro r11 w11 ⟨rfl, h⟩
            replace hS := St.callN hS h
            refine keepS (hS.sb (by repeat constructor)) (fun hD => ?_)
            refine SatD.eff 12 (by kernel_rfl) rfl rfl (OpW.enter rfl rfl rfl (rfl) (stat_ref (c := c2) (hS.ownOf (by repeat constructor))) ?_)
            rintro r12 w12 ⟨rfl, h⟩
            replace hS := St.callN hS h
            refine keepS (hS.sb (by repeat constructor)) (fun hD => ?_)
            refine SatD.take 13 rfl [] (by kernel_rfl) (fun _ _ _ h => h) rfl rfl hD (fun _ hw => RunV.neq rfl rfl) ?_
            refine SatD.take 14 rfl [] (by kernel_rfl) (fun _ _ _ h => h) rfl rfl hD (fun _ hw => RunV.pick_f rfl rfl) ?_
            refine SatD.take 15 rfl [] (by kernel_rfl) (fun _ _ _ h => h) rfl rfl hD (fun _ hw => RunV.move rfl) ?_
            refine SatD.ways 59 rfl (fun h6 => ?_) (fun h6 => ?_)
            · (try simp only [cx, ne_eq, stepA_self, not_true_eq_false, not_false_eq_true, Bool.true_eq_false] at h6)
              try (exfalso; (first | omega | exact h6 trivial | contradiction | exact h6 hp | exact absurd rfl h6); done)
              all_goals
              refine SatD.skip 16 rfl [] (by kernel_rfl) (fun _ _ _ h => h) rfl rfl hD ?_
              refine SatD.skip 17 rfl [] (by kernel_rfl) (fun _ _ _ h => h) rfl rfl hD ?_
              refine SatD.skip 18 rfl [] (by kernel_rfl) (fun _ _ _ h => h) rfl rfl hD ?_
              refine SatD.skip 19 rfl [] (by kernel_rfl) (fun _ _ _ h => h) rfl rfl hD ?_
              refine SatD.skip 20 rfl [] (by kernel_rfl) (fun _ _ _ h => h) rfl rfl hD ?_
              refine SatD.eff 21 (by kernel_rfl) rfl rfl (OpW.pure (RunV.load1 hS rfl rfl (by repeat constructor) rfl) rfl ?_)
              refine keepS (hS.sb (by repeat constructor)) (fun hD => ?_)
              refine SatD.skip 22 rfl [] (by kernel_rfl) (fun _ _ _ h => h) rfl rfl hD ?_
              refine SatD.take 23 rfl [] (by kernel_rfl) (fun _ _ _ h => h) rfl rfl hD (fun _ hw => RunV.pick_t rfl rfl) ?_
              refine SatD.take 24 rfl [] (by kernel_rfl) (fun _ _ _ h => h) rfl rfl hD (fun _ hw => RunV.move rfl) ?_
              refine SatD.skip 25 rfl [] (by kernel_rfl) (fun _ _ _ h => h) rfl rfl hD ?_
              refine SatD.skip 26 rfl [] (by kernel_rfl) (fun _ _ _ h => h) rfl rfl hD ?_
              refine SatD.skip 27 rfl [] (by kernel_rfl) (fun _ _ _ h => h) rfl rfl hD ?_
              refine SatD.skip 28 rfl [] (by kernel_rfl) (fun _ _ _ h => h) rfl rfl hD ?_
              refine SatD.skip 29 rfl [] (by kernel_rfl) (fun _ _ _ h => h) rfl rfl hD ?_
              refine SatD.take 30 rfl [] (by kernel_rfl) (fun _ _ _ h => h) rfl rfl hD (fun _ hw => RunV.pick_t rfl rfl) ?_
              refine SatD.done 0 (by kernel_rfl) (SatE.thenC ?_)
              clear hD
              refine SatC.weak (e' := [(1, _), (2, _), (4, _), (5, _), (7, _), (8, _), (74, _)]) (by repeat constructor) ?_
              refine SatC.cond_t rfl ?_
              refine SatC.seq ?_
              refine SatC.region ?_
              refine SatL.pu (RunV.assign rfl) rfl ?_
              refine SatL.nil (SatE.thenC ?_)
              refine SatC.ret (SatE.blk_ret (SatE.then_ret (SatE.then_ret (SatE.blk_ret (SatE.then_ret ?_)))))
              refine SatE.ret1 rfl rfl ?_
              exact ⟨by first | rfl | simp, hS.sub (List.nil_sublist _)⟩
            · (try simp only [cx, ne_eq, stepA_self, not_true_eq_false, not_false_eq_true, Bool.true_eq_false] at h6)
              try (exfalso; (first | omega | exact h6 trivial | contradiction | exact h6 hp | exact absurd rfl h6); done)
              all_goals
              refine SatD.take 16 rfl [] (by kernel_rfl) (fun _ _ _ h => h) rfl rfl hD (fun _ hw => RunV.move rfl) ?_
              refine SatD.take 18 rfl [] (by kernel_rfl) (fun _ _ _ h => h) rfl rfl hD (fun _ hw => RunV.move rfl) ?_
              first | refine SatD.take 19 rfl [] (by kernel_rfl) (fun _ _ _ h => h) rfl rfl hD (fun _ hw => RunV.nil_ptr rfl) ?_ | refine SatD.take 19 rfl [] (by kernel_rfl) (fun _ _ _ h => h) rfl rfl hD (fun _ hw => RunV.nil_func rfl) ?_ | refine SatD.take 19 rfl [] (by kernel_rfl) (fun _ _ _ h => h) rfl rfl hD (fun _ hw => RunV.nil_yield rfl) ?_
              first | refine SatD.take 20 rfl [] (by kernel_rfl) (fun _ _ _ h => h) rfl rfl hD (fun _ hw => RunV.fieldAddrL rfl rfl rfl) ?_ | refine SatD.take 20 rfl [] (by kernel_rfl) (fun _ _ _ h => h) rfl rfl hD (fun _ hw => RunV.fieldAddr rfl rfl rfl) ?_
              refine SatD.effs [17, 21] (by kernel_rfl) ⟨⟨_, rfl, rfl, OpW.enter rfl rfl rfl (rfl) (long_any (c := c2) (hS.ownOf (by repeat constructor)) (by rw [hp2]; exact hk)) ?_⟩, ⟨_, rfl, rfl, OpW.pure (RunV.load1 hS rfl rfl (by repeat constructor) rfl) rfl ?_⟩, trivial⟩
              · skip
                rintro r13 w13 ⟨rfl, h⟩
                replace hS := St.callN hS h
                refine keepS (hS.sb (by repeat constructor)) (fun hD => ?_)
                refine SatD.eff 21 (by kernel_rfl) rfl rfl (OpW.pure (RunV.load1 hS rfl rfl (by repeat constructor) rfl) rfl ?_)
                refine keepS (hS.sb (by repeat constructor)) (fun hD => ?_)
                refine SatD.take 22 rfl [] (by kernel_rfl) (fun _ _ _ h => h) rfl rfl hD (fun _ hw => RunV.neq rfl rfl) ?_
                refine SatD.take 23 rfl [] (by kernel_rfl) (fun _ _ _ h => h) rfl rfl hD (fun _ hw => RunV.pick_f rfl rfl) ?_
                refine SatD.take 24 rfl [] (by kernel_rfl) (fun _ _ _ h => h) rfl rfl hD (fun _ hw => RunV.move rfl) ?_
                refine SatD.ways 68 rfl (fun h7 => ?_) (fun h7 => ?_)
                · (try simp only [cx, ne_eq, stepA_self, not_true_eq_false, not_false_eq_true, Bool.true_eq_false] at h7)
                  try (exfalso; (first | omega | exact h7 trivial | contradiction | exact h7 hp | exact absurd rfl h7); done)
                  all_goals
                  refine SatD.skip 25 rfl [] (by kernel_rfl) (fun _ _ _ h => h) rfl rfl hD ?_
                  refine SatD.skip 26 rfl [] (by kernel_rfl) (fun _ _ _ h => h) rfl rfl hD ?_
                  refine SatD.skip 27 rfl [] (by kernel_rfl) (fun _ _ _ h => h) rfl rfl hD ?_
                  refine SatD.skip 28 rfl [] (by kernel_rfl) (fun _ _ _ h => h) rfl rfl hD ?_
                  refine SatD.skip 29 rfl [] (by kernel_rfl) (fun _ _ _ h => h) rfl rfl hD ?_
                  refine SatD.take 30 rfl [] (by kernel_rfl) (fun _ _ _ h => h) rfl rfl hD (fun _ hw => RunV.pick_t rfl rfl) ?_
                  refine SatD.done 0 (by kernel_rfl) (SatE.thenC ?_)
                  clear hD
                  refine SatC.weak (e' := [(1, _), (2, _), (4, _), (5, _), (7, _), (8, _), (74, _)]) (by repeat constructor) ?_
                  refine SatC.cond_t rfl ?_
                  refine SatC.seq ?_
                  refine SatC.region ?_
                  refine SatL.pu (RunV.assign rfl) rfl ?_
                  refine SatL.nil (SatE.thenC ?_)
                  refine SatC.ret (SatE.blk_ret (SatE.then_ret (SatE.then_ret (SatE.blk_ret (SatE.then_ret ?_)))))
                  refine SatE.ret1 rfl rfl ?_
                  exact ⟨by first | rfl | simp, hS.sub (List.nil_sublist _)⟩
                · (try simp only [cx, ne_eq, stepA_self, not_true_eq_false, not_false_eq_true, Bool.true_eq_false] at h7)
                  try (exfalso; (first | omega | exact h7 trivial | contradiction | exact h7 hp | exact absurd rfl h7); done)
                  all_goals
                  refine SatD.take 25 rfl [] (by kernel_rfl) (fun _ _ _ h => h) rfl rfl hD (fun _ hw => RunV.move rfl) ?_
                  refine SatD.take 27 rfl [] (by kernel_rfl) (fun _ _ _ h => h) rfl rfl hD (fun _ hw => RunV.move rfl) ?_
                  refine SatD.eff 26 (by kernel_rfl) rfl rfl (OpW.enter rfl rfl rfl (rfl) (over_any (c := c2) (hS.ownOf (by repeat constructor)) (by rw [hp2]; exact hk)) ?_)
                  rintro r15 w15 ⟨rfl, h⟩
                  replace hS := St.callN hS h
                  refine keepS (hS.sb (by repeat constructor)) (fun hD => ?_)
                  refine SatD.eff 28 (by kernel_rfl) rfl rfl (OpW.enter rfl rfl rfl (rfl) (over_ref (c := c2) (hS.ownOf (by repeat constructor))) ?_)
                  rintro r16 w16 ⟨rfl, h⟩
                  replace hS := St.callN hS h
                  refine keepS (hS.sb (by repeat constructor)) (fun hD => ?_)
                  refine SatD.take 29 rfl [] (by kernel_rfl) (fun _ _ _ h => h) rfl rfl hD (fun _ hw => RunV.bneq rfl rfl rfl) ?_
                  refine SatD.take 30 rfl [] (by kernel_rfl) (fun _ _ _ h => h) rfl rfl hD (fun _ hw => RunV.pick_f rfl rfl) ?_
                  refine SatD.done 0 (by kernel_rfl) (SatE.thenC ?_)
                  clear hD
                  refine SatC.weak (e' := [(1, _), (2, _), (4, _), (5, _), (7, _), (8, _), (74, _)]) (by repeat constructor) ?_
                  refine SatC.cond rfl (fun h8 => ?_) (fun h8 => ?_)
                  · (try simp only [cx, ne_eq, stepA_self, not_true_eq_false, not_false_eq_true, Bool.true_eq_false] at h8)
                    try (exfalso; (first | omega | exact h8 trivial | contradiction | exact h8 hp | exact absurd rfl h8); done)
                    all_goals
                    refine SatC.seq ?_
                    refine SatC.region ?_
                    refine SatL.pu (RunV.assign rfl) rfl ?_
                    refine SatL.nil (SatE.thenC ?_)
                    refine SatC.ret (SatE.blk_ret (SatE.then_ret (SatE.then_ret (SatE.blk_ret (SatE.then_ret ?_)))))
                    refine SatE.ret1 rfl rfl ?_
                    exact ⟨by first | rfl | simp, hS.sub (List.nil_sublist _)⟩
                  · (try simp only [cx, ne_eq, stepA_self, not_true_eq_false, not_false_eq_true, Bool.true_eq_false] at h8)
                    try (exfalso; (first | omega | exact h8 trivial | contradiction | exact h8 hp | exact absurd rfl h8); done)
                    all_goals
                    refine SatC.skip (SatE.blk_normal (SatE.thenC ?_))
                    refine SatC.region ?_
                    refine SatL.pu (RunV.move rfl) rfl ?_
                    refine SatL.pu (RunV.add rfl rfl (by first | exact wrapI64 (by omega) | rfl)) rfl ?_
                    refine SatL.pu (RunV.assign rfl) rfl ?_
                    refine SatL.nil ?_
                    refine SatE.again ((i + 1, c2)) ?_ (by first | omega | (dsimp only; omega)) (by repeat constructor)
                    exact ⟨by omega, by omega, hp2, hb2, hS.sel (by repeat constructor)⟩
              · skip
                refine keepS (hS.sb (by repeat constructor)) (fun hD => ?_)
                refine SatD.eff 17 (by kernel_rfl) rfl rfl (OpW.enter rfl rfl rfl (rfl) (long_any (c := c2) (hS.ownOf (by repeat constructor)) (by rw [hp2]; exact hk)) ?_)
                rintro r14 w14 ⟨rfl, h⟩
                replace hS := St.callN hS h
                refine keepS (hS.sb (by repeat constructor)) (fun hD => ?_)
                refine SatD.take 22 rfl [] (by kernel_rfl) (fun _ _ _ h => h) rfl rfl hD (fun _ hw => RunV.neq rfl rfl) ?_
                refine SatD.take 23 rfl [] (by kernel_rfl) (fun _ _ _ h => h) rfl rfl hD (fun _ hw => RunV.pick_f rfl rfl) ?_
                refine SatD.take 24 rfl [] (by kernel_rfl) (fun _ _ _ h => h) rfl rfl hD (fun _ hw => RunV.move rfl) ?_
                refine SatD.ways 68 rfl (fun h7 => ?_) (fun h7 => ?_)
                · (try simp only [cx, ne_eq, stepA_self, not_true_eq_false, not_false_eq_true, Bool.true_eq_false] at h7)
                  try (exfalso; (first | omega | exact h7 trivial | contradiction | exact h7 hp | exact absurd rfl h7); done)
                  all_goals
                  refine SatD.skip 25 rfl [] (by kernel_rfl) (fun _ _ _ h => h) rfl rfl hD ?_
                  refine SatD.skip 26 rfl [] (by kernel_rfl) (fun _ _ _ h => h) rfl rfl hD ?_
                  refine SatD.skip 27 rfl [] (by kernel_rfl) (fun _ _ _ h => h) rfl rfl hD ?_
                  refine SatD.skip 28 rfl [] (by kernel_rfl) (fun _ _ _ h => h) rfl rfl hD ?_
                  refine SatD.skip 29 rfl [] (by kernel_rfl) (fun _ _ _ h => h) rfl rfl hD ?_
                  refine SatD.take 30 rfl [] (by kernel_rfl) (fun _ _ _ h => h) rfl rfl hD (fun _ hw => RunV.pick_t rfl rfl) ?_
                  refine SatD.done 0 (by kernel_rfl) (SatE.thenC ?_)
                  clear hD
                  refine SatC.weak (e' := [(1, _), (2, _), (4, _), (5, _), (7, _), (8, _), (74, _)]) (by repeat constructor) ?_
                  refine SatC.cond_t rfl ?_
                  refine SatC.seq ?_
                  refine SatC.region ?_
                  refine SatL.pu (RunV.assign rfl) rfl ?_
                  refine SatL.nil (SatE.thenC ?_)
                  refine SatC.ret (SatE.blk_ret (SatE.then_ret (SatE.then_ret (SatE.blk_ret (SatE.then_ret ?_)))))
                  refine SatE.ret1 rfl rfl ?_
                  exact ⟨by first | rfl | simp, hS.sub (List.nil_sublist _)⟩
                · (try simp only [cx, ne_eq, stepA_self, not_true_eq_false, not_false_eq_true, Bool.true_eq_false] at h7)
                  try (exfalso; (first | omega | exact h7 trivial | contradiction | exact h7 hp | exact absurd rfl h7); done)
                  all_goals
                  refine SatD.take 25 rfl [] (by kernel_rfl) (fun _ _ _ h => h) rfl rfl hD (fun _ hw => RunV.move rfl) ?_
                  refine SatD.take 27 rfl [] (by kernel_rfl) (fun _ _ _ h => h) rfl rfl hD (fun _ hw => RunV.move rfl) ?_
                  refine SatD.eff 26 (by kernel_rfl) rfl rfl (OpW.enter rfl rfl rfl (rfl) (over_any (c := c2) (hS.ownOf (by repeat constructor)) (by rw [hp2]; exact hk)) ?_)
                  rintro r15 w15 ⟨rfl, h⟩
                  replace hS := St.callN hS h
                  refine keepS (hS.sb (by repeat constructor)) (fun hD => ?_)
                  refine SatD.eff 28 (by kernel_rfl) rfl rfl (OpW.enter rfl rfl rfl (rfl) (over_ref (c := c2) (hS.ownOf (by repeat constructor))) ?_)
                  rintro r16 w16 ⟨rfl, h⟩
                  replace hS := St.callN hS h
                  refine keepS (hS.sb (by repeat constructor)) (fun hD => ?_)
                  refine SatD.take 29 rfl [] (by kernel_rfl) (fun _ _ _ h => h) rfl rfl hD (fun _ hw => RunV.bneq rfl rfl rfl) ?_
                  refine SatD.take 30 rfl [] (by kernel_rfl) (fun _ _ _ h => h) rfl rfl hD (fun _ hw => RunV.pick_f rfl rfl) ?_
                  refine SatD.done 0 (by kernel_rfl) (SatE.thenC ?_)
                  clear hD
                  refine SatC.weak (e' := [(1, _), (2, _), (4, _), (5, _), (7, _), (8, _), (74, _)]) (by repeat constructor) ?_
                  refine SatC.cond rfl (fun h8 => ?_) (fun h8 => ?_)
                  · (try simp only [cx, ne_eq, stepA_self, not_true_eq_false, not_false_eq_true, Bool.true_eq_false] at h8)
                    try (exfalso; (first | omega | exact h8 trivial | contradiction | exact h8 hp | exact absurd rfl h8); done)
                    all_goals
                    refine SatC.seq ?_
                    refine SatC.region ?_
                    refine SatL.pu (RunV.assign rfl) rfl ?_
                    refine SatL.nil (SatE.thenC ?_)
                    refine SatC.ret (SatE.blk_ret (SatE.then_ret (SatE.then_ret (SatE.blk_ret (SatE.then_ret ?_)))))
                    refine SatE.ret1 rfl rfl ?_
                    exact ⟨by first | rfl | simp, hS.sub (List.nil_sublist _)⟩
                  · (try simp only [cx, ne_eq, stepA_self, not_true_eq_false, not_false_eq_true, Bool.true_eq_false] at h8)
                    try (exfalso; (first | omega | exact h8 trivial | contradiction | exact h8 hp | exact absurd rfl h8); done)
                    all_goals
                    refine SatC.skip (SatE.blk_normal (SatE.thenC ?_))
                    refine SatC.region ?_
                    refine SatL.pu (RunV.move rfl) rfl ?_
                    refine SatL.pu (RunV.add rfl rfl (by first | exact wrapI64 (by omega) | rfl)) rfl ?_
                    refine SatL.pu (RunV.assign rfl) rfl ?_
                    refine SatL.nil ?_
                    refine SatE.again ((i + 1, c2)) ?_ (by first | omega | (dsimp only; omega)) (by repeat constructor)
                    exact ⟨by omega, by omega, hp2, hb2, hS.sel (by repeat constructor)⟩
        · (try simp only [cx, ne_eq, stepA_self, not_true_eq_false, not_false_eq_true, Bool.true_eq_false] at h4)
          try (exfalso; (first | omega | exact h4 trivial | contradiction | exact h4 hp | exact absurd rfl h4); done)
          all_goals
          refine SatC.exit (SatE.then_exit (SatE.then_exit (SatE.blk_exit (SatE.thenC ?_))))
          refine SatC.seq ?_
          refine SatC.drawnT 15 hS (hS.sel (R := [(b2, C 28 (plc p))]) (by repeat constructor)) (by kernel_rfl) ?_
          clear hS
          intro w9 hh hS hD
          refine SatD.take 0 rfl [] (by kernel_rfl) (fun _ _ _ h => h) rfl rfl hD (fun _ hw => RunV.move rfl) ?_
          refine SatD.take 2 rfl [] (by kernel_rfl) (fun _ _ _ h => h) rfl rfl hD (fun _ hw => RunV.loadN hw rfl rfl (by repeat constructor) (by repeat constructor)) ?_
          refine SatD.eff 1 (by kernel_rfl) rfl rfl (OpW.enter rfl rfl rfl (rfl) (plan_any (c := c) (hS.ownOf (by repeat constructor)) (by rw [hcp]; exact hk)) ?_)
          rintro r10 w10 ⟨rfl, h⟩
          replace hS := St.callN hS h
          rw [hcp]
          refine keepS (hS.sb (by repeat constructor)) (fun hD => ?_)
          refine SatD.take 3 rfl [] (by kernel_rfl) (fun _ _ _ h => h) rfl rfl hD (fun _ hw => RunV.bin rfl rfl (guard28 _ _ _ _ _ _) (eql28 _ _)) ?_
          refine SatD.take 4 rfl [] (by kernel_rfl) (fun _ _ _ h => h) rfl rfl hD (fun _ hw => RunV.move rfl) ?_
          refine SatD.ways 79 rfl (fun h5 => ?_) (fun h5 => ?_)
          · (try simp only [cx, ne_eq, stepA_self, not_true_eq_false, not_false_eq_true, Bool.true_eq_false] at h5)
            try (exfalso; (first | omega | exact h5 trivial | contradiction | exact h5 hp | exact absurd rfl h5); done)
            all_goals
            refine SatD.take 5 rfl [] (by kernel_rfl) (fun _ _ _ h => h) rfl rfl hD (fun _ hw => RunV.move rfl) ?_
            refine SatD.take 7 rfl [] (by kernel_rfl) (fun _ _ _ h => h) rfl rfl hD (fun _ hw => RunV.move rfl) ?_
            refine SatD.eff 6 (by kernel_rfl) rfl rfl (OpW.enter rfl rfl rfl (rfl) (stat_any (c := c) (hS.ownOf (by repeat constructor)) (by rw [hcp]; exact hk)) ?_)
            rintro r11 w11 ⟨rfl, h⟩
            replace hS := St.callN hS h
            refine keepS (hS.sb (by repeat constructor)) (fun hD => ?_)
            refine SatD.eff 8 (by kernel_rfl) rfl rfl (OpW.enter rfl rfl rfl (rfl) (stat_ref (c := c) (hS.ownOf (by repeat constructor))) ?_)
            rintro r12 w12 ⟨rfl, h⟩
            replace hS := St.callN hS h
            refine keepS (hS.sb (by repeat constructor)) (fun hD => ?_)
            refine SatD.take 9 rfl [] (by kernel_rfl) (fun _ _ _ h => h) rfl rfl hD (fun _ hw => RunV.eql rfl rfl) ?_
            refine SatD.take 10 rfl [] (by kernel_rfl) (fun _ _ _ h => h) rfl rfl hD (fun _ hw => RunV.pick_t rfl rfl) ?_
            refine SatD.take 11 rfl [] (by kernel_rfl) (fun _ _ _ h => h) rfl rfl hD (fun _ hw => RunV.move rfl) ?_
            refine SatD.ways 86 rfl (fun h6 => ?_) (fun h6 => ?_)
            · (try simp only [cx, ne_eq, stepA_self, not_true_eq_false, not_false_eq_true, Bool.true_eq_false] at h6)
              try (exfalso; (first | omega | exact h6 trivial | contradiction | exact h6 hp | exact absurd rfl h6); done)
              all_goals
              refine SatD.eff 12 (by kernel_rfl) rfl rfl (OpW.enter rfl rfl rfl (rfl) (works_any _) ?_)
              rintro r13 w13 ⟨rfl, h⟩
              replace hS := St.callN hS h
              refine keepS (hS.sb (by repeat constructor)) (fun hD => ?_)
              refine SatD.take 13 rfl [] (by kernel_rfl) (fun _ _ _ h => h) rfl rfl hD (fun _ hw => RunV.pick_t rfl rfl) ?_
              refine SatD.take 14 rfl [] (by kernel_rfl) (fun _ _ _ h => h) rfl rfl hD (fun _ hw => RunV.assign rfl) ?_
              refine SatD.done 0 (by kernel_rfl) (SatE.thenC ?_)
              clear hD
              refine SatC.ret ?_
              refine SatE.ret1 rfl rfl ?_
              exact ⟨by first | rfl | simp, hS.sub (List.nil_sublist _)⟩
            · (try simp only [cx, ne_eq, stepA_self, not_true_eq_false, not_false_eq_true, Bool.true_eq_false] at h6)
              try (exfalso; (first | omega | exact h6 trivial | contradiction | exact h6 hp | exact absurd rfl h6); done)
              all_goals
              refine SatD.skip 12 rfl [] (by kernel_rfl) (fun _ _ _ h => h) rfl rfl hD ?_
              refine SatD.take 13 rfl [] (by kernel_rfl) (fun _ _ _ h => h) rfl rfl hD (fun _ hw => RunV.pick_f rfl rfl) ?_
              refine SatD.take 14 rfl [] (by kernel_rfl) (fun _ _ _ h => h) rfl rfl hD (fun _ hw => RunV.assign rfl) ?_
              refine SatD.done 0 (by kernel_rfl) (SatE.thenC ?_)
              clear hD
              refine SatC.ret ?_
              refine SatE.ret1 rfl rfl ?_
              exact ⟨by first | rfl | simp, hS.sub (List.nil_sublist _)⟩
          · (try simp only [cx, ne_eq, stepA_self, not_true_eq_false, not_false_eq_true, Bool.true_eq_false] at h5)
            try (exfalso; (first | omega | exact h5 trivial | contradiction | exact h5 hp | exact absurd rfl h5); done)
            all_goals
            refine SatD.skip 5 rfl [] (by kernel_rfl) (fun _ _ _ h => h) rfl rfl hD ?_
            refine SatD.skip 6 rfl [] (by kernel_rfl) (fun _ _ _ h => h) rfl rfl hD ?_
            refine SatD.skip 7 rfl [] (by kernel_rfl) (fun _ _ _ h => h) rfl rfl hD ?_
            refine SatD.skip 8 rfl [] (by kernel_rfl) (fun _ _ _ h => h) rfl rfl hD ?_
            refine SatD.skip 9 rfl [] (by kernel_rfl) (fun _ _ _ h => h) rfl rfl hD ?_
            refine SatD.take 10 rfl [] (by kernel_rfl) (fun _ _ _ h => h) rfl rfl hD (fun _ hw => RunV.pick_f rfl rfl) ?_
            refine SatD.take 11 rfl [] (by kernel_rfl) (fun _ _ _ h => h) rfl rfl hD (fun _ hw => RunV.move rfl) ?_
            refine SatD.skip 12 rfl [] (by kernel_rfl) (fun _ _ _ h => h) rfl rfl hD ?_
            refine SatD.take 13 rfl [] (by kernel_rfl) (fun _ _ _ h => h) rfl rfl hD (fun _ hw => RunV.pick_f rfl rfl) ?_
            refine SatD.take 14 rfl [] (by kernel_rfl) (fun _ _ _ h => h) rfl rfl hD (fun _ hw => RunV.assign rfl) ?_
            refine SatD.done 0 (by kernel_rfl) (SatE.thenC ?_)
            clear hD
            refine SatC.ret ?_
            refine SatE.ret1 rfl rfl ?_
            exact ⟨by first | rfl | simp, hS.sub (List.nil_sublist _)⟩
      · (try simp only [cx, ne_eq, stepA_self, not_true_eq_false, not_false_eq_true, Bool.true_eq_false] at h3)
        try (exfalso; (first | omega | exact h3 trivial | contradiction | exact h3 hp | exact absurd rfl h3); done)
        all_goals
        refine SatL.guard_n rfl rfl rfl rfl ?_
        refine SatL.pu (RunV.pick_f rfl rfl) rfl ?_
        refine SatL.nil (SatE.thenC ?_)
        refine SatC.cond_f rfl ?_
        refine SatC.exit (SatE.then_exit (SatE.then_exit (SatE.blk_exit (SatE.thenC ?_))))
        refine SatC.seq ?_
        refine SatC.drawnT 15 hS (hS.sel (R := [(b2, C 28 (plc p))]) (by repeat constructor)) (by kernel_rfl) ?_
        clear hS
        intro w9 hh hS hD
        refine SatD.take 0 rfl [] (by kernel_rfl) (fun _ _ _ h => h) rfl rfl hD (fun _ hw => RunV.move rfl) ?_
        refine SatD.take 2 rfl [] (by kernel_rfl) (fun _ _ _ h => h) rfl rfl hD (fun _ hw => RunV.loadN hw rfl rfl (by repeat constructor) (by repeat constructor)) ?_
        refine SatD.eff 1 (by kernel_rfl) rfl rfl (OpW.enter rfl rfl rfl (rfl) (plan_any (c := c) (hS.ownOf (by repeat constructor)) (by rw [hcp]; exact hk)) ?_)
        rintro r10 w10 ⟨rfl, h⟩
        replace hS := St.callN hS h
        rw [hcp]
        refine keepS (hS.sb (by repeat constructor)) (fun hD => ?_)
        refine SatD.take 3 rfl [] (by kernel_rfl) (fun _ _ _ h => h) rfl rfl hD (fun _ hw => RunV.bin rfl rfl (guard28 _ _ _ _ _ _) (eql28 _ _)) ?_
        refine SatD.take 4 rfl [] (by kernel_rfl) (fun _ _ _ h => h) rfl rfl hD (fun _ hw => RunV.move rfl) ?_
        refine SatD.ways 79 rfl (fun h4 => ?_) (fun h4 => ?_)
        · (try simp only [cx, ne_eq, stepA_self, not_true_eq_false, not_false_eq_true, Bool.true_eq_false] at h4)
          try (exfalso; (first | omega | exact h4 trivial | contradiction | exact h4 hp | exact absurd rfl h4); done)
          all_goals
          refine SatD.take 5 rfl [] (by kernel_rfl) (fun _ _ _ h => h) rfl rfl hD (fun _ hw => RunV.move rfl) ?_
          refine SatD.take 7 rfl [] (by kernel_rfl) (fun _ _ _ h => h) rfl rfl hD (fun _ hw => RunV.move rfl) ?_
          refine SatD.eff 6 (by kernel_rfl) rfl rfl (OpW.enter rfl rfl rfl (rfl) (stat_any (c := c) (hS.ownOf (by repeat constructor)) (by rw [hcp]; exact hk)) ?_)
          rintro r11 w11 ⟨rfl, h⟩
          replace hS := St.callN hS h
          refine keepS (hS.sb (by repeat constructor)) (fun hD => ?_)
          refine SatD.eff 8 (by kernel_rfl) rfl rfl (OpW.enter rfl rfl rfl (rfl) (stat_ref (c := c) (hS.ownOf (by repeat constructor))) ?_)
          rintro r12 w12 ⟨rfl, h⟩
          replace hS := St.callN hS h
          refine keepS (hS.sb (by repeat constructor)) (fun hD => ?_)
          refine SatD.take 9 rfl [] (by kernel_rfl) (fun _ _ _ h => h) rfl rfl hD (fun _ hw => RunV.eql rfl rfl) ?_
          refine SatD.take 10 rfl [] (by kernel_rfl) (fun _ _ _ h => h) rfl rfl hD (fun _ hw => RunV.pick_t rfl rfl) ?_
          refine SatD.take 11 rfl [] (by kernel_rfl) (fun _ _ _ h => h) rfl rfl hD (fun _ hw => RunV.move rfl) ?_
          refine SatD.ways 86 rfl (fun h5 => ?_) (fun h5 => ?_)
          · (try simp only [cx, ne_eq, stepA_self, not_true_eq_false, not_false_eq_true, Bool.true_eq_false] at h5)
            try (exfalso; (first | omega | exact h5 trivial | contradiction | exact h5 hp | exact absurd rfl h5); done)
            all_goals
            refine SatD.eff 12 (by kernel_rfl) rfl rfl (OpW.enter rfl rfl rfl (rfl) (works_any _) ?_)
            rintro r13 w13 ⟨rfl, h⟩
            replace hS := St.callN hS h
            refine keepS (hS.sb (by repeat constructor)) (fun hD => ?_)
            refine SatD.take 13 rfl [] (by kernel_rfl) (fun _ _ _ h => h) rfl rfl hD (fun _ hw => RunV.pick_t rfl rfl) ?_
            refine SatD.take 14 rfl [] (by kernel_rfl) (fun _ _ _ h => h) rfl rfl hD (fun _ hw => RunV.assign rfl) ?_
            refine SatD.done 0 (by kernel_rfl) (SatE.thenC ?_)
            clear hD
            refine SatC.ret ?_
            refine SatE.ret1 rfl rfl ?_
            exact ⟨by first | rfl | simp, hS.sub (List.nil_sublist _)⟩
          · (try simp only [cx, ne_eq, stepA_self, not_true_eq_false, not_false_eq_true, Bool.true_eq_false] at h5)
            try (exfalso; (first | omega | exact h5 trivial | contradiction | exact h5 hp | exact absurd rfl h5); done)
            all_goals
            refine SatD.skip 12 rfl [] (by kernel_rfl) (fun _ _ _ h => h) rfl rfl hD ?_
            refine SatD.take 13 rfl [] (by kernel_rfl) (fun _ _ _ h => h) rfl rfl hD (fun _ hw => RunV.pick_f rfl rfl) ?_
            refine SatD.take 14 rfl [] (by kernel_rfl) (fun _ _ _ h => h) rfl rfl hD (fun _ hw => RunV.assign rfl) ?_
            refine SatD.done 0 (by kernel_rfl) (SatE.thenC ?_)
            clear hD
            refine SatC.ret ?_
            refine SatE.ret1 rfl rfl ?_
            exact ⟨by first | rfl | simp, hS.sub (List.nil_sublist _)⟩
        · (try simp only [cx, ne_eq, stepA_self, not_true_eq_false, not_false_eq_true, Bool.true_eq_false] at h4)
          try (exfalso; (first | omega | exact h4 trivial | contradiction | exact h4 hp | exact absurd rfl h4); done)
          all_goals
          refine SatD.skip 5 rfl [] (by kernel_rfl) (fun _ _ _ h => h) rfl rfl hD ?_
          refine SatD.skip 6 rfl [] (by kernel_rfl) (fun _ _ _ h => h) rfl rfl hD ?_
          refine SatD.skip 7 rfl [] (by kernel_rfl) (fun _ _ _ h => h) rfl rfl hD ?_
          refine SatD.skip 8 rfl [] (by kernel_rfl) (fun _ _ _ h => h) rfl rfl hD ?_
          refine SatD.skip 9 rfl [] (by kernel_rfl) (fun _ _ _ h => h) rfl rfl hD ?_
          refine SatD.take 10 rfl [] (by kernel_rfl) (fun _ _ _ h => h) rfl rfl hD (fun _ hw => RunV.pick_f rfl rfl) ?_
          refine SatD.take 11 rfl [] (by kernel_rfl) (fun _ _ _ h => h) rfl rfl hD (fun _ hw => RunV.move rfl) ?_
          refine SatD.skip 12 rfl [] (by kernel_rfl) (fun _ _ _ h => h) rfl rfl hD ?_
          refine SatD.take 13 rfl [] (by kernel_rfl) (fun _ _ _ h => h) rfl rfl hD (fun _ hw => RunV.pick_f rfl rfl) ?_
          refine SatD.take 14 rfl [] (by kernel_rfl) (fun _ _ _ h => h) rfl rfl hD (fun _ hw => RunV.assign rfl) ?_
          refine SatD.done 0 (by kernel_rfl) (SatE.thenC ?_)
          clear hD
          refine SatC.ret ?_
          refine SatE.ret1 rfl rfl ?_
          exact ⟨by first | rfl | simp, hS.sub (List.nil_sublist _)⟩
theorem healthPlays_lifted (os : Os) (started : os.Started) (H : Type) (enc : TypeId × Value → H) :
    ReturnsInHanded {} Try.checked os 6 .any (Rows.healthPlaysSpec.pre6 enc Try.prog Try.f6 Rows.healthPlaysRow.domain false) (Rows.healthPlaysSpec.post enc Try.prog Try.f6 false true false false) := by
  refine law_returns (C := Try.checked) (b := 4) (by kernel_rfl) started (by kernel_rfl) Try.func6
    (ChangeSpec.witness6 (enc := enc) (C := Try.checked) false ⟨#[], #[.agg #[.int .i64 0, .int .i64 0, .int .i64 0, .int .i64 0, .string ⟨#[]⟩, .int .i64 0], .slice none 0 0], []⟩ 8 (by kernel_rfl) (by kernel_rfl) (by kernel_rfl) (by kernel_rfl))
    rfl rfl (by kernel_rfl) (by kernel_rfl) (by kernel_rfl) (fun ds h => ?_) ?_
  · rw [Try.params6] at h
    match ds, h with
    | [_, _], _ => rfl
  intro W base args ds ps hval hA hsz
  rw [Try.params6] at hA hval
  obtain ⟨v0, v1, d0, d1, q0, q1, hargs, rfl, rfl, h0, h1⟩ := trodAll_two hA
  subst hargs
  obtain ⟨c0, rfl, l0⟩ := open_struct (l := [3, 3, 3, 3, 9, 3]) 6 Try.underlying28 (by kernel_rfl) (hval 0 28 v0 rfl rfl) h0
  obtain ⟨a0_0, a0_1, a0_2, a0_3, a0_4, a0_5, rfl, l0_0, l0_1, l0_2, l0_3, l0_4, l0_5⟩ := allLeaf_list6 l0
  obtain ⟨a0_0, rfl, ba0_0⟩ := leaf_int Try.underlying3 l0_0
  replace ba0_0 := bnd_i64 ba0_0
  obtain ⟨a0_1, rfl, ba0_1⟩ := leaf_int Try.underlying3 l0_1
  replace ba0_1 := bnd_i64 ba0_1
  obtain ⟨a0_2, rfl, ba0_2⟩ := leaf_int Try.underlying3 l0_2
  replace ba0_2 := bnd_i64 ba0_2
  obtain ⟨a0_3, rfl, ba0_3⟩ := leaf_int Try.underlying3 l0_3
  replace ba0_3 := bnd_i64 ba0_3
  obtain ⟨a0_4, rfl, ba0_4⟩ := leaf_string Try.underlying9 l0_4
  obtain ⟨a0_5, rfl, ba0_5⟩ := leaf_int Try.underlying3 l0_5
  replace ba0_5 := bnd_i64 ba0_5
  obtain ⟨xs1, hr1, hx1⟩ := open_rows (l := [3, 3]) 6 Try.underlying33 (by kernel_rfl) (by kernel_rfl) (by decide) (hval 1 33 v1 rfl rfl) h1
  obtain ⟨ys1, rfl, hy1⟩ := rows_map (enc' := st2) (q := fun _ => True) (fun r hr => by
    obtain ⟨u0, u1, rfl, l0, l1⟩ := allLeaf_list2 hr
    obtain ⟨n0, rfl, e0⟩ := leaf_int Try.underlying3 l0
    obtain ⟨n1, rfl, e1⟩ := leaf_int Try.underlying3 l1
    exact ⟨⟨n0, n1⟩, rfl, trivial⟩) xs1 hx1
  exact law_done (if h : Pok ⟨a0_0, a0_1, a0_2, a0_3, a0_4.data.toList, a0_5⟩ then plays_ok ⟨a0_0, a0_1, a0_2, a0_3, a0_4.data.toList, a0_5⟩ _ ys1 W hr1 h else plays_no ⟨a0_0, a0_1, a0_2, a0_3, a0_4.data.toList, a0_5⟩ _ ys1 W hr1 h)
theorem healthPlays_holds : Rows.HealthPlaysSaid :=
  OpenClaim.holds_of_wide 6 Try.f6 rfl rfl rfl rfl rfl rfl rfl ⟨rfl, rfl, rfl, rfl, rfl⟩ rfl rfl rfl rfl rfl (by kernel_rfl) Try.func6 (by kernel_rfl)
    (of_decide_eq_true (by kernel_rfl)) (by unfold Func.isWrapper; first | (rw [if_pos (by decide +kernel)]; kernel_rfl) | (rw [if_neg (by decide +kernel)]; exact ⟨rfl, rfl⟩))
    (fun os started H enc _ => healthPlays_lifted os started H enc)
end Go.Proofs.Ytomdccdffennfaa
