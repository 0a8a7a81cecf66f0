/- HealthOver: a check is over only behind as many ticks in a row, at which it was critical, as its plan says; and is then: true at every input, with no condition. -/
import Derived.Test.YtomdccdffennfaaE
import Derived.Test.YtomdccdffennfaaK7
import Derived.Test.YtomdccdffennfaaRows
set_option linter.unusedSimpArgs false
set_option linter.unusedVariables false
set_option maxRecDepth 100000
set_option maxHeartbeats 1000000
namespace Go.Proofs.Ytomdccdffennfaa
open Go.RowKit Go.ChangeShapes Go.WideShapes Go.ChangeAt
@[reducible] def st2 (y : Int × Int) : List Value := [.int .i64 y.1, .int .i64 y.2]
def nx (n : Int) (c : Ck) (k m : Int) : Int := if k = 3 then (if stat (stepC c k m) = 2 then n + 1 else 0) else n
theorem nx_long (c : Ck) (k m : Int) : nx c.long c k m = (stepC c k m).long := by
  unfold nx
  by_cases h : k = 3
  · subst h
    have e : stepC c 3 m = tickC c := rfl
    have e2 : stat (tickC c) = stat (tick1 c) := rfl
    rw [if_pos rfl, e, e2]
    rfl
  · rw [if_neg h]
    unfold stepC toldC cntC folC mtC
    (repeat' split) <;> first | rfl | omega
theorem over_no (p : Pl) (v : Value) (ys : List (Int × Int)) (w : World) (hr : RdRow w v 2 (ys.map st2)) (hp : ¬ Pok p) : Ret Try.prog 5 #[.agg (plc p).toArray, v] w fun v w' => v = .bool true ∧ St w [] [] w' := by
  have hS := St.init0 w
  refine Ret.enter Try.func5 Try.ntmps5 rfl rfl ?_
  simp only [argEnv, Nat.reduceAdd]
  refine SatC.seq ?_
  refine SatC.region ?_
  refine SatL.op rfl (OpW.box hS rfl rfl (by repeat constructor) ?_)
  clear hS
  intro b2 w1 _ hS
  refine SatL.pu (RunV.assign rfl) rfl ?_
  refine SatL.nil (SatE.thenC ?_)
  refine SatC.seq ?_
  refine SatC.region ?_
  refine SatL.pu (RunV.loadN hS rfl rfl (by repeat constructor) (by repeat constructor)) rfl ?_
  refine SatL.op rfl (OpW.enter rfl rfl rfl (rfl) (new_no p _ hp) ?_)
  rintro r2 w2 ⟨rfl, h⟩
  replace hS := St.callN hS h
  refine SatL.pu (RunV.move rfl) rfl ?_
  refine SatL.pu (RunV.extract rfl rfl) rfl ?_
  refine SatL.pu (RunV.extract rfl rfl) rfl ?_
  refine SatL.pu (RunV.assign rfl) rfl ?_
  refine SatL.pu (RunV.assign rfl) rfl ?_
  refine SatL.nil (SatE.thenC ?_)
  refine SatC.seq ?_
  refine SatC.seq ?_
  refine SatC.region ?_
  refine SatL.pu (RunV.move rfl) rfl ?_
  refine SatL.pu (RunV.neq rfl rfl) rfl ?_
  refine SatL.nil (SatE.thenC ?_)
  refine SatC.cond rfl (fun h1 => ?_) (fun h1 => ?_)
  · (try simp only [cx, ne_eq] at h1)
    try (exfalso; (first | omega | exact h1 trivial | contradiction | exact hp h1 | exact absurd rfl h1); done)
    all_goals
    refine SatC.seq ?_
    refine SatC.region ?_
    refine SatL.pu (RunV.loadN hS rfl rfl (by repeat constructor) (by repeat constructor)) rfl ?_
    refine SatL.op rfl (OpW.enter rfl rfl rfl (rfl) (pright_ref _ _) ?_)
    rintro r3 w3 ⟨rfl, h⟩
    replace hS := St.callN hS h
    refine SatL.pu (RunV.not rfl) rfl ?_
    refine SatL.pu (RunV.move rfl) rfl ?_
    refine SatL.guard rfl rfl rfl (fun h2 => ?_) (fun h2 => ?_)
    · (try simp only [cx, ne_eq] at h2)
      try (exfalso; (first | omega | exact h2 trivial | contradiction | exact hp h2 | exact absurd rfl h2); done)
      all_goals
      refine SatL.op rfl (OpW.enter rfl rfl rfl (rfl) (works_any _) ?_)
      rintro r4 w4 ⟨rfl, h⟩
      replace hS := St.callN hS h
      refine SatL.pu (RunV.pick_t rfl rfl) rfl ?_
      refine SatL.pu (RunV.assign rfl) rfl ?_
      refine SatL.nil (SatE.thenC ?_)
      refine SatC.ret (SatE.then_ret ?_)
      refine SatE.ret1 rfl rfl ?_
      exact ⟨by first | rfl | simp, hS.sub (List.nil_sublist _)⟩
    · (try simp only [cx, ne_eq] at h2)
      try (exfalso; (first | omega | exact h2 trivial | contradiction | exact hp h2 | exact absurd rfl h2); done)
      all_goals
      refine SatL.pu (RunV.pick_f rfl rfl) rfl ?_
      refine SatL.pu (RunV.assign rfl) rfl ?_
      refine SatL.nil (SatE.thenC ?_)
      refine SatC.ret (SatE.then_ret ?_)
      refine SatE.ret1 rfl rfl ?_
      exact ⟨by first | rfl | simp, hS.sub (List.nil_sublist _)⟩
  · (try simp only [cx, ne_eq] at h1)
    try (exfalso; (first | omega | exact h1 trivial | contradiction | exact hp h1 | exact absurd rfl h1); done)
    all_goals
    refine SatC.skip (SatE.thenC ?_)
    refine SatC.seq ?_
    refine SatC.region ?_
    refine SatL.pu (RunV.assign rfl) rfl ?_
    refine SatL.nil (SatE.thenC ?_)
    refine SatC.seq ?_
    refine SatC.seq ?_
    refine SatC.region ?_
    refine SatL.pu (RunV.assign rfl) rfl ?_
    refine SatL.nil (SatE.thenC ?_)
    refine SatC.block ?_
    -- LOOP 1: turn [4, 7, 8], stay [1, 2, 5]
    -- STOP loop 1
    skip
theorem over_ok (p : Pl) (v : Value) (ys : List (Int × Int)) (w : World) (hr : RdRow w v 2 (ys.map st2)) (hp : Pok p) : Ret Try.prog 5 #[.agg (plc p).toArray, v] w fun v w' => v = .bool true ∧ St w [] [] w' := by
  have hS := St.init0 w
  have hk : ¬ p.kind = 0 := by unfold Pok at hp; omega
  obtain ⟨bl, ol, cl, hvl, hmaxl, hcl, hltl⟩ := hr.open
  simp only [List.length_map] at hvl hmaxl
  generalize hf0 : fv ⟨p, 2, 0, 0, 0, 0, false⟩ = f
  have hbz : Bd 0 ⟨p, 0, 0, 0, 0, 0, false⟩ := by simp [Bd]
  refine Ret.enter Try.func5 Try.ntmps5 rfl rfl ?_
  simp only [argEnv, Nat.reduceAdd]
  refine SatC.seq ?_
  refine SatC.region ?_
  refine SatL.op rfl (OpW.box hS rfl rfl (by repeat constructor) ?_)
  clear hS
  intro b2 w1 _ hS
  refine SatL.pu (RunV.assign rfl) rfl ?_
  refine SatL.nil (SatE.thenC ?_)
  refine SatC.seq ?_
  refine SatC.region ?_
  refine SatL.pu (RunV.loadN hS rfl rfl (by repeat constructor) (by repeat constructor)) rfl ?_
  refine SatL.op rfl (OpW.enter rfl rfl rfl (rfl) (new_any p _ hp) ?_)
  rintro r2 w2 ⟨b, rfl, h⟩
  replace hS := (hf0 ▸ hS.call0 h)
  refine SatL.pu (RunV.move rfl) rfl ?_
  refine SatL.pu (RunV.extract rfl rfl) rfl ?_
  refine SatL.pu (RunV.extract rfl rfl) rfl ?_
  refine SatL.pu (RunV.assign rfl) rfl ?_
  refine SatL.pu (RunV.assign rfl) rfl ?_
  refine SatL.nil (SatE.thenC ?_)
  refine SatC.seq ?_
  refine SatC.seq ?_
  refine SatC.region ?_
  refine SatL.pu (RunV.move rfl) rfl ?_
  refine SatL.pu (RunV.neq rfl rfl) rfl ?_
  refine SatL.nil (SatE.thenC ?_)
  refine SatC.cond rfl (fun h1 => ?_) (fun h1 => ?_)
  · (try simp only [cx, ne_eq] at h1)
    try (exfalso; (first | omega | exact h1 trivial | contradiction | exact hp h1 | exact absurd rfl h1 | (exfalso; apply h1; rw [over, hp2, Bool.eq_iff_iff]; simp only [decide_eq_true_eq, Bool.false_eq_true, iff_false]; rw [if_pos h4] at hn2; first | (rw [if_pos (by assumption)] at hn2; omega) | (rw [if_neg (by assumption)] at hn2; omega))); done)
    all_goals
    refine SatC.seq ?_
    refine SatC.region ?_
    refine SatL.pu (RunV.loadN hS rfl rfl (by repeat constructor) (by repeat constructor)) rfl ?_
    refine SatL.op rfl (OpW.enter rfl rfl rfl (rfl) (pright_ref _ _) ?_)
    rintro r3 w3 ⟨rfl, h⟩
    replace hS := St.callN hS h
    refine SatL.pu (RunV.not rfl) rfl ?_
    refine SatL.pu (RunV.move rfl) rfl ?_
    refine SatL.guard rfl rfl rfl (fun h2 => ?_) (fun h2 => ?_)
    · (try simp only [cx, ne_eq] at h2)
      try (exfalso; (first | omega | exact h2 trivial | contradiction | exact hp h2 | exact absurd rfl h2 | (exfalso; apply h2; rw [over, hp2, Bool.eq_iff_iff]; simp only [decide_eq_true_eq, Bool.false_eq_true, iff_false]; rw [if_pos h4] at hn2; first | (rw [if_pos (by assumption)] at hn2; omega) | (rw [if_neg (by assumption)] at hn2; omega))); done)
      all_goals
      refine SatL.op rfl (OpW.enter rfl rfl rfl (rfl) (works_any _) ?_)
      rintro r4 w4 ⟨rfl, h⟩
      replace hS := St.callN hS h
      refine SatL.pu (RunV.pick_t rfl rfl) rfl ?_
      refine SatL.pu (RunV.assign rfl) rfl ?_
      refine SatL.nil (SatE.thenC ?_)
      refine SatC.ret (SatE.then_ret ?_)
      refine SatE.ret1 rfl rfl ?_
      exact ⟨by first | rfl | simp, hS.sub (List.nil_sublist _)⟩
    · (try simp only [cx, ne_eq] at h2)
      try (exfalso; (first | omega | exact h2 trivial | contradiction | exact hp h2 | exact absurd rfl h2 | (exfalso; apply h2; rw [over, hp2, Bool.eq_iff_iff]; simp only [decide_eq_true_eq, Bool.false_eq_true, iff_false]; rw [if_pos h4] at hn2; first | (rw [if_pos (by assumption)] at hn2; omega) | (rw [if_neg (by assumption)] at hn2; omega))); done)
      all_goals
      refine SatL.pu (RunV.pick_f rfl rfl) rfl ?_
      refine SatL.pu (RunV.assign rfl) rfl ?_
      refine SatL.nil (SatE.thenC ?_)
      refine SatC.ret (SatE.then_ret ?_)
      refine SatE.ret1 rfl rfl ?_
      exact ⟨by first | rfl | simp, hS.sub (List.nil_sublist _)⟩
  · (try simp only [cx, ne_eq] at h1)
    try (exfalso; (first | omega | exact h1 trivial | contradiction | exact hp h1 | exact absurd rfl h1 | (exfalso; apply h1; rw [over, hp2, Bool.eq_iff_iff]; simp only [decide_eq_true_eq, Bool.false_eq_true, iff_false]; rw [if_pos h4] at hn2; first | (rw [if_pos (by assumption)] at hn2; omega) | (rw [if_neg (by assumption)] at hn2; omega))); done)
    all_goals
    refine SatC.skip (SatE.thenC ?_)
    refine SatC.seq ?_
    refine SatC.region ?_
    refine SatL.pu (RunV.assign rfl) rfl ?_
    refine SatL.nil (SatE.thenC ?_)
    refine SatC.seq ?_
    refine SatC.seq ?_
    refine SatC.region ?_
    refine SatL.pu (RunV.assign rfl) rfl ?_
    refine SatL.nil (SatE.thenC ?_)
    refine SatC.block ?_
    refine SatC.loopK (G := Nat × Ck) (V := fun ⟨i, c⟩ => [(8, .int .i64 (i : Int)), (7, .int .i64 c.long)]) (Cn := [(1, _), (2, _), (5, _), (4, _)]) (I := fun ⟨i, c⟩ w' => i ≤ ys.length ∧ i ≤ 100 ∧ c.p = p ∧ Bd i c ∧ St w [] [(b, C 49 (hc f c)), (b2, C 28 (plc p))] w') (μ := fun ⟨i, c⟩ => ys.length - i) (0, ⟨p, 2, 0, 0, 0, 0, false⟩) ?_ (by repeat constructor) ?_
    · exact ⟨Nat.zero_le _, by omega, rfl, by simp [Bd], hS⟩
    clear hS
    rintro ⟨i, c⟩ w3 ⟨hi, hi1, hcp, hb, hS⟩
    refine SatC.weak (e' := [(1, _), (2, _), (4, _), (5, _), (7, _), (8, _)]) (by repeat constructor) ?_
    refine SatC.seq ?_
    refine SatC.seq ?_
    refine SatC.region ?_
    refine SatL.pu (RunV.move rfl) rfl ?_
    refine SatL.pu (RunV.move rfl) rfl ?_
    first | refine SatL.pu (RunV.lenR (by assumption) rfl rfl) rfl ?_ | refine SatL.pu (RunV.lenS rfl rfl) rfl ?_
    refine SatL.pu (RunV.lss rfl rfl) rfl ?_
    refine SatL.pu (RunV.move rfl) rfl ?_
    refine SatL.guard rfl rfl rfl (fun h2 => ?_) (fun h2 => ?_)
    · (try simp only [cx, ne_eq] at h2)
      try (exfalso; (first | omega | exact h2 trivial | contradiction | exact hp h2 | exact absurd rfl h2 | (exfalso; apply h2; rw [over, hp2, Bool.eq_iff_iff]; simp only [decide_eq_true_eq, Bool.false_eq_true, iff_false]; rw [if_pos h4] at hn2; first | (rw [if_pos (by assumption)] at hn2; omega) | (rw [if_neg (by assumption)] at hn2; omega))); done)
      all_goals
      refine SatL.pu (RunV.move rfl) rfl ?_
      refine SatL.guard_y rfl rfl ?_
      refine SatL.pu (RunV.lss rfl rfl) rfl ?_
      refine SatL.pu (RunV.pick_t rfl rfl) rfl ?_
      refine SatL.nil (SatE.thenC ?_)
      refine SatC.cond rfl (fun h3 => ?_) (fun h3 => ?_)
      · (try simp only [cx, ne_eq] at h3)
        try (exfalso; (first | omega | exact h3 trivial | contradiction | exact hp h3 | exact absurd rfl h3 | (exfalso; apply h3; rw [over, hp2, Bool.eq_iff_iff]; simp only [decide_eq_true_eq, Bool.false_eq_true, iff_false]; rw [if_pos h4] at hn2; first | (rw [if_pos (by assumption)] at hn2; omega) | (rw [if_neg (by assumption)] at hn2; omega))); done)
        all_goals
        refine SatC.skip (SatE.thenC ?_)
        refine SatC.seq ?_
        refine SatC.block ?_
        refine SatC.seq ?_
        obtain ⟨y, hy⟩ := get_some ys i (by omega)
        have hbl : 0 ≤ c.long ∧ c.long ≤ 100 := by unfold Bd at hb; omega
        refine SatC.drawnT 8 hS (hS.sel (R := [(b2, C 28 (plc p))]) (by repeat constructor)) (by kernel_rfl) ?_
        clear hS
        intro w4 hh hS hD
        refine SatD.take 0 rfl [] (by kernel_rfl) (fun _ _ _ h => h) rfl rfl hD (fun _ hw => RunV.move rfl) ?_
        refine SatD.take 1 rfl [3, 2] (by kernel_rfl) (fun _ _ _ h => h) rfl rfl hD (fun _ hw => RunV.loadN hw rfl rfl (by repeat constructor) (by repeat constructor)) ?_
        refine SatD.take 2 rfl [3] (by kernel_rfl) (fun _ _ _ h => h) rfl rfl hD (fun _ hw => RunV.build rfl (by simp [go_sem]; try rfl)) ?_
        refine SatD.take 4 rfl [7, 6] (by kernel_rfl) (fun _ _ _ h => h) rfl rfl hD (fun _ hw => RunV.move rfl) ?_
        refine SatD.take 5 rfl [7, 6] (by kernel_rfl) (fun _ _ _ h => h) rfl rfl hD (fun _ hw => RunV.move rfl) ?_
        first | refine SatD.take 6 rfl [7] (by kernel_rfl) (fun _ _ _ h => h) rfl rfl hD (fun _ hw => RunV.indexR (by assumption) rfl rfl rfl (by omega) (by omega) rfl) ?_ | refine SatD.take 6 rfl [7] (by kernel_rfl) (fun _ _ _ h => h) rfl rfl hD (fun _ hw => RunV.indexS rfl rfl rfl (by omega) (by omega) rfl) ?_
        first | refine SatD.take 7 rfl [] (by kernel_rfl) (fun _ _ _ h => h) rfl rfl hD (fun _ hw => RunV.loadRNz (RdC.st (by assumption) hw List.not_mem_nil) rfl rfl (by first | assumption | exact map_get (by assumption))) ?_ | refine SatD.take 7 rfl [] (by kernel_rfl) (fun _ _ _ h => h) rfl rfl hD (fun _ hw => RunV.loadRNz (Sl.rd (by assumption) hw (by repeat constructor)) rfl rfl (by first | assumption | exact map_get (by assumption))) ?_
        refine SatD.eff 3 (by kernel_rfl) rfl rfl (OpW.box hS rfl rfl (by repeat constructor) ?_)
        clear hS
        intro b35 w5 _ hS
        refine keepS (hS.sb (by repeat constructor)) (fun hD => ?_)
        refine SatD.effF (by kernel_rfl) rfl rfl (OpW.enter rfl rfl rfl (rfl) (step_any (f := f) (c := c) (d := ⟨p, 0, 0, 0, 0, 0, false⟩) _ _ (by rw [← hf0]; exact fv_p hcp.symm) (hS.ownT (by repeat constructor)) (by rw [hcp]; exact hk) (hb.le (by omega)) (hbz.le (by omega))) ?_)
        rintro r6 w6 ⟨rfl, h⟩
        replace hS := hS.callT (A := [(b, C 49 (hc f c)), (b35, C 37 (rc ⟨p, 0, 0, 0, 0, 0, false⟩))]) (by repeat constructor) h
        have hb2 := stepC_bd (k := y.1) (n := y.2) hb
        have hp2 := stepC_p c y.1 y.2
        rw [hcp] at hp2
        have hn2 := nx_long c y.1 y.2
        unfold nx at hn2
        generalize stepC c y.1 y.2 = c2 at *
        refine SatD.done 0 (by kernel_rfl) (SatE.thenC ?_)
        clear hD
        refine SatC.seq ?_
        refine SatC.weak (e' := [(1, _), (2, _), (4, _), (5, _), (7, _), (8, _)]) (by repeat constructor) ?_
        refine SatC.region ?_
        refine SatL.pu (RunV.move rfl) rfl ?_
        refine SatL.pu (RunV.move rfl) rfl ?_
        first | refine SatL.pu (RunV.indexR (by assumption) rfl rfl rfl (by omega) (by omega) rfl) rfl ?_ | refine SatL.pu (RunV.indexS rfl rfl rfl (by omega) (by omega) rfl) rfl ?_
        first | refine SatL.pu (RunV.fieldAddrL rfl rfl rfl) rfl ?_ | refine SatL.pu (RunV.fieldAddr rfl rfl rfl) rfl ?_
        first | refine SatL.pu (RunV.loadR1f (RdC.st (by assumption) hS List.not_mem_nil) rfl rfl (by first | assumption | exact map_get (by assumption)) rfl) rfl ?_ | refine SatL.pu (RunV.loadR1f (Sl.rd (by assumption) hS (by repeat constructor)) rfl rfl (by first | assumption | exact map_get (by assumption)) rfl) rfl ?_
        refine SatL.pu (RunV.eql rfl rfl) rfl ?_
        refine SatL.nil (SatE.thenC ?_)
        refine SatC.cond rfl (fun h4 => ?_) (fun h4 => ?_)
        · (try simp only [cx, ne_eq] at h4)
          try (exfalso; (first | omega | exact h4 trivial | contradiction | exact hp h4 | exact absurd rfl h4 | (exfalso; apply h4; rw [over, hp2, Bool.eq_iff_iff]; simp only [decide_eq_true_eq, Bool.false_eq_true, iff_false]; rw [if_pos h4] at hn2; first | (rw [if_pos (by assumption)] at hn2; omega) | (rw [if_neg (by assumption)] at hn2; omega))); done)
          all_goals
          refine SatC.seq ?_
          refine SatC.region ?_
          refine SatL.pu (RunV.move rfl) rfl ?_
          refine SatL.pu (RunV.add rfl rfl (by first | exact wrapI64 (by omega) | rfl)) rfl ?_
          refine SatL.pu (RunV.assign rfl) rfl ?_
          refine SatL.nil (SatE.thenC ?_)
          refine SatC.seq ?_
          refine SatC.seq ?_
          refine SatC.region ?_
          refine SatL.pu (RunV.move rfl) rfl ?_
          refine SatL.op rfl (OpW.enter rfl rfl rfl (rfl) (stat_any (c := c2) (hS.ownOf (by repeat constructor)) (by rw [hp2]; exact hk)) ?_)
          rintro r7 w7 ⟨rfl, h⟩
          replace hS := St.callN hS h
          refine SatL.pu (RunV.neq rfl rfl) rfl ?_
          refine SatL.nil (SatE.thenC ?_)
          refine SatC.cond rfl (fun h5 => ?_) (fun h5 => ?_)
          · (try simp only [cx, ne_eq] at h5)
            try (exfalso; (first | omega | exact h5 trivial | contradiction | exact hp h5 | exact absurd rfl h5 | (exfalso; apply h5; rw [over, hp2, Bool.eq_iff_iff]; simp only [decide_eq_true_eq, Bool.false_eq_true, iff_false]; rw [if_pos h4] at hn2; first | (rw [if_pos (by assumption)] at hn2; omega) | (rw [if_neg (by assumption)] at hn2; omega))); done)
            all_goals
            refine SatC.region ?_
            refine SatL.pu (RunV.assign rfl) rfl ?_
            refine SatL.nil (SatE.thenC ?_)
            refine SatC.seq ?_
            refine SatC.drawnT 12 hS (hS.sel (R := [(b2, C 28 (plc p))]) (by repeat constructor)) (by kernel_rfl) ?_
            clear hS
            intro w8 hh hS hD
            refine SatD.take 0 rfl [] (by kernel_rfl) (fun _ _ _ h => h) rfl rfl hD (fun _ hw => RunV.move rfl) ?_
            first | refine SatD.take 2 rfl [] (by kernel_rfl) (fun _ _ _ h => h) rfl rfl hD (fun _ hw => RunV.fieldAddrL rfl rfl rfl) ?_ | refine SatD.take 2 rfl [] (by kernel_rfl) (fun _ _ _ h => h) rfl rfl hD (fun _ hw => RunV.fieldAddr rfl rfl rfl) ?_
            refine SatD.take 3 rfl [] (by kernel_rfl) (fun _ _ _ h => h) rfl rfl hD (fun _ hw => RunV.load1 hw rfl rfl (by repeat constructor) rfl) ?_
            refine SatD.take 4 rfl [] (by kernel_rfl) (fun _ _ _ h => h) rfl rfl hD (fun _ hw => RunV.gtr rfl rfl) ?_
            refine SatD.eff 1 (by kernel_rfl) rfl rfl (OpW.enter rfl rfl rfl (rfl) (over_any (c := c2) (hS.ownOf (by repeat constructor)) (by rw [hp2]; exact hk)) ?_)
            rintro r9 w9 ⟨rfl, h⟩
            replace hS := St.callN hS h
            refine keepS (hS.sb (by repeat constructor)) (fun hD => ?_)
            refine SatD.take 5 rfl [] (by kernel_rfl) (fun _ _ _ h => h) rfl rfl hD (fun _ hw => RunV.move rfl) ?_
            refine SatD.ways 57 rfl (fun h6 => ?_) (fun h6 => ?_)
            · (try simp only [cx, ne_eq] at h6)
              try (exfalso; (first | omega | exact h6 trivial | contradiction | exact hp h6 | exact absurd rfl h6 | (exfalso; apply h6; rw [over, hp2, Bool.eq_iff_iff]; simp only [decide_eq_true_eq, Bool.false_eq_true, iff_false]; rw [if_pos h4] at hn2; first | (rw [if_pos (by assumption)] at hn2; omega) | (rw [if_neg (by assumption)] at hn2; omega))); done)
              all_goals
              refine SatD.take 6 rfl [] (by kernel_rfl) (fun _ _ _ h => h) rfl rfl hD (fun _ hw => RunV.move rfl) ?_
              first | refine SatD.take 7 rfl [] (by kernel_rfl) (fun _ _ _ h => h) rfl rfl hD (fun _ hw => RunV.fieldAddrL rfl rfl rfl) ?_ | refine SatD.take 7 rfl [] (by kernel_rfl) (fun _ _ _ h => h) rfl rfl hD (fun _ hw => RunV.fieldAddr rfl rfl rfl) ?_
              refine SatD.take 8 rfl [] (by kernel_rfl) (fun _ _ _ h => h) rfl rfl hD (fun _ hw => RunV.load1 hw rfl rfl (by repeat constructor) rfl) ?_
              refine SatD.take 9 rfl [] (by kernel_rfl) (fun _ _ _ h => h) rfl rfl hD (fun _ hw => RunV.geq rfl rfl) ?_
              refine SatD.take 10 rfl [] (by kernel_rfl) (fun _ _ _ h => h) rfl rfl hD (fun _ hw => RunV.pick_t rfl rfl) ?_
              refine SatD.take 11 rfl [] (by kernel_rfl) (fun _ _ _ h => h) rfl rfl hD (fun _ hw => RunV.bneq rfl rfl rfl) ?_
              refine SatD.done 0 (by kernel_rfl) (SatE.thenC ?_)
              clear hD
              refine SatC.weak (e' := [(1, _), (2, _), (4, _), (5, _), (7, _), (8, _), (63, _)]) (by repeat constructor) ?_
              refine SatC.cond rfl (fun h7 => ?_) (fun h7 => ?_)
              · (try simp only [cx, ne_eq] at h7)
                try (exfalso; (first | omega | exact h7 trivial | contradiction | exact hp h7 | exact absurd rfl h7 | (exfalso; apply h7; rw [over, hp2, Bool.eq_iff_iff]; simp only [decide_eq_true_eq, Bool.false_eq_true, iff_false]; rw [if_pos h4] at hn2; first | (rw [if_pos (by assumption)] at hn2; omega) | (rw [if_neg (by assumption)] at hn2; omega))); done)
                all_goals
                refine SatC.seq ?_
                refine SatC.region ?_
                refine SatL.pu (RunV.assign rfl) rfl ?_
                refine SatL.nil (SatE.thenC ?_)
                refine SatC.ret (SatE.blk_ret (SatE.then_ret (SatE.then_ret (SatE.blk_ret (SatE.then_ret ?_)))))
                refine SatE.ret1 rfl rfl ?_
                exact ⟨by first | rfl | simp, hS.sub (List.nil_sublist _)⟩
              · (try simp only [cx, ne_eq] at h7)
                try (exfalso; (first | omega | exact h7 trivial | contradiction | exact hp h7 | exact absurd rfl h7 | (exfalso; apply h7; rw [over, hp2, Bool.eq_iff_iff]; simp only [decide_eq_true_eq, Bool.false_eq_true, iff_false]; rw [if_pos h4] at hn2; first | (rw [if_pos (by assumption)] at hn2; omega) | (rw [if_neg (by assumption)] at hn2; omega))); done)
                all_goals
                refine SatC.skip (SatE.blk_normal (SatE.thenC ?_))
                skip
                refine SatC.region ?_
                refine SatL.pu (RunV.move rfl) rfl ?_
                refine SatL.pu (RunV.add rfl rfl (by first | exact wrapI64 (by omega) | rfl)) rfl ?_
                refine SatL.pu (RunV.assign rfl) rfl ?_
                refine SatL.nil ?_
                first | rw [if_pos h4, if_pos h5] at hn2 | rw [if_pos h4, if_neg h5] at hn2 | rw [if_neg h4] at hn2
                refine SatE.again (i + 1, c2) ⟨by omega, by omega, hp2, hb2, hS.sel (by repeat constructor)⟩ (by dsimp only; omega) ?_
                simp only [← hn2]
                repeat constructor
            · (try simp only [cx, ne_eq] at h6)
              try (exfalso; (first | omega | exact h6 trivial | contradiction | exact hp h6 | exact absurd rfl h6 | (exfalso; apply h6; rw [over, hp2, Bool.eq_iff_iff]; simp only [decide_eq_true_eq, Bool.false_eq_true, iff_false]; rw [if_pos h4] at hn2; first | (rw [if_pos (by assumption)] at hn2; omega) | (rw [if_neg (by assumption)] at hn2; omega))); done)
              all_goals
              refine SatD.skip 6 rfl [] (by kernel_rfl) (fun _ _ _ h => h) rfl rfl hD ?_
              refine SatD.skip 7 rfl [] (by kernel_rfl) (fun _ _ _ h => h) rfl rfl hD ?_
              refine SatD.skip 8 rfl [] (by kernel_rfl) (fun _ _ _ h => h) rfl rfl hD ?_
              refine SatD.skip 9 rfl [] (by kernel_rfl) (fun _ _ _ h => h) rfl rfl hD ?_
              refine SatD.take 10 rfl [] (by kernel_rfl) (fun _ _ _ h => h) rfl rfl hD (fun _ hw => RunV.pick_f rfl rfl) ?_
              refine SatD.take 11 rfl [] (by kernel_rfl) (fun _ _ _ h => h) rfl rfl hD (fun _ hw => RunV.bneq rfl rfl rfl) ?_
              refine SatD.done 0 (by kernel_rfl) (SatE.thenC ?_)
              clear hD
              refine SatC.weak (e' := [(1, _), (2, _), (4, _), (5, _), (7, _), (8, _), (63, _)]) (by repeat constructor) ?_
              refine SatC.cond rfl (fun h7 => ?_) (fun h7 => ?_)
              · (try simp only [cx, ne_eq] at h7)
                try (exfalso; (first | omega | exact h7 trivial | contradiction | exact hp h7 | exact absurd rfl h7 | (exfalso; apply h7; rw [over, hp2, Bool.eq_iff_iff]; simp only [decide_eq_true_eq, Bool.false_eq_true, iff_false]; rw [if_pos h4] at hn2; first | (rw [if_pos (by assumption)] at hn2; omega) | (rw [if_neg (by assumption)] at hn2; omega))); done)
                all_goals
                refine SatC.seq ?_
                refine SatC.region ?_
                refine SatL.pu (RunV.assign rfl) rfl ?_
                refine SatL.nil (SatE.thenC ?_)
                refine SatC.ret (SatE.blk_ret (SatE.then_ret (SatE.then_ret (SatE.blk_ret (SatE.then_ret ?_)))))
                refine SatE.ret1 rfl rfl ?_
                exact ⟨by first | rfl | simp, hS.sub (List.nil_sublist _)⟩
              · (try simp only [cx, ne_eq] at h7)
                try (exfalso; (first | omega | exact h7 trivial | contradiction | exact hp h7 | exact absurd rfl h7 | (exfalso; apply h7; rw [over, hp2, Bool.eq_iff_iff]; simp only [decide_eq_true_eq, Bool.false_eq_true, iff_false]; rw [if_pos h4] at hn2; first | (rw [if_pos (by assumption)] at hn2; omega) | (rw [if_neg (by assumption)] at hn2; omega))); done)
                all_goals
                refine SatC.skip (SatE.blk_normal (SatE.thenC ?_))
                skip
                refine SatC.region ?_
                refine SatL.pu (RunV.move rfl) rfl ?_
                refine SatL.pu (RunV.add rfl rfl (by first | exact wrapI64 (by omega) | rfl)) rfl ?_
                refine SatL.pu (RunV.assign rfl) rfl ?_
                refine SatL.nil ?_
                first | rw [if_pos h4, if_pos h5] at hn2 | rw [if_pos h4, if_neg h5] at hn2 | rw [if_neg h4] at hn2
                refine SatE.again (i + 1, c2) ⟨by omega, by omega, hp2, hb2, hS.sel (by repeat constructor)⟩ (by dsimp only; omega) ?_
                simp only [← hn2]
                repeat constructor
          · (try simp only [cx, ne_eq] at h5)
            try (exfalso; (first | omega | exact h5 trivial | contradiction | exact hp h5 | exact absurd rfl h5 | (exfalso; apply h5; rw [over, hp2, Bool.eq_iff_iff]; simp only [decide_eq_true_eq, Bool.false_eq_true, iff_false]; rw [if_pos h4] at hn2; first | (rw [if_pos (by assumption)] at hn2; omega) | (rw [if_neg (by assumption)] at hn2; omega))); done)
            all_goals
            refine SatC.skip (SatE.thenC ?_)
            refine SatC.seq ?_
            refine SatC.drawnT 12 hS (hS.sel (R := [(b2, C 28 (plc p))]) (by repeat constructor)) (by kernel_rfl) ?_
            clear hS
            intro w8 hh hS hD
            refine SatD.take 0 rfl [] (by kernel_rfl) (fun _ _ _ h => h) rfl rfl hD (fun _ hw => RunV.move rfl) ?_
            first | refine SatD.take 2 rfl [] (by kernel_rfl) (fun _ _ _ h => h) rfl rfl hD (fun _ hw => RunV.fieldAddrL rfl rfl rfl) ?_ | refine SatD.take 2 rfl [] (by kernel_rfl) (fun _ _ _ h => h) rfl rfl hD (fun _ hw => RunV.fieldAddr rfl rfl rfl) ?_
            refine SatD.take 3 rfl [] (by kernel_rfl) (fun _ _ _ h => h) rfl rfl hD (fun _ hw => RunV.load1 hw rfl rfl (by repeat constructor) rfl) ?_
            refine SatD.take 4 rfl [] (by kernel_rfl) (fun _ _ _ h => h) rfl rfl hD (fun _ hw => RunV.gtr rfl rfl) ?_
            refine SatD.eff 1 (by kernel_rfl) rfl rfl (OpW.enter rfl rfl rfl (rfl) (over_any (c := c2) (hS.ownOf (by repeat constructor)) (by rw [hp2]; exact hk)) ?_)
            rintro r9 w9 ⟨rfl, h⟩
            replace hS := St.callN hS h
            refine keepS (hS.sb (by repeat constructor)) (fun hD => ?_)
            refine SatD.take 5 rfl [] (by kernel_rfl) (fun _ _ _ h => h) rfl rfl hD (fun _ hw => RunV.move rfl) ?_
            refine SatD.ways 57 rfl (fun h6 => ?_) (fun h6 => ?_)
            · (try simp only [cx, ne_eq] at h6)
              try (exfalso; (first | omega | exact h6 trivial | contradiction | exact hp h6 | exact absurd rfl h6 | (exfalso; apply h6; rw [over, hp2, Bool.eq_iff_iff]; simp only [decide_eq_true_eq, Bool.false_eq_true, iff_false]; rw [if_pos h4] at hn2; first | (rw [if_pos (by assumption)] at hn2; omega) | (rw [if_neg (by assumption)] at hn2; omega))); done)
              all_goals
              refine SatD.take 6 rfl [] (by kernel_rfl) (fun _ _ _ h => h) rfl rfl hD (fun _ hw => RunV.move rfl) ?_
              first | refine SatD.take 7 rfl [] (by kernel_rfl) (fun _ _ _ h => h) rfl rfl hD (fun _ hw => RunV.fieldAddrL rfl rfl rfl) ?_ | refine SatD.take 7 rfl [] (by kernel_rfl) (fun _ _ _ h => h) rfl rfl hD (fun _ hw => RunV.fieldAddr rfl rfl rfl) ?_
              refine SatD.take 8 rfl [] (by kernel_rfl) (fun _ _ _ h => h) rfl rfl hD (fun _ hw => RunV.load1 hw rfl rfl (by repeat constructor) rfl) ?_
              refine SatD.take 9 rfl [] (by kernel_rfl) (fun _ _ _ h => h) rfl rfl hD (fun _ hw => RunV.geq rfl rfl) ?_
              refine SatD.take 10 rfl [] (by kernel_rfl) (fun _ _ _ h => h) rfl rfl hD (fun _ hw => RunV.pick_t rfl rfl) ?_
              refine SatD.take 11 rfl [] (by kernel_rfl) (fun _ _ _ h => h) rfl rfl hD (fun _ hw => RunV.bneq rfl rfl rfl) ?_
              refine SatD.done 0 (by kernel_rfl) (SatE.thenC ?_)
              clear hD
              refine SatC.weak (e' := [(1, _), (2, _), (4, _), (5, _), (7, _), (8, _), (63, _)]) (by repeat constructor) ?_
              refine SatC.cond rfl (fun h7 => ?_) (fun h7 => ?_)
              · (try simp only [cx, ne_eq] at h7)
                try (exfalso; (first | omega | exact h7 trivial | contradiction | exact hp h7 | exact absurd rfl h7 | (exfalso; apply h7; rw [over, hp2, Bool.eq_iff_iff]; simp only [decide_eq_true_eq, Bool.false_eq_true, iff_false]; rw [if_pos h4] at hn2; first | (rw [if_pos (by assumption)] at hn2; omega) | (rw [if_neg (by assumption)] at hn2; omega))); done)
                all_goals
                refine SatC.seq ?_
                refine SatC.region ?_
                refine SatL.pu (RunV.assign rfl) rfl ?_
                refine SatL.nil (SatE.thenC ?_)
                refine SatC.ret (SatE.blk_ret (SatE.then_ret (SatE.then_ret (SatE.blk_ret (SatE.then_ret ?_)))))
                refine SatE.ret1 rfl rfl ?_
                exact ⟨by first | rfl | simp, hS.sub (List.nil_sublist _)⟩
              · (try simp only [cx, ne_eq] at h7)
                try (exfalso; (first | omega | exact h7 trivial | contradiction | exact hp h7 | exact absurd rfl h7 | (exfalso; apply h7; rw [over, hp2, Bool.eq_iff_iff]; simp only [decide_eq_true_eq, Bool.false_eq_true, iff_false]; rw [if_pos h4] at hn2; first | (rw [if_pos (by assumption)] at hn2; omega) | (rw [if_neg (by assumption)] at hn2; omega))); done)
                all_goals
                refine SatC.skip (SatE.blk_normal (SatE.thenC ?_))
                skip
                refine SatC.region ?_
                refine SatL.pu (RunV.move rfl) rfl ?_
                refine SatL.pu (RunV.add rfl rfl (by first | exact wrapI64 (by omega) | rfl)) rfl ?_
                refine SatL.pu (RunV.assign rfl) rfl ?_
                refine SatL.nil ?_
                first | rw [if_pos h4, if_pos h5] at hn2 | rw [if_pos h4, if_neg h5] at hn2 | rw [if_neg h4] at hn2
                refine SatE.again (i + 1, c2) ⟨by omega, by omega, hp2, hb2, hS.sel (by repeat constructor)⟩ (by dsimp only; omega) ?_
                simp only [← hn2]
                repeat constructor
            · (try simp only [cx, ne_eq] at h6)
              try (exfalso; (first | omega | exact h6 trivial | contradiction | exact hp h6 | exact absurd rfl h6 | (exfalso; apply h6; rw [over, hp2, Bool.eq_iff_iff]; simp only [decide_eq_true_eq, Bool.false_eq_true, iff_false]; rw [if_pos h4] at hn2; first | (rw [if_pos (by assumption)] at hn2; omega) | (rw [if_neg (by assumption)] at hn2; omega))); done)
              all_goals
              refine SatD.skip 6 rfl [] (by kernel_rfl) (fun _ _ _ h => h) rfl rfl hD ?_
              refine SatD.skip 7 rfl [] (by kernel_rfl) (fun _ _ _ h => h) rfl rfl hD ?_
              refine SatD.skip 8 rfl [] (by kernel_rfl) (fun _ _ _ h => h) rfl rfl hD ?_
              refine SatD.skip 9 rfl [] (by kernel_rfl) (fun _ _ _ h => h) rfl rfl hD ?_
              refine SatD.take 10 rfl [] (by kernel_rfl) (fun _ _ _ h => h) rfl rfl hD (fun _ hw => RunV.pick_f rfl rfl) ?_
              refine SatD.take 11 rfl [] (by kernel_rfl) (fun _ _ _ h => h) rfl rfl hD (fun _ hw => RunV.bneq rfl rfl rfl) ?_
              refine SatD.done 0 (by kernel_rfl) (SatE.thenC ?_)
              clear hD
              refine SatC.weak (e' := [(1, _), (2, _), (4, _), (5, _), (7, _), (8, _), (63, _)]) (by repeat constructor) ?_
              refine SatC.cond rfl (fun h7 => ?_) (fun h7 => ?_)
              · (try simp only [cx, ne_eq] at h7)
                try (exfalso; (first | omega | exact h7 trivial | contradiction | exact hp h7 | exact absurd rfl h7 | (exfalso; apply h7; rw [over, hp2, Bool.eq_iff_iff]; simp only [decide_eq_true_eq, Bool.false_eq_true, iff_false]; rw [if_pos h4] at hn2; first | (rw [if_pos (by assumption)] at hn2; omega) | (rw [if_neg (by assumption)] at hn2; omega))); done)
                all_goals
                refine SatC.seq ?_
                refine SatC.region ?_
                refine SatL.pu (RunV.assign rfl) rfl ?_
                refine SatL.nil (SatE.thenC ?_)
                refine SatC.ret (SatE.blk_ret (SatE.then_ret (SatE.then_ret (SatE.blk_ret (SatE.then_ret ?_)))))
                refine SatE.ret1 rfl rfl ?_
                exact ⟨by first | rfl | simp, hS.sub (List.nil_sublist _)⟩
              · (try simp only [cx, ne_eq] at h7)
                try (exfalso; (first | omega | exact h7 trivial | contradiction | exact hp h7 | exact absurd rfl h7 | (exfalso; apply h7; rw [over, hp2, Bool.eq_iff_iff]; simp only [decide_eq_true_eq, Bool.false_eq_true, iff_false]; rw [if_pos h4] at hn2; first | (rw [if_pos (by assumption)] at hn2; omega) | (rw [if_neg (by assumption)] at hn2; omega))); done)
                all_goals
                refine SatC.skip (SatE.blk_normal (SatE.thenC ?_))
                skip
                refine SatC.region ?_
                refine SatL.pu (RunV.move rfl) rfl ?_
                refine SatL.pu (RunV.add rfl rfl (by first | exact wrapI64 (by omega) | rfl)) rfl ?_
                refine SatL.pu (RunV.assign rfl) rfl ?_
                refine SatL.nil ?_
                first | rw [if_pos h4, if_pos h5] at hn2 | rw [if_pos h4, if_neg h5] at hn2 | rw [if_neg h4] at hn2
                refine SatE.again (i + 1, c2) ⟨by omega, by omega, hp2, hb2, hS.sel (by repeat constructor)⟩ (by dsimp only; omega) ?_
                simp only [← hn2]
                repeat constructor
        · (try simp only [cx, ne_eq] at h4)
          try (exfalso; (first | omega | exact h4 trivial | contradiction | exact hp h4 | exact absurd rfl h4 | (exfalso; apply h4; rw [over, hp2, Bool.eq_iff_iff]; simp only [decide_eq_true_eq, Bool.false_eq_true, iff_false]; rw [if_pos h4] at hn2; first | (rw [if_pos (by assumption)] at hn2; omega) | (rw [if_neg (by assumption)] at hn2; omega))); done)
          all_goals
          refine SatC.skip (SatE.blk_normal (SatE.thenC ?_))
          skip
          refine SatC.region ?_
          refine SatL.pu (RunV.move rfl) rfl ?_
          refine SatL.pu (RunV.add rfl rfl (by first | exact wrapI64 (by omega) | rfl)) rfl ?_
          refine SatL.pu (RunV.assign rfl) rfl ?_
          refine SatL.nil ?_
          first | rw [if_pos h4, if_pos h5] at hn2 | rw [if_pos h4, if_neg h5] at hn2 | rw [if_neg h4] at hn2
          refine SatE.again (i + 1, c2) ⟨by omega, by omega, hp2, hb2, hS.sel (by repeat constructor)⟩ (by dsimp only; omega) ?_
          simp only [← hn2]
          repeat constructor
      · (try simp only [cx, ne_eq] at h3)
        try (exfalso; (first | omega | exact h3 trivial | contradiction | exact hp h3 | exact absurd rfl h3 | (exfalso; apply h3; rw [over, hp2, Bool.eq_iff_iff]; simp only [decide_eq_true_eq, Bool.false_eq_true, iff_false]; rw [if_pos h4] at hn2; first | (rw [if_pos (by assumption)] at hn2; omega) | (rw [if_neg (by assumption)] at hn2; omega))); done)
        all_goals
        refine SatC.exit (SatE.then_exit (SatE.then_exit (SatE.blk_exit (SatE.thenC ?_))))
        refine SatC.seq ?_
        refine SatC.weak (e' := [(4, _)]) (by repeat constructor) ?_
        refine SatC.region ?_
        refine SatL.op rfl (OpW.enter rfl rfl rfl (rfl) (works_any _) ?_)
        rintro r4 w4 ⟨rfl, h⟩
        replace hS := St.callN hS h
        refine SatL.pu (RunV.assign rfl) rfl ?_
        refine SatL.nil (SatE.thenC ?_)
        refine SatC.ret ?_
        refine SatE.ret1 rfl rfl ?_
        exact ⟨by first | rfl | simp, hS.sub (List.nil_sublist _)⟩
    · (try simp only [cx, ne_eq] at h2)
      try (exfalso; (first | omega | exact h2 trivial | contradiction | exact hp h2 | exact absurd rfl h2 | (exfalso; apply h2; rw [over, hp2, Bool.eq_iff_iff]; simp only [decide_eq_true_eq, Bool.false_eq_true, iff_false]; rw [if_pos h4] at hn2; first | (rw [if_pos (by assumption)] at hn2; omega) | (rw [if_neg (by assumption)] at hn2; omega))); done)
      all_goals
      refine SatL.guard_n rfl rfl rfl rfl ?_
      refine SatL.pu (RunV.pick_f rfl rfl) rfl ?_
      refine SatL.nil (SatE.thenC ?_)
      refine SatC.cond_f rfl ?_
      refine SatC.exit (SatE.then_exit (SatE.then_exit (SatE.blk_exit (SatE.thenC ?_))))
      refine SatC.seq ?_
      refine SatC.weak (e' := [(4, _)]) (by repeat constructor) ?_
      refine SatC.region ?_
      refine SatL.op rfl (OpW.enter rfl rfl rfl (rfl) (works_any _) ?_)
      rintro r4 w4 ⟨rfl, h⟩
      replace hS := St.callN hS h
      refine SatL.pu (RunV.assign rfl) rfl ?_
      refine SatL.nil (SatE.thenC ?_)
      refine SatC.ret ?_
      refine SatE.ret1 rfl rfl ?_
      exact ⟨by first | rfl | simp, hS.sub (List.nil_sublist _)⟩
theorem healthOver_lifted (os : Os) (started : os.Started) (H : Type) (enc : TypeId × Value → H) :
    ReturnsInHanded {} Try.checked os 5 .any (Rows.healthOverSpec.pre6 enc Try.prog Try.f5 Rows.healthOverRow.domain false) (Rows.healthOverSpec.post enc Try.prog Try.f5 false true false false) := by
  refine law_returns (C := Try.checked) (b := 4) (by kernel_rfl) started (by kernel_rfl) Try.func5
    (ChangeSpec.witness6 (enc := enc) (C := Try.checked) false ⟨#[], #[.agg #[.int .i64 0, .int .i64 0, .int .i64 0, .int .i64 0, .string ⟨#[]⟩, .int .i64 0], .slice none 0 0], []⟩ 8 (by kernel_rfl) (by kernel_rfl) (by kernel_rfl) (by kernel_rfl))
    rfl rfl (by kernel_rfl) (by kernel_rfl) (by kernel_rfl) (fun ds h => ?_) ?_
  · rw [Try.params5] at h
    match ds, h with
    | [_, _], _ => rfl
  intro W base args ds ps hval hA hsz
  rw [Try.params5] at hA hval
  obtain ⟨v0, v1, d0, d1, q0, q1, hargs, rfl, rfl, h0, h1⟩ := trodAll_two hA
  subst hargs
  obtain ⟨c0, rfl, l0⟩ := open_struct (l := [3, 3, 3, 3, 9, 3]) 6 Try.underlying28 (by kernel_rfl) (hval 0 28 v0 rfl rfl) h0
  obtain ⟨a0_0, a0_1, a0_2, a0_3, a0_4, a0_5, rfl, l0_0, l0_1, l0_2, l0_3, l0_4, l0_5⟩ := allLeaf_list6 l0
  obtain ⟨a0_0, rfl, ba0_0⟩ := leaf_int Try.underlying3 l0_0
  replace ba0_0 := bnd_i64 ba0_0
  obtain ⟨a0_1, rfl, ba0_1⟩ := leaf_int Try.underlying3 l0_1
  replace ba0_1 := bnd_i64 ba0_1
  obtain ⟨a0_2, rfl, ba0_2⟩ := leaf_int Try.underlying3 l0_2
  replace ba0_2 := bnd_i64 ba0_2
  obtain ⟨a0_3, rfl, ba0_3⟩ := leaf_int Try.underlying3 l0_3
  replace ba0_3 := bnd_i64 ba0_3
  obtain ⟨a0_4, rfl, ba0_4⟩ := leaf_string Try.underlying9 l0_4
  obtain ⟨a0_5, rfl, ba0_5⟩ := leaf_int Try.underlying3 l0_5
  replace ba0_5 := bnd_i64 ba0_5
  obtain ⟨xs1, hr1, hx1⟩ := open_rows (l := [3, 3]) 6 Try.underlying33 (by kernel_rfl) (by kernel_rfl) (by decide) (hval 1 33 v1 rfl rfl) h1
  obtain ⟨ys1, rfl, hy1⟩ := rows_map (enc' := st2) (q := fun _ => True) (fun r hr => by
    obtain ⟨u0, u1, rfl, l0, l1⟩ := allLeaf_list2 hr
    obtain ⟨n0, rfl, e0⟩ := leaf_int Try.underlying3 l0
    obtain ⟨n1, rfl, e1⟩ := leaf_int Try.underlying3 l1
    exact ⟨⟨n0, n1⟩, rfl, trivial⟩) xs1 hx1
  exact law_done (if h : Pok ⟨a0_0, a0_1, a0_2, a0_3, a0_4.data.toList, a0_5⟩ then over_ok ⟨a0_0, a0_1, a0_2, a0_3, a0_4.data.toList, a0_5⟩ _ ys1 W hr1 h else over_no ⟨a0_0, a0_1, a0_2, a0_3, a0_4.data.toList, a0_5⟩ _ ys1 W hr1 h)
theorem healthOver_holds : Rows.HealthOverSaid :=
  OpenClaim.holds_of_wide 5 Try.f5 rfl rfl rfl rfl rfl rfl rfl ⟨rfl, rfl, rfl, rfl, rfl⟩ rfl rfl rfl rfl rfl (by kernel_rfl) Try.func5 (by kernel_rfl)
    (of_decide_eq_true (by kernel_rfl)) (by unfold Func.isWrapper; first | (rw [if_pos (by decide +kernel)]; kernel_rfl) | (rw [if_neg (by decide +kernel)]; exact ⟨rfl, rfl⟩))
    (fun os started H enc _ => healthOver_lifted os started H enc)
end Go.Proofs.Ytomdccdffennfaa
