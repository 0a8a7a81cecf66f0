/- HealthLasts: what a check is told, of which tellings last, it is till as many ticks have gone by, and is critical then: true at every input, with no condition. -/
import Derived.Test.YtomdccdffennfaaE
import Derived.Test.YtomdccdffennfaaK7
import Derived.Test.YtomdccdffennfaaRows
set_option linter.unusedSimpArgs false
set_option linter.unusedVariables false
set_option maxRecDepth 100000
set_option maxHeartbeats 1000000
namespace Go.Proofs.Ytomdccdffennfaa
open Go.RowKit Go.ChangeShapes Go.WideShapes Go.ChangeAt
@[reducible] def st2 (y : Int × Int) : List Value := [.int .i64 y.1, .int .i64 y.2]
theorem tick_p {c : Ck} (h : c.p.kind = 1) (hm : c.maint = false) (ha : c.age + 1 < c.p.lasts) : (tickC c).bare = c.bare ∧ (tickC c).age = c.age + 1 ∧ (tickC c).maint = false ∧ (tickC c).p = c.p := by
  rw [tick_of (tick1_b h ha)]
  exact ⟨rfl, rfl, hm, rfl⟩
theorem tick_l {c : Ck} (h : c.p.kind = 1) (hm : c.maint = false) (ha : c.p.lasts ≤ c.age + 1) : (tickC c).bare = 2 ∧ (tickC c).age = c.age + 1 ∧ (tickC c).maint = false ∧ (tickC c).p = c.p := by
  rw [tick_of (tick1_a h ha)]
  exact ⟨rfl, rfl, hm, rfl⟩
theorem lasts_any (n q : Int) (v : Value) (ys : List (Int × Int)) (w : World) (hr : RdRow w v 2 (ys.map st2)) (hn : 0 ≤ n ∧ n ≤ 255) (hq : 0 ≤ q ∧ q ≤ 255) : Ret Try.prog 4 #[.int .u8 n, .int .u8 q, v] w fun v w' => v = .bool true ∧ St w [] [] w' := by
  have hS := St.init0 w
  obtain ⟨bl, ol, cl, hvl, hmaxl, hcl, hltl⟩ := hr.open
  simp only [List.length_map] at hvl hmaxl
  generalize hpe : (⟨1, 1 + n, 0, 0, [], 0⟩ : Pl) = p
  have hp : Pok p := by subst hpe; unfold Pok; dsimp only; exact ⟨by omega, .inl ⟨rfl, by omega, by omega, rfl, rfl, rfl⟩⟩
  have hpk : p.kind = 1 := by subst hpe; rfl
  have hpl : p.lasts = 1 + n := by subst hpe; rfl
  have hk : ¬ p.kind = 0 := by omega
  generalize hf0 : fv ⟨p, 2, 0, 0, 0, 0, false⟩ = f
  have hbz : Bd 0 ⟨⟨0, 0, 0, 0, [], 0⟩, 0, 0, 0, 0, 0, false⟩ := by simp [Bd]
  refine Ret.enter Try.func4 Try.ntmps4 rfl rfl ?_
  simp only [argEnv, Nat.reduceAdd]
  refine SatC.seq ?_
  refine SatC.region ?_
  refine SatL.pu (RunV.assign rfl) rfl ?_
  refine SatL.nil (SatE.thenC ?_)
  refine SatC.seq ?_
  refine SatC.region ?_
  refine SatL.pu (RunV.move rfl) rfl ?_
  refine SatL.pu (RunV.conv rfl rfl rfl (by first | exact wrapI64 (by omega) | rfl)) rfl ?_
  refine SatL.pu (RunV.add rfl rfl (by first | exact wrapI64 (by omega) | rfl)) rfl ?_
  refine SatL.pu (RunV.assign rfl) rfl ?_
  refine SatL.nil (SatE.thenC ?_)
  refine SatC.seq ?_
  refine SatC.region ?_
  refine SatL.pu (RunV.move rfl) rfl ?_
  refine SatL.pu (RunV.build rfl (by simp [go_sem]; try rfl)) rfl ?_
  refine SatL.op rfl (OpW.enter rfl rfl rfl (rfl) ((show Ret Try.prog 8 #[.agg #[.int .i64 1, .int .i64 (1 + n), .int .i64 0, .int .i64 0, .string ⟨#[]⟩, .int .i64 0]] _ _ from hpe ▸ new_any p _ hp)) ?_)
  rintro r1 w1 ⟨b, rfl, h⟩
  replace hS := hS.call0 h
  rw [hpe, hf0] at hS
  refine SatL.pu (RunV.move rfl) rfl ?_
  refine SatL.pu (RunV.extract rfl rfl) rfl ?_
  refine SatL.pu (RunV.extract rfl rfl) rfl ?_
  refine SatL.pu (RunV.assign rfl) rfl ?_
  refine SatL.pu (RunV.assign rfl) rfl ?_
  refine SatL.nil (SatE.thenC ?_)
  refine SatC.seq ?_
  refine SatC.seq ?_
  refine SatC.region ?_
  refine SatL.pu (RunV.move rfl) rfl ?_
  refine SatL.pu (RunV.neq rfl rfl) rfl ?_
  refine SatL.nil (SatE.thenC ?_)
  refine SatC.weak (e' := [(1, _), (2, _), (6, _), (7, _), (8, _), (23, _)]) (by repeat constructor) ?_
  refine SatC.cond rfl (fun h1 => ?_) (fun h1 => ?_)
  · (try simp only [cx, ne_eq, ne_eq] at h1)
    try (exfalso; (first | omega | exact h1 trivial | contradiction | exact absurd rfl h1 | exact absurd hta h1); done)
    all_goals
    refine SatC.seq ?_
    refine SatC.region ?_
    refine SatL.pu (RunV.assign rfl) rfl ?_
    refine SatL.nil (SatE.thenC ?_)
    refine SatC.ret (SatE.then_ret ?_)
    refine SatE.ret1 rfl rfl ?_
    exact ⟨by first | rfl | simp, hS.sub (List.nil_sublist _)⟩
  · (try simp only [cx, ne_eq, ne_eq] at h1)
    try (exfalso; (first | omega | exact h1 trivial | contradiction | exact absurd rfl h1 | exact absurd hta h1); done)
    all_goals
    refine SatC.skip (SatE.thenC ?_)
    refine SatC.seq ?_
    refine SatC.seq ?_
    refine SatC.region ?_
    refine SatL.pu (RunV.assign rfl) rfl ?_
    refine SatL.nil (SatE.thenC ?_)
    refine SatC.block ?_
    refine SatC.loopK (G := Nat × Ck) (V := fun ⟨i, c⟩ => [(10, .int .i64 (i : Int))]) (Cn := [(1, _), (2, _), (6, _), (7, _), (8, _)]) (I := fun ⟨i, c⟩ w' => i ≤ ys.length ∧ i ≤ 40 ∧ c.p = p ∧ Bd i c ∧ St w [] [(b, C 49 (hc f c))] w') (μ := fun ⟨i, c⟩ => ys.length - i) (0, ⟨p, 2, 0, 0, 0, 0, false⟩) ?_ (by repeat constructor) ?_
    · exact ⟨Nat.zero_le _, by omega, rfl, by simp [Bd], hS⟩
    clear hS
    rintro ⟨i, c⟩ w2 ⟨hi, hi1, hcp, hb, hS⟩
    refine SatC.weak (e' := [(1, _), (2, _), (6, _), (7, _), (8, _), (10, _)]) (by repeat constructor) ?_
    refine SatC.seq ?_
    refine SatC.seq ?_
    refine SatC.region ?_
    refine SatL.pu (RunV.move rfl) rfl ?_
    refine SatL.pu (RunV.move rfl) rfl ?_
    first | refine SatL.pu (RunV.lenR (by assumption) rfl rfl) rfl ?_ | refine SatL.pu (RunV.lenS rfl rfl) rfl ?_
    refine SatL.pu (RunV.lss rfl rfl) rfl ?_
    refine SatL.pu (RunV.move rfl) rfl ?_
    refine SatL.guard rfl rfl rfl (fun h2 => ?_) (fun h2 => ?_)
    · (try simp only [cx, ne_eq, ne_eq] at h2)
      try (exfalso; (first | omega | exact h2 trivial | contradiction | exact absurd rfl h2 | exact absurd hta h2); done)
      all_goals
      refine SatL.pu (RunV.move rfl) rfl ?_
      refine SatL.guard_y rfl rfl ?_
      refine SatL.pu (RunV.lss rfl rfl) rfl ?_
      refine SatL.pu (RunV.pick_t rfl rfl) rfl ?_
      refine SatL.nil (SatE.thenC ?_)
      refine SatC.cond rfl (fun h3 => ?_) (fun h3 => ?_)
      · (try simp only [cx, ne_eq, ne_eq] at h3)
        try (exfalso; (first | omega | exact h3 trivial | contradiction | exact absurd rfl h3 | exact absurd hta h3); done)
        all_goals
        refine SatC.skip (SatE.thenC ?_)
        refine SatC.seq ?_
        refine SatC.block ?_
        obtain ⟨y, hy⟩ := get_some ys i (by omega)
        refine SatC.region ?_
        refine SatL.pu (RunV.move rfl) rfl ?_
        refine SatL.pu (RunV.build rfl (by simp [go_sem]; try rfl)) rfl ?_
        refine SatL.op rfl (OpW.box hS rfl rfl (by repeat constructor) ?_)
        clear hS
        intro b36 w3 _ hS
        refine SatL.pu (RunV.move rfl) rfl ?_
        refine SatL.pu (RunV.move rfl) rfl ?_
        first | refine SatL.pu (RunV.indexR (by assumption) rfl rfl rfl (by omega) (by omega) rfl) rfl ?_ | refine SatL.pu (RunV.indexS rfl rfl rfl (by omega) (by omega) rfl) rfl ?_
        first | refine SatL.pu (RunV.loadRNz (RdC.st (by assumption) hS List.not_mem_nil) rfl rfl (by first | assumption | exact map_get (by assumption))) rfl ?_ | refine SatL.pu (RunV.loadRNz (Sl.rd (by assumption) hS (by repeat constructor)) rfl rfl (by first | assumption | exact map_get (by assumption))) rfl ?_
        refine SatL.op rfl (OpW.enter rfl rfl rfl (rfl) (step_any (f := f) (c := c) (d := ⟨⟨0, 0, 0, 0, [], 0⟩, 0, 0, 0, 0, 0, false⟩) _ _ (by rw [← hf0]; exact fv_p hcp.symm) (hS.ownT (by repeat constructor)) (by rw [hcp]; exact hk) (hb.le (by omega)) (hbz.le (by omega))) ?_)
        rintro r4 w4 ⟨rfl, h⟩
        replace hS := hS.callT (A := [(b, C 49 (hc f c)), (b36, C 37 (rc ⟨⟨0, 0, 0, 0, [], 0⟩, 0, 0, 0, 0, 0, false⟩))]) (by repeat constructor) h
        have hb2 := stepC_bd (k := y.1) (n := y.2) hb
        have hp2 := stepC_p c y.1 y.2
        rw [hcp] at hp2
        generalize stepC c y.1 y.2 = c2 at *
        refine SatL.nil (SatE.blk_normal (SatE.thenC ?_))
        refine SatC.weak (e' := [(1, _), (2, _), (6, _), (7, _), (8, _), (10, _)]) (by repeat constructor) ?_
        refine SatC.region ?_
        refine SatL.pu (RunV.move rfl) rfl ?_
        refine SatL.pu (RunV.add rfl rfl (by first | exact wrapI64 (by omega) | rfl)) rfl ?_
        refine SatL.pu (RunV.assign rfl) rfl ?_
        refine SatL.nil ?_
        refine SatE.again ((i + 1, c2)) ?_ (by first | omega | (dsimp only; omega)) (by repeat constructor)
        exact ⟨by omega, by omega, hp2, hb2, hS.sel (by repeat constructor)⟩
      · (try simp only [cx, ne_eq, ne_eq] at h3)
        try (exfalso; (first | omega | exact h3 trivial | contradiction | exact absurd rfl h3 | exact absurd hta h3); done)
        all_goals
        refine SatC.exit (SatE.then_exit (SatE.then_exit (SatE.blk_exit (SatE.thenC ?_))))
        refine SatC.seq ?_
        refine SatC.region ?_
        refine SatL.pu (RunV.move rfl) rfl ?_
        refine SatL.op rfl (OpW.enter rfl rfl rfl (rfl) (maint_any (c := c) false (hS.ownT (by repeat constructor)) (by rw [hcp]; exact hk)) ?_)
        rintro r3 w3 h
        replace hS := hS.callT (A := [(b, C 49 (hc f c))]) (by repeat constructor) h
        refine SatL.nil (SatE.thenC ?_)
        refine SatC.seq ?_
        refine SatC.weak (e' := [(1, _), (6, _), (7, _), (8, _)]) (by repeat constructor) ?_
        refine SatC.region ?_
        refine SatL.pu (RunV.move rfl) rfl ?_
        refine SatL.pu (RunV.remP rfl rfl (by omega) (by decide)) rfl ?_
        refine SatL.pu (RunV.conv rfl rfl rfl (by first | exact wrapI64 (by omega) | rfl)) rfl ?_
        refine SatL.pu (RunV.assign rfl) rfl ?_
        refine SatL.nil (SatE.thenC ?_)
        refine SatC.seq ?_
        refine SatC.seq ?_
        refine SatC.region ?_
        refine SatL.pu (RunV.move rfl) rfl ?_
        refine SatL.pu (RunV.move rfl) rfl ?_
        refine SatL.op rfl (OpW.enter rfl rfl rfl (rfl) (told_any (f := f) (c := { c with maint := false }) _ (by rw [← hf0]; exact fv_p hcp.symm) (hS.ownT (by repeat constructor)) (by dsimp only; rw [hcp]; exact hk) (hb.le (by omega))) ?_)
        rintro r4 w4 ⟨rfl, h⟩
        replace hS := hS.callT (A := [(b, C 49 (hc f { c with maint := false }))]) (by repeat constructor) h
        have hnb : ¬ bad { c with maint := false } (q % 3) := (by unfold bad; dsimp only; rw [hcp]; omega)
        have hta : toldA { c with maint := false } (q % 3) = 0 := (by rw [toldA, if_neg hnb])
        have htc : toldC { c with maint := false } (q % 3) = { c with maint := false, bare := q % 3, age := 0 } := (by rw [toldC, if_neg hnb, if_pos (by dsimp only; rw [hcp]; exact hpk)])
        rw [htc] at hS
        refine SatL.pu (RunV.neq rfl rfl) rfl ?_
        refine SatL.nil (SatE.thenC ?_)
        refine SatC.cond rfl (fun h4 => ?_) (fun h4 => ?_)
        · (try simp only [cx, ne_eq, ne_eq] at h4)
          try (exfalso; (first | omega | exact h4 trivial | contradiction | exact absurd rfl h4 | exact absurd hta h4); done)
          all_goals
          refine SatC.seq ?_
          refine SatC.region ?_
          refine SatL.pu (RunV.assign rfl) rfl ?_
          refine SatL.nil (SatE.thenC ?_)
          refine SatC.ret (SatE.then_ret ?_)
          refine SatE.ret1 rfl rfl ?_
          exact ⟨by first | rfl | simp, hS.sub (List.nil_sublist _)⟩
        · (try simp only [cx, ne_eq, ne_eq] at h4)
          try (exfalso; (first | omega | exact h4 trivial | contradiction | exact absurd rfl h4 | exact absurd hta h4); done)
          all_goals
          refine SatC.skip (SatE.thenC ?_)
          refine SatC.seq ?_
          refine SatC.seq ?_
          refine SatC.region ?_
          refine SatL.pu (RunV.assign rfl) rfl ?_
          refine SatL.nil (SatE.thenC ?_)
          refine SatC.block ?_
          refine SatC.loopK (G := Nat × Ck) (V := fun ⟨i, e⟩ => [(12, .int .i64 (i : Int))]) (Cn := [(7, _), (8, _), (11, _), (6, _)]) (I := fun ⟨i, e⟩ w' => (i : Int) ≤ 1 + n ∧ e.p = p ∧ e.age = i ∧ e.maint = false ∧ e.bare = (if (i : Int) = 1 + n then 2 else q % 3) ∧ Bd (100 + i) e ∧ St w [] [(b, C 49 (hc f e))] w') (μ := fun ⟨i, e⟩ => 300 - i) (0, { c with maint := false, bare := q % 3, age := 0 }) ?_ (by repeat constructor) ?_
          · exact ⟨by omega, hcp, rfl, rfl, by rw [if_neg (by omega)], by unfold Bd at *; dsimp only; omega, hS⟩
          clear hS
          rintro ⟨i, e⟩ w5 ⟨hi2, hep, hea, hem, heb, he, hS⟩
          refine SatC.weak (e' := [(6, _), (7, _), (8, _), (11, _), (12, _)]) (by repeat constructor) ?_
          refine SatC.seq ?_
          refine SatC.seq ?_
          refine SatC.region ?_
          refine SatL.pu (RunV.move rfl) rfl ?_
          refine SatL.pu (RunV.move rfl) rfl ?_
          refine SatL.pu (RunV.lss rfl rfl) rfl ?_
          refine SatL.nil (SatE.thenC ?_)
          refine SatC.cond rfl (fun h5 => ?_) (fun h5 => ?_)
          · (try simp only [cx, ne_eq, ne_eq] at h5)
            try (exfalso; (first | omega | exact h5 trivial | contradiction | exact absurd rfl h5 | exact absurd hta h5); done)
            all_goals
            refine SatC.skip (SatE.thenC ?_)
            refine SatC.seq ?_
            refine SatC.block ?_
            refine SatC.seq ?_
            refine SatC.seq ?_
            have hst : stat e = q % 3 := by
              unfold stat
              rw [hem, heb]
              simp only [Bool.false_eq_true, if_false]
              exact if_neg (by omega)
            refine SatC.region ?_
            refine SatL.pu (RunV.move rfl) rfl ?_
            refine SatL.op rfl (OpW.enter rfl rfl rfl (rfl) (stat_any (c := e) (hS.ownT (by repeat constructor)) (by rw [hep]; exact hk)) ?_)
            rintro r6 w6 ⟨rfl, h⟩
            replace hS := St.callN hS h
            refine SatL.pu (RunV.move rfl) rfl ?_
            refine SatL.pu (RunV.neq rfl rfl) rfl ?_
            refine SatL.nil (SatE.thenC ?_)
            refine SatC.cond rfl (fun h6 => ?_) (fun h6 => ?_)
            · (try simp only [cx, ne_eq, ne_eq] at h6)
              try (exfalso; (first | omega | exact h6 trivial | contradiction | exact absurd rfl h6 | exact absurd hta h6); done)
              all_goals
              refine SatC.seq ?_
              refine SatC.region ?_
              refine SatL.pu (RunV.assign rfl) rfl ?_
              refine SatL.nil (SatE.thenC ?_)
              refine SatC.ret (SatE.then_ret (SatE.blk_ret (SatE.then_ret (SatE.then_ret (SatE.blk_ret (SatE.then_ret ?_))))))
              refine SatE.ret1 rfl rfl ?_
              exact ⟨by first | rfl | simp, hS.sub (List.nil_sublist _)⟩
            · (try simp only [cx, ne_eq, ne_eq] at h6)
              try (exfalso; (first | omega | exact h6 trivial | contradiction | exact absurd rfl h6 | exact absurd hta h6); done)
              all_goals
              refine SatC.skip (SatE.thenC ?_)
              skip
              refine SatC.region ?_
              refine SatL.pu (RunV.move rfl) rfl ?_
              refine SatL.op rfl (OpW.enter rfl rfl rfl (rfl) (tick_any (c := e) (hS.ownT (by repeat constructor)) (by rw [hep]; exact hk) (he.le (by omega))) ?_)
              rintro r7 w7 ⟨rfl, h⟩
              replace hS := hS.callT (A := [(b, C 49 (hc f e))]) (by repeat constructor) h
              refine SatL.nil (SatE.blk_normal (SatE.thenC ?_))
              refine SatC.region ?_
              refine SatL.pu (RunV.move rfl) rfl ?_
              refine SatL.pu (RunV.add rfl rfl (by first | exact wrapI64 (by omega) | rfl)) rfl ?_
              refine SatL.pu (RunV.assign rfl) rfl ?_
              refine SatL.nil ?_
              refine SatE.again ((i + 1, tickC e)) ?_ (by first | omega | (dsimp only; omega)) (by repeat constructor)
              have hb3 := tickC_bd he
              have ht : (tickC e).bare = (if ((i + 1 : Nat) : Int) = 1 + n then 2 else q % 3) ∧ (tickC e).age = e.age + 1 ∧ (tickC e).maint = false ∧ (tickC e).p = e.p := by
                by_cases hx : ((i + 1 : Nat) : Int) = 1 + n
                · rw [if_pos hx]
                  exact tick_l (by rw [hep]; exact hpk) hem (by rw [hep, hpl]; omega)
                · rw [if_neg hx]
                  have := tick_p (c := e) (by rw [hep]; exact hpk) hem (by rw [hep, hpl]; omega)
                  rw [heb, if_neg (by omega)] at this
                  exact this
              exact ⟨by omega, by rw [ht.2.2.2, hep], by rw [ht.2.1]; omega, ht.2.2.1, ht.1, hb3.le (by omega), hS.sel (by repeat constructor)⟩
          · (try simp only [cx, ne_eq, ne_eq] at h5)
            try (exfalso; (first | omega | exact h5 trivial | contradiction | exact absurd rfl h5 | exact absurd hta h5); done)
            all_goals
            refine SatC.exit (SatE.then_exit (SatE.then_exit (SatE.blk_exit (SatE.thenC ?_))))
            refine SatC.seq ?_
            have hst : stat e = 2 := by
              unfold stat
              rw [hem, heb]
              simp only [Bool.false_eq_true, if_false]
              exact if_pos (by omega)
            refine SatC.region ?_
            refine SatL.pu (RunV.move rfl) rfl ?_
            refine SatL.op rfl (OpW.enter rfl rfl rfl (rfl) (stat_any (c := e) (hS.ownT (by repeat constructor)) (by rw [hep]; exact hk)) ?_)
            rintro r6 w6 ⟨rfl, h⟩
            replace hS := St.callN hS h
            refine SatL.pu (RunV.eql rfl rfl) rfl ?_
            refine SatL.pu (RunV.move rfl) rfl ?_
            refine SatL.guard rfl rfl rfl (fun h6 => ?_) (fun h6 => ?_)
            · (try simp only [cx, ne_eq, ne_eq] at h6)
              try (exfalso; (first | omega | exact h6 trivial | contradiction | exact absurd rfl h6 | exact absurd hta h6); done)
              all_goals
              refine SatL.op rfl (OpW.enter rfl rfl rfl (rfl) (works_any _) ?_)
              rintro r7 w7 ⟨rfl, h⟩
              replace hS := St.callN hS h
              refine SatL.pu (RunV.pick_t rfl rfl) rfl ?_
              refine SatL.pu (RunV.assign rfl) rfl ?_
              refine SatL.nil (SatE.thenC ?_)
              refine SatC.ret ?_
              refine SatE.ret1 rfl rfl ?_
              exact ⟨by first | rfl | simp, hS.sub (List.nil_sublist _)⟩
            · (try simp only [cx, ne_eq, ne_eq] at h6)
              try (exfalso; (first | omega | exact h6 trivial | contradiction | exact absurd rfl h6 | exact absurd hta h6); done)
              all_goals
              refine SatL.pu (RunV.pick_f rfl rfl) rfl ?_
              refine SatL.pu (RunV.assign rfl) rfl ?_
              refine SatL.nil (SatE.thenC ?_)
              refine SatC.ret ?_
              refine SatE.ret1 rfl rfl ?_
              exact ⟨by first | rfl | simp, hS.sub (List.nil_sublist _)⟩
    · (try simp only [cx, ne_eq, ne_eq] at h2)
      try (exfalso; (first | omega | exact h2 trivial | contradiction | exact absurd rfl h2 | exact absurd hta h2); done)
      all_goals
      refine SatL.guard_n rfl rfl rfl rfl ?_
      refine SatL.pu (RunV.pick_f rfl rfl) rfl ?_
      refine SatL.nil (SatE.thenC ?_)
      refine SatC.cond_f rfl ?_
      refine SatC.exit (SatE.then_exit (SatE.then_exit (SatE.blk_exit (SatE.thenC ?_))))
      refine SatC.seq ?_
      refine SatC.region ?_
      refine SatL.pu (RunV.move rfl) rfl ?_
      refine SatL.op rfl (OpW.enter rfl rfl rfl (rfl) (maint_any (c := c) false (hS.ownT (by repeat constructor)) (by rw [hcp]; exact hk)) ?_)
      rintro r3 w3 h
      replace hS := hS.callT (A := [(b, C 49 (hc f c))]) (by repeat constructor) h
      refine SatL.nil (SatE.thenC ?_)
      refine SatC.seq ?_
      refine SatC.weak (e' := [(1, _), (6, _), (7, _), (8, _)]) (by repeat constructor) ?_
      refine SatC.region ?_
      refine SatL.pu (RunV.move rfl) rfl ?_
      refine SatL.pu (RunV.remP rfl rfl (by omega) (by decide)) rfl ?_
      refine SatL.pu (RunV.conv rfl rfl rfl (by first | exact wrapI64 (by omega) | rfl)) rfl ?_
      refine SatL.pu (RunV.assign rfl) rfl ?_
      refine SatL.nil (SatE.thenC ?_)
      refine SatC.seq ?_
      refine SatC.seq ?_
      refine SatC.region ?_
      refine SatL.pu (RunV.move rfl) rfl ?_
      refine SatL.pu (RunV.move rfl) rfl ?_
      refine SatL.op rfl (OpW.enter rfl rfl rfl (rfl) (told_any (f := f) (c := { c with maint := false }) _ (by rw [← hf0]; exact fv_p hcp.symm) (hS.ownT (by repeat constructor)) (by dsimp only; rw [hcp]; exact hk) (hb.le (by omega))) ?_)
      rintro r4 w4 ⟨rfl, h⟩
      replace hS := hS.callT (A := [(b, C 49 (hc f { c with maint := false }))]) (by repeat constructor) h
      have hnb : ¬ bad { c with maint := false } (q % 3) := (by unfold bad; dsimp only; rw [hcp]; omega)
      have hta : toldA { c with maint := false } (q % 3) = 0 := (by rw [toldA, if_neg hnb])
      have htc : toldC { c with maint := false } (q % 3) = { c with maint := false, bare := q % 3, age := 0 } := (by rw [toldC, if_neg hnb, if_pos (by dsimp only; rw [hcp]; exact hpk)])
      rw [htc] at hS
      refine SatL.pu (RunV.neq rfl rfl) rfl ?_
      refine SatL.nil (SatE.thenC ?_)
      refine SatC.cond rfl (fun h3 => ?_) (fun h3 => ?_)
      · (try simp only [cx, ne_eq, ne_eq] at h3)
        try (exfalso; (first | omega | exact h3 trivial | contradiction | exact absurd rfl h3 | exact absurd hta h3); done)
        all_goals
        refine SatC.seq ?_
        refine SatC.region ?_
        refine SatL.pu (RunV.assign rfl) rfl ?_
        refine SatL.nil (SatE.thenC ?_)
        refine SatC.ret (SatE.then_ret ?_)
        refine SatE.ret1 rfl rfl ?_
        exact ⟨by first | rfl | simp, hS.sub (List.nil_sublist _)⟩
      · (try simp only [cx, ne_eq, ne_eq] at h3)
        try (exfalso; (first | omega | exact h3 trivial | contradiction | exact absurd rfl h3 | exact absurd hta h3); done)
        all_goals
        refine SatC.skip (SatE.thenC ?_)
        refine SatC.seq ?_
        refine SatC.seq ?_
        refine SatC.region ?_
        refine SatL.pu (RunV.assign rfl) rfl ?_
        refine SatL.nil (SatE.thenC ?_)
        refine SatC.block ?_
        refine SatC.loopK (G := Nat × Ck) (V := fun ⟨i, e⟩ => [(12, .int .i64 (i : Int))]) (Cn := [(7, _), (8, _), (11, _), (6, _)]) (I := fun ⟨i, e⟩ w' => (i : Int) ≤ 1 + n ∧ e.p = p ∧ e.age = i ∧ e.maint = false ∧ e.bare = (if (i : Int) = 1 + n then 2 else q % 3) ∧ Bd (100 + i) e ∧ St w [] [(b, C 49 (hc f e))] w') (μ := fun ⟨i, e⟩ => 300 - i) (0, { c with maint := false, bare := q % 3, age := 0 }) ?_ (by repeat constructor) ?_
        · exact ⟨by omega, hcp, rfl, rfl, by rw [if_neg (by omega)], by unfold Bd at *; dsimp only; omega, hS⟩
        clear hS
        rintro ⟨i, e⟩ w5 ⟨hi2, hep, hea, hem, heb, he, hS⟩
        refine SatC.weak (e' := [(6, _), (7, _), (8, _), (11, _), (12, _)]) (by repeat constructor) ?_
        refine SatC.seq ?_
        refine SatC.seq ?_
        refine SatC.region ?_
        refine SatL.pu (RunV.move rfl) rfl ?_
        refine SatL.pu (RunV.move rfl) rfl ?_
        refine SatL.pu (RunV.lss rfl rfl) rfl ?_
        refine SatL.nil (SatE.thenC ?_)
        refine SatC.cond rfl (fun h4 => ?_) (fun h4 => ?_)
        · (try simp only [cx, ne_eq, ne_eq] at h4)
          try (exfalso; (first | omega | exact h4 trivial | contradiction | exact absurd rfl h4 | exact absurd hta h4); done)
          all_goals
          refine SatC.skip (SatE.thenC ?_)
          refine SatC.seq ?_
          refine SatC.block ?_
          refine SatC.seq ?_
          refine SatC.seq ?_
          have hst : stat e = q % 3 := by
            unfold stat
            rw [hem, heb]
            simp only [Bool.false_eq_true, if_false]
            exact if_neg (by omega)
          refine SatC.region ?_
          refine SatL.pu (RunV.move rfl) rfl ?_
          refine SatL.op rfl (OpW.enter rfl rfl rfl (rfl) (stat_any (c := e) (hS.ownT (by repeat constructor)) (by rw [hep]; exact hk)) ?_)
          rintro r6 w6 ⟨rfl, h⟩
          replace hS := St.callN hS h
          refine SatL.pu (RunV.move rfl) rfl ?_
          refine SatL.pu (RunV.neq rfl rfl) rfl ?_
          refine SatL.nil (SatE.thenC ?_)
          refine SatC.cond rfl (fun h5 => ?_) (fun h5 => ?_)
          · (try simp only [cx, ne_eq, ne_eq] at h5)
            try (exfalso; (first | omega | exact h5 trivial | contradiction | exact absurd rfl h5 | exact absurd hta h5); done)
            all_goals
            refine SatC.seq ?_
            refine SatC.region ?_
            refine SatL.pu (RunV.assign rfl) rfl ?_
            refine SatL.nil (SatE.thenC ?_)
            refine SatC.ret (SatE.then_ret (SatE.blk_ret (SatE.then_ret (SatE.then_ret (SatE.blk_ret (SatE.then_ret ?_))))))
            refine SatE.ret1 rfl rfl ?_
            exact ⟨by first | rfl | simp, hS.sub (List.nil_sublist _)⟩
          · (try simp only [cx, ne_eq, ne_eq] at h5)
            try (exfalso; (first | omega | exact h5 trivial | contradiction | exact absurd rfl h5 | exact absurd hta h5); done)
            all_goals
            refine SatC.skip (SatE.thenC ?_)
            skip
            refine SatC.region ?_
            refine SatL.pu (RunV.move rfl) rfl ?_
            refine SatL.op rfl (OpW.enter rfl rfl rfl (rfl) (tick_any (c := e) (hS.ownT (by repeat constructor)) (by rw [hep]; exact hk) (he.le (by omega))) ?_)
            rintro r7 w7 ⟨rfl, h⟩
            replace hS := hS.callT (A := [(b, C 49 (hc f e))]) (by repeat constructor) h
            refine SatL.nil (SatE.blk_normal (SatE.thenC ?_))
            refine SatC.region ?_
            refine SatL.pu (RunV.move rfl) rfl ?_
            refine SatL.pu (RunV.add rfl rfl (by first | exact wrapI64 (by omega) | rfl)) rfl ?_
            refine SatL.pu (RunV.assign rfl) rfl ?_
            refine SatL.nil ?_
            refine SatE.again ((i + 1, tickC e)) ?_ (by first | omega | (dsimp only; omega)) (by repeat constructor)
            have hb3 := tickC_bd he
            have ht : (tickC e).bare = (if ((i + 1 : Nat) : Int) = 1 + n then 2 else q % 3) ∧ (tickC e).age = e.age + 1 ∧ (tickC e).maint = false ∧ (tickC e).p = e.p := by
              by_cases hx : ((i + 1 : Nat) : Int) = 1 + n
              · rw [if_pos hx]
                exact tick_l (by rw [hep]; exact hpk) hem (by rw [hep, hpl]; omega)
              · rw [if_neg hx]
                have := tick_p (c := e) (by rw [hep]; exact hpk) hem (by rw [hep, hpl]; omega)
                rw [heb, if_neg (by omega)] at this
                exact this
            exact ⟨by omega, by rw [ht.2.2.2, hep], by rw [ht.2.1]; omega, ht.2.2.1, ht.1, hb3.le (by omega), hS.sel (by repeat constructor)⟩
        · (try simp only [cx, ne_eq, ne_eq] at h4)
          try (exfalso; (first | omega | exact h4 trivial | contradiction | exact absurd rfl h4 | exact absurd hta h4); done)
          all_goals
          refine SatC.exit (SatE.then_exit (SatE.then_exit (SatE.blk_exit (SatE.thenC ?_))))
          refine SatC.seq ?_
          have hst : stat e = 2 := by
            unfold stat
            rw [hem, heb]
            simp only [Bool.false_eq_true, if_false]
            exact if_pos (by omega)
          refine SatC.region ?_
          refine SatL.pu (RunV.move rfl) rfl ?_
          refine SatL.op rfl (OpW.enter rfl rfl rfl (rfl) (stat_any (c := e) (hS.ownT (by repeat constructor)) (by rw [hep]; exact hk)) ?_)
          rintro r6 w6 ⟨rfl, h⟩
          replace hS := St.callN hS h
          refine SatL.pu (RunV.eql rfl rfl) rfl ?_
          refine SatL.pu (RunV.move rfl) rfl ?_
          refine SatL.guard rfl rfl rfl (fun h5 => ?_) (fun h5 => ?_)
          · (try simp only [cx, ne_eq, ne_eq] at h5)
            try (exfalso; (first | omega | exact h5 trivial | contradiction | exact absurd rfl h5 | exact absurd hta h5); done)
            all_goals
            refine SatL.op rfl (OpW.enter rfl rfl rfl (rfl) (works_any _) ?_)
            rintro r7 w7 ⟨rfl, h⟩
            replace hS := St.callN hS h
            refine SatL.pu (RunV.pick_t rfl rfl) rfl ?_
            refine SatL.pu (RunV.assign rfl) rfl ?_
            refine SatL.nil (SatE.thenC ?_)
            refine SatC.ret ?_
            refine SatE.ret1 rfl rfl ?_
            exact ⟨by first | rfl | simp, hS.sub (List.nil_sublist _)⟩
          · (try simp only [cx, ne_eq, ne_eq] at h5)
            try (exfalso; (first | omega | exact h5 trivial | contradiction | exact absurd rfl h5 | exact absurd hta h5); done)
            all_goals
            refine SatL.pu (RunV.pick_f rfl rfl) rfl ?_
            refine SatL.pu (RunV.assign rfl) rfl ?_
            refine SatL.nil (SatE.thenC ?_)
            refine SatC.ret ?_
            refine SatE.ret1 rfl rfl ?_
            exact ⟨by first | rfl | simp, hS.sub (List.nil_sublist _)⟩
theorem healthLasts_lifted (os : Os) (started : os.Started) (H : Type) (enc : TypeId × Value → H) :
    ReturnsInHanded {} Try.checked os 4 .any (Rows.healthLastsSpec.pre6 enc Try.prog Try.f4 Rows.healthLastsRow.domain false) (Rows.healthLastsSpec.post enc Try.prog Try.f4 false true false false) := by
  refine law_returns (C := Try.checked) (b := 4) (by kernel_rfl) started (by kernel_rfl) Try.func4
    (ChangeSpec.witness6 (enc := enc) (C := Try.checked) false ⟨#[], #[.int .u8 0, .int .u8 0, .slice none 0 0], []⟩ 8 (by kernel_rfl) (by kernel_rfl) (by kernel_rfl) (by kernel_rfl))
    rfl rfl (by kernel_rfl) (by kernel_rfl) (by kernel_rfl) (fun ds h => ?_) ?_
  · rw [Try.params4] at h
    match ds, h with
    | [_, _, _], _ => rfl
  intro W base args ds ps hval hA hsz
  rw [Try.params4] at hA hval
  obtain ⟨v0, v1, v2, d0, d1, d2, q0, q1, q2, hargs, rfl, rfl, h0, h1, h2⟩ := trodAll_three hA
  subst hargs
  obtain ⟨a0, rfl, rfl, rfl, b0⟩ := open_int Try.underlying5 (hval 0 5 v0 rfl rfl) h0
  replace b0 := bnd_u8 b0
  obtain ⟨a1, rfl, rfl, rfl, b1⟩ := open_int Try.underlying5 (hval 1 5 v1 rfl rfl) h1
  replace b1 := bnd_u8 b1
  obtain ⟨xs2, hr2, hx2⟩ := open_rows (l := [3, 3]) 6 Try.underlying33 (by kernel_rfl) (by kernel_rfl) (by decide) (hval 2 33 v2 rfl rfl) h2
  obtain ⟨ys2, rfl, hy2⟩ := rows_map (enc' := st2) (q := fun _ => True) (fun r hr => by
    obtain ⟨u0, u1, rfl, l0, l1⟩ := allLeaf_list2 hr
    obtain ⟨n0, rfl, e0⟩ := leaf_int Try.underlying3 l0
    obtain ⟨n1, rfl, e1⟩ := leaf_int Try.underlying3 l1
    exact ⟨⟨n0, n1⟩, rfl, trivial⟩) xs2 hx2
  exact law_done (lasts_any a0 a1 _ ys2 W hr2 b0 b1)
theorem healthLasts_holds : Rows.HealthLastsSaid :=
  OpenClaim.holds_of_wide 4 Try.f4 rfl rfl rfl rfl rfl rfl rfl ⟨rfl, rfl, rfl, rfl, rfl⟩ rfl rfl rfl rfl rfl (by kernel_rfl) Try.func4 (by kernel_rfl)
    (of_decide_eq_true (by kernel_rfl)) (by unfold Func.isWrapper; first | (rw [if_pos (by decide +kernel)]; kernel_rfl) | (rw [if_neg (by decide +kernel)]; exact ⟨rfl, rfl⟩))
    (fun os started H enc _ => healthLasts_lifted os started H enc)
end Go.Proofs.Ytomdccdffennfaa
