/- HealthRows: a scripted check turns to passing only by as many good tellings in a row as its plan asks for, and from it only by as many others: true at every input, with no condition. -/
import Derived.Test.YtomdccdffennfaaE
import Derived.Test.YtomdccdffennfaaK7
import Derived.Test.YtomdccdffennfaaRows
set_option linter.unusedSimpArgs false
set_option linter.unusedVariables false
set_option maxRecDepth 100000
set_option maxHeartbeats 1000000
namespace Go.Proofs.Ytomdccdffennfaa
open Go.RowKit Go.ChangeShapes Go.WideShapes Go.ChangeAt
@[reducible] def bu (y : Int) : List Value := [.int .u8 y]
/-- What a check's rows say of the tellings so far. -/
def Told (ys : List Int) (k : Nat) (c : Ck) : Prop := (∀ j : Nat, (j : Int) < c.good → j < k ∧ ∀ y, ys[k - 1 - j]? = some y → y % 3 = 0) ∧ (∀ j : Nat, (j : Int) < c.other → j < k ∧ ∀ y, ys[k - 1 - j]? = some y → ¬ y % 3 = 0)
theorem told_next {ys : List Int} {k : Nat} {c : Ck} {y : Int} (h : Told ys k c) (hy : ys[k]? = some y) (hk2 : c.p.kind = 2) (hb : Bd k c) (h0 : 0 ≤ y) : toldC c (y % 3) = cntC c (y % 3) ∧ Told ys (k + 1) (cntC c (y % 3)) := by
  have hnb : ¬ bad c (y % 3) := by unfold bad; omega
  refine ⟨by rw [toldC, if_neg hnb, if_neg (by omega)], ?_⟩
  unfold cntC
  by_cases hz : y % 3 = 0
  · rw [if_pos hz]
    refine ⟨fun j hj => ?_, fun j hj => (by dsimp only at hj; omega)⟩
    dsimp only at hj
    rcases Nat.eq_zero_or_pos j with rfl | hp
    · refine ⟨by omega, fun z hzz => ?_⟩
      rw [show k + 1 - 1 - 0 = k by omega, hy] at hzz
      obtain rfl := Option.some.inj hzz
      exact hz
    · have := h.1 (j - 1) (by omega)
      refine ⟨by omega, fun z hzz => this.2 z ?_⟩
      rw [show k - 1 - (j - 1) = k + 1 - 1 - j by omega]
      exact hzz
  · rw [if_neg hz]
    refine ⟨fun j hj => (by dsimp only at hj; omega), fun j hj => ?_⟩
    dsimp only at hj
    rcases Nat.eq_zero_or_pos j with rfl | hp
    · refine ⟨by omega, fun z hzz => ?_⟩
      rw [show k + 1 - 1 - 0 = k by omega, hy] at hzz
      obtain rfl := Option.some.inj hzz
      exact hz
    · have := h.2 (j - 1) (by omega)
      refine ⟨by omega, fun z hzz => this.2 z ?_⟩
      rw [show k - 1 - (j - 1) = k + 1 - 1 - j by omega]
      exact hzz
theorem cnt_maint (c : Ck) (s : Int) : (cntC c s).maint = c.maint := by
  unfold cntC
  split <;> rfl
/-- A status that turned asks for a row. -/
theorem cnt_turn {c : Ck} {s : Int} (hm : c.maint = false) (hn : ¬ stat (cntC c s) = stat c) (h0 : 0 ≤ s) : (stat (cntC c s) = 0 → c.p.up ≤ (cntC c s).good) ∧ (¬ stat (cntC c s) = 0 → c.p.down ≤ (cntC c s).other) := by
  have e1 : stat c = c.bare := by unfold stat; rw [hm]; rfl
  have e2 : stat (cntC c s) = (cntC c s).bare := by unfold stat; rw [cnt_maint, hm]; rfl
  rw [e1, e2] at hn
  rw [e2]
  unfold cntC at *
  by_cases hz : s = 0
  · rw [if_pos hz] at hn ⊢
    dsimp only at hn ⊢
    split at hn <;> rename_i hu
    · exact ⟨fun _ => hu, fun h => by rw [if_pos hu] at h; omega⟩
    · omega
  · rw [if_neg hz] at hn ⊢
    dsimp only at hn ⊢
    split at hn <;> rename_i hu
    · exact ⟨fun h => by rw [if_pos hu] at h; omega, fun _ => hu⟩
    · omega
theorem row_at {ys : List Int} {i j : Nat} {c : Ck} {up down : Int} (hT : Told ys (i + 1) c) (hi : i < ys.length) (htu : (stat c = 0 → up ≤ c.good) ∧ (¬ stat c = 0 → down ≤ c.other)) (hj : (j : Int) < if stat c = 0 then up else down) :
    j ≤ i ∧ ∃ z, ys[((i : Int) - (j : Int)).toNat]? = some z ∧ (z % 3 = 0 ↔ stat c = 0) := by
  have key : j < i + 1 ∧ ∀ z, ys[i + 1 - 1 - j]? = some z → (z % 3 = 0 ↔ stat c = 0) := by
    by_cases h : stat c = 0
    · rw [if_pos h] at hj
      have := htu.1 h
      have := hT.1 j (by omega)
      exact ⟨this.1, fun z hz => ⟨fun _ => h, fun _ => this.2 z hz⟩⟩
    · rw [if_neg h] at hj
      have := htu.2 h
      have := hT.2 j (by omega)
      exact ⟨this.1, fun z hz => ⟨fun e => absurd e (this.2 z hz), fun e => absurd e h⟩⟩
  obtain ⟨z, hz⟩ := get_some ys (i - j) (by omega)
  refine ⟨by omega, z, ?_, key.2 z ?_⟩
  · rw [show ((i : Int) - (j : Int)).toNat = i - j by omega]; exact hz
  · rw [show i + 1 - 1 - j = i - j by omega]; exact hz
theorem rows_any (u d : Int) (v : Value) (ys : List Int) (w : World) (hr : RdRow w v 1 (ys.map bu)) (hu : 0 ≤ u ∧ u ≤ 255) (hd : 0 ≤ d ∧ d ≤ 255) (hys : ∀ y ∈ ys, 0 ≤ y ∧ y ≤ 255) : Ret Try.prog 3 #[.int .u8 u, .int .u8 d, v] w fun v w' => v = .bool true ∧ St w [] [] w' := by
  have hS := St.init0 w
  obtain ⟨bl, ol, cl, hvl, hmaxl, hcl, hltl⟩ := hr.open
  simp only [List.length_map] at hvl hmaxl
  generalize hpe : (⟨2, 0, 1 + u % 16, 1 + d % 16, [], 0⟩ : Pl) = p
  have hp : Pok p := by subst hpe; unfold Pok; dsimp only; exact ⟨by omega, .inr (.inl ⟨rfl, by omega, by omega, by omega, by omega, rfl, rfl⟩)⟩
  have hpk : p.kind = 2 := by subst hpe; rfl
  have hpu : p.up = 1 + u % 16 := by subst hpe; rfl
  have hpd : p.down = 1 + d % 16 := by subst hpe; rfl
  have hk : ¬ p.kind = 0 := by omega
  generalize hf0 : fv ⟨p, 2, 0, 0, 0, 0, false⟩ = f
  refine Ret.enter Try.func3 Try.ntmps3 rfl rfl ?_
  simp only [argEnv, Nat.reduceAdd]
  refine SatC.seq ?_
  refine SatC.region ?_
  refine SatL.pu (RunV.assign rfl) rfl ?_
  refine SatL.nil (SatE.thenC ?_)
  refine SatC.seq ?_
  refine SatC.region ?_
  refine SatL.pu (RunV.move rfl) rfl ?_
  refine SatL.pu (RunV.remP rfl rfl (by omega) (by decide)) rfl ?_
  refine SatL.pu (RunV.conv rfl rfl rfl (by first | exact wrapI64 (by omega) | rfl)) rfl ?_
  refine SatL.pu (RunV.add rfl rfl (by first | exact wrapI64 (by omega) | rfl)) rfl ?_
  refine SatL.pu (RunV.move rfl) rfl ?_
  refine SatL.pu (RunV.remP rfl rfl (by omega) (by decide)) rfl ?_
  refine SatL.pu (RunV.conv rfl rfl rfl (by first | exact wrapI64 (by omega) | rfl)) rfl ?_
  refine SatL.pu (RunV.add rfl rfl (by first | exact wrapI64 (by omega) | rfl)) rfl ?_
  refine SatL.pu (RunV.assign rfl) rfl ?_
  refine SatL.pu (RunV.assign rfl) rfl ?_
  refine SatL.nil (SatE.thenC ?_)
  refine SatC.seq ?_
  refine SatC.region ?_
  refine SatL.pu (RunV.move rfl) rfl ?_
  refine SatL.pu (RunV.move rfl) rfl ?_
  refine SatL.pu (RunV.build rfl (by simp [go_sem]; try rfl)) rfl ?_
  refine SatL.op rfl (OpW.enter rfl rfl rfl (rfl) ((show Ret Try.prog 8 #[.agg #[.int .i64 2, .int .i64 0, .int .i64 (1 + u % 16), .int .i64 (1 + d % 16), .string ⟨#[]⟩, .int .i64 0]] _ _ from hpe ▸ new_any p _ hp)) ?_)
  rintro r1 w1 ⟨b, rfl, h⟩
  replace hS := hS.call0 h
  rw [hpe, hf0] at hS
  refine SatL.pu (RunV.move rfl) rfl ?_
  refine SatL.pu (RunV.extract rfl rfl) rfl ?_
  refine SatL.pu (RunV.extract rfl rfl) rfl ?_
  refine SatL.pu (RunV.assign rfl) rfl ?_
  refine SatL.pu (RunV.assign rfl) rfl ?_
  refine SatL.nil (SatE.thenC ?_)
  refine SatC.seq ?_
  refine SatC.seq ?_
  refine SatC.weak (e' := [(2, _), (6, _), (7, _), (8, _), (9, _), (10, _)]) (by repeat constructor) ?_
  refine SatC.region ?_
  refine SatL.pu (RunV.move rfl) rfl ?_
  refine SatL.pu (RunV.neq rfl rfl) rfl ?_
  refine SatL.nil (SatE.thenC ?_)
  refine SatC.cond rfl (fun h1 => ?_) (fun h1 => ?_)
  · (try simp only [cx, ne_eq] at h1)
    try (exfalso; (first | omega | exact h1 trivial | contradiction | exact absurd rfl h1 | exact h1 (by rw [Bool.eq_iff_iff]; simp only [decide_eq_true_eq]; exact hzz)); done)
    all_goals
    refine SatC.seq ?_
    refine SatC.region ?_
    refine SatL.pu (RunV.assign rfl) rfl ?_
    refine SatL.nil (SatE.thenC ?_)
    refine SatC.ret (SatE.then_ret ?_)
    refine SatE.ret1 rfl rfl ?_
    exact ⟨by first | rfl | simp, hS.sub (List.nil_sublist _)⟩
  · (try simp only [cx, ne_eq] at h1)
    try (exfalso; (first | omega | exact h1 trivial | contradiction | exact absurd rfl h1 | exact h1 (by rw [Bool.eq_iff_iff]; simp only [decide_eq_true_eq]; exact hzz)); done)
    all_goals
    refine SatC.skip (SatE.thenC ?_)
    refine SatC.seq ?_
    refine SatC.seq ?_
    refine SatC.region ?_
    refine SatL.pu (RunV.assign rfl) rfl ?_
    refine SatL.nil (SatE.thenC ?_)
    refine SatC.block ?_
    refine SatC.loopK (G := Nat × Ck) (V := fun ⟨i, c⟩ => [(11, .int .i64 (i : Int))]) (Cn := [(2, _), (7, _), (8, _), (9, _), (6, _)]) (I := fun ⟨i, c⟩ w' => i ≤ ys.length ∧ i ≤ 60 ∧ c.p = p ∧ c.maint = false ∧ Bd i c ∧ Told ys i c ∧ St w [] [(b, C 49 (hc f c))] w') (μ := fun ⟨i, c⟩ => ys.length - i) (0, ⟨p, 2, 0, 0, 0, 0, false⟩) ?_ (by repeat constructor) ?_
    · exact ⟨Nat.zero_le _, by omega, rfl, rfl, by simp [Bd], ⟨fun j hj => by dsimp only at hj; omega, fun j hj => by dsimp only at hj; omega⟩, hS⟩
    clear hS
    rintro ⟨i, c⟩ w2 ⟨hi, hi1, hcp, hm, hb, hT, hS⟩
    refine SatC.weak (e' := [(2, _), (6, _), (7, _), (8, _), (9, _), (11, _)]) (by repeat constructor) ?_
    refine SatC.seq ?_
    refine SatC.seq ?_
    refine SatC.region ?_
    refine SatL.pu (RunV.move rfl) rfl ?_
    refine SatL.pu (RunV.move rfl) rfl ?_
    first | refine SatL.pu (RunV.lenR (by assumption) rfl rfl) rfl ?_ | refine SatL.pu (RunV.lenS rfl rfl) rfl ?_
    refine SatL.pu (RunV.lss rfl rfl) rfl ?_
    refine SatL.pu (RunV.move rfl) rfl ?_
    refine SatL.guard rfl rfl rfl (fun h2 => ?_) (fun h2 => ?_)
    · (try simp only [cx, ne_eq] at h2)
      try (exfalso; (first | omega | exact h2 trivial | contradiction | exact absurd rfl h2 | exact h2 (by rw [Bool.eq_iff_iff]; simp only [decide_eq_true_eq]; exact hzz)); done)
      all_goals
      refine SatL.pu (RunV.move rfl) rfl ?_
      refine SatL.guard_y rfl rfl ?_
      refine SatL.pu (RunV.lss rfl rfl) rfl ?_
      refine SatL.pu (RunV.pick_t rfl rfl) rfl ?_
      refine SatL.nil (SatE.thenC ?_)
      refine SatC.cond rfl (fun h3 => ?_) (fun h3 => ?_)
      · (try simp only [cx, ne_eq] at h3)
        try (exfalso; (first | omega | exact h3 trivial | contradiction | exact absurd rfl h3 | exact h3 (by rw [Bool.eq_iff_iff]; simp only [decide_eq_true_eq]; exact hzz)); done)
        all_goals
        refine SatC.skip (SatE.thenC ?_)
        refine SatC.seq ?_
        refine SatC.block ?_
        refine SatC.seq ?_
        obtain ⟨y, hy⟩ := get_some ys i (by omega)
        have hyb := hys y (List.mem_of_getElem? hy)
        refine SatC.region ?_
        refine SatL.pu (RunV.move rfl) rfl ?_
        refine SatL.op rfl (OpW.enter rfl rfl rfl (rfl) (stat_any (c := c) (hS.ownT (by repeat constructor)) (by rw [hcp]; exact hk)) ?_)
        rintro r3 w3 ⟨rfl, h⟩
        replace hS := St.callN hS h
        refine SatL.pu (RunV.assign rfl) rfl ?_
        refine SatL.nil (SatE.thenC ?_)
        refine SatC.seq ?_
        refine SatC.region ?_
        refine SatL.pu (RunV.move rfl) rfl ?_
        refine SatL.pu (RunV.move rfl) rfl ?_
        refine SatL.pu (RunV.move rfl) rfl ?_
        first | refine SatL.pu (RunV.indexR (by assumption) rfl rfl rfl (by omega) (by omega) rfl) rfl ?_ | refine SatL.pu (RunV.indexS rfl rfl rfl (by omega) (by omega) rfl) rfl ?_
        first | refine SatL.pu (RunV.loadR1z (RdC.st (by assumption) hS List.not_mem_nil) rfl rfl (by first | assumption | exact map_get (by assumption)) rfl) rfl ?_ | refine SatL.pu (RunV.loadR1z (Sl.rd (by assumption) hS (by repeat constructor)) rfl rfl (by first | assumption | exact map_get (by assumption)) rfl) rfl ?_
        refine SatL.pu (RunV.remP rfl rfl (by omega) (by decide)) rfl ?_
        refine SatL.pu (RunV.conv rfl rfl rfl (by first | exact wrapI64 (by omega) | rfl)) rfl ?_
        refine SatL.op rfl (OpW.enter rfl rfl rfl (rfl) (told_any (f := f) (c := c) _ (by rw [← hf0]; exact fv_p hcp.symm) (hS.ownT (by repeat constructor)) (by rw [hcp]; exact hk) (hb.le (by omega))) ?_)
        rintro r4 w4 ⟨rfl, h⟩
        replace hS := hS.callT (A := [(b, C 49 (hc f c))]) (by repeat constructor) h
        have hb2 := toldC_bd (s := y % 3) hb
        have hp2 := toldC_p c (y % 3)
        have ht := told_next hT hy (by rw [hcp]; exact hpk) hb (by omega)
        rw [ht.1] at hS hb2 hp2
        rw [hcp] at hp2
        refine SatL.nil (SatE.thenC ?_)
        refine SatC.seq ?_
        refine SatC.weak (e' := [(2, _), (6, _), (7, _), (8, _), (9, _), (11, _), (12, _)]) (by repeat constructor) ?_
        refine SatC.region ?_
        refine SatL.pu (RunV.move rfl) rfl ?_
        refine SatL.op rfl (OpW.enter rfl rfl rfl (rfl) (stat_any (c := cntC c (y % 3)) (hS.ownT (by repeat constructor)) (by rw [hp2]; exact hk)) ?_)
        rintro r5 w5 ⟨rfl, h⟩
        replace hS := St.callN hS h
        refine SatL.pu (RunV.assign rfl) rfl ?_
        refine SatL.nil (SatE.thenC ?_)
        refine SatC.seq ?_
        refine SatC.seq ?_
        refine SatC.region ?_
        refine SatL.pu (RunV.move rfl) rfl ?_
        refine SatL.pu (RunV.move rfl) rfl ?_
        refine SatL.pu (RunV.eql rfl rfl) rfl ?_
        refine SatL.nil (SatE.thenC ?_)
        refine SatC.cond rfl (fun h4 => ?_) (fun h4 => ?_)
        · (try simp only [cx, ne_eq] at h4)
          try (exfalso; (first | omega | exact h4 trivial | contradiction | exact absurd rfl h4 | exact h4 (by rw [Bool.eq_iff_iff]; simp only [decide_eq_true_eq]; exact hzz)); done)
          all_goals
          refine SatC.exit (SatE.then_exit (SatE.blk_exit (SatE.thenC ?_)))
          refine SatC.region ?_
          refine SatL.pu (RunV.move rfl) rfl ?_
          refine SatL.pu (RunV.add rfl rfl (by first | exact wrapI64 (by omega) | rfl)) rfl ?_
          refine SatL.pu (RunV.assign rfl) rfl ?_
          refine SatL.nil ?_
          refine SatE.again ((i + 1, cntC c (y % 3))) ?_ (by first | omega | (dsimp only; omega)) (by repeat constructor)
          exact ⟨by omega, by omega, hp2, by rw [cnt_maint]; exact hm, hb2, ht.2, hS⟩
        · (try simp only [cx, ne_eq] at h4)
          try (exfalso; (first | omega | exact h4 trivial | contradiction | exact absurd rfl h4 | exact h4 (by rw [Bool.eq_iff_iff]; simp only [decide_eq_true_eq]; exact hzz)); done)
          all_goals
          refine SatC.skip (SatE.thenC ?_)
          refine SatC.seq ?_
          have htu := cnt_turn (s := y % 3) hm (fun e => (by assumption : ¬ stat c = stat (cntC c (y % 3))) e.symm) (by omega)
          rw [hcp] at htu
          refine SatC.region ?_
          refine SatL.pu (RunV.move rfl) rfl ?_
          refine SatL.pu (RunV.assign rfl) rfl ?_
          refine SatL.nil (SatE.thenC ?_)
          refine SatC.seq ?_
          refine SatC.seq ?_
          refine SatC.region ?_
          refine SatL.pu (RunV.move rfl) rfl ?_
          refine SatL.pu (RunV.eql rfl rfl) rfl ?_
          refine SatL.nil (SatE.thenC ?_)
          refine SatC.cond rfl (fun h5 => ?_) (fun h5 => ?_)
          · (try simp only [cx, ne_eq] at h5)
            try (exfalso; (first | omega | exact h5 trivial | contradiction | exact absurd rfl h5 | exact h5 (by rw [Bool.eq_iff_iff]; simp only [decide_eq_true_eq]; exact hzz)); done)
            all_goals
            refine SatC.region ?_
            refine SatL.pu (RunV.move rfl) rfl ?_
            refine SatL.pu (RunV.assign rfl) rfl ?_
            refine SatL.nil (SatE.thenC ?_)
            refine SatC.seq ?_
            refine SatC.region ?_
            refine SatL.pu (RunV.assign rfl) rfl ?_
            refine SatL.nil (SatE.thenC ?_)
            refine SatC.block ?_
            refine SatC.loopK (G := Nat) (V := fun j => [(15, .int .i64 (j : Int))]) (Cn := [(2, _), (7, _), (8, _), (9, _), (11, _), (13, _), (14, _), (6, _)]) (I := fun j w' => (j : Int) ≤ 16 ∧ St w [] [(b, C 49 (hc f (cntC c (y % 3))))] w') (μ := fun j => 300 - j) 0 ?_ (by repeat constructor) ?_
            · exact ⟨by omega, hS⟩
            clear hS
            rintro j w6 ⟨hj, hS⟩
            refine SatC.weak (e' := [(2, _), (6, _), (7, _), (8, _), (9, _), (11, _), (13, _), (14, _), (15, _)]) (by repeat constructor) ?_
            refine SatC.seq ?_
            refine SatC.seq ?_
            refine SatC.region ?_
            refine SatL.pu (RunV.move rfl) rfl ?_
            refine SatL.pu (RunV.move rfl) rfl ?_
            refine SatL.pu (RunV.lss rfl rfl) rfl ?_
            refine SatL.nil (SatE.thenC ?_)
            refine SatC.cond rfl (fun h6 => ?_) (fun h6 => ?_)
            · (try simp only [cx, ne_eq] at h6)
              try (exfalso; (first | omega | exact h6 trivial | contradiction | exact absurd rfl h6 | exact h6 (by rw [Bool.eq_iff_iff]; simp only [decide_eq_true_eq]; exact hzz)); done)
              all_goals
              refine SatC.skip (SatE.thenC ?_)
              refine SatC.seq ?_
              refine SatC.block ?_
              refine SatC.seq ?_
              obtain ⟨hji, z, hz, hzz⟩ := row_at (j := j) ht.2 (by omega) htu (by first | (rw [if_pos (by assumption)]; omega) | (rw [if_neg (by assumption)]; omega))
              have hzb := hys z (List.mem_of_getElem? hz)
              refine SatC.region ?_
              refine SatL.pu (RunV.move rfl) rfl ?_
              refine SatL.pu (RunV.move rfl) rfl ?_
              refine SatL.pu (RunV.sub rfl rfl (by first | exact wrapI64 (by omega) | rfl)) rfl ?_
              refine SatL.pu (RunV.lss rfl rfl) rfl ?_
              refine SatL.pu (RunV.move rfl) rfl ?_
              refine SatL.guard rfl rfl rfl (fun h7 => ?_) (fun h7 => ?_)
              · (try simp only [cx, ne_eq] at h7)
                try (exfalso; (first | omega | exact h7 trivial | contradiction | exact absurd rfl h7 | exact h7 (by rw [Bool.eq_iff_iff]; simp only [decide_eq_true_eq]; exact hzz)); done)
                all_goals
                refine SatL.pu (RunV.move rfl) rfl ?_
                refine SatL.guard_y rfl rfl ?_
                refine SatL.pu (RunV.move rfl) rfl ?_
                refine SatL.guard_y rfl rfl ?_
                refine SatL.pu (RunV.move rfl) rfl ?_
                refine SatL.guard_y rfl rfl ?_
                refine SatL.pu (RunV.sub rfl rfl (by first | exact wrapI64 (by omega) | rfl)) rfl ?_
                refine SatL.guard_y rfl rfl ?_
                first | refine SatL.pu (RunV.indexR (by assumption) rfl rfl rfl (by omega) (by omega) rfl) rfl ?_ | refine SatL.pu (RunV.indexS rfl rfl rfl (by omega) (by omega) rfl) rfl ?_
                refine SatL.guard_y rfl rfl ?_
                first | refine SatL.pu (RunV.loadR1z (RdC.st (by assumption) hS List.not_mem_nil) rfl rfl (by first | assumption | exact map_get (by assumption)) rfl) rfl ?_ | refine SatL.pu (RunV.loadR1z (Sl.rd (by assumption) hS (by repeat constructor)) rfl rfl (by first | assumption | exact map_get (by assumption)) rfl) rfl ?_
                refine SatL.guard_y rfl rfl ?_
                refine SatL.pu (RunV.remP rfl rfl (by omega) (by decide)) rfl ?_
                refine SatL.guard_y rfl rfl ?_
                refine SatL.pu (RunV.eql rfl rfl) rfl ?_
                refine SatL.guard_y rfl rfl ?_
                refine SatL.pu (RunV.move rfl) rfl ?_
                refine SatL.guard_y rfl rfl ?_
                refine SatL.pu (RunV.eql rfl rfl) rfl ?_
                refine SatL.guard_y rfl rfl ?_
                refine SatL.pu (RunV.bneq rfl rfl rfl) rfl ?_
                refine SatL.pu (RunV.pick_f rfl rfl) rfl ?_
                refine SatL.nil (SatE.thenC ?_)
                refine SatC.weak (e' := [(2, _), (6, _), (7, _), (8, _), (9, _), (11, _), (13, _), (14, _), (15, _), (83, _)]) (by repeat constructor) ?_
                refine SatC.cond rfl (fun h8 => ?_) (fun h8 => ?_)
                · (try simp only [cx, ne_eq] at h8)
                  try (exfalso; (first | omega | exact h8 trivial | contradiction | exact absurd rfl h8 | exact h8 (by rw [Bool.eq_iff_iff]; simp only [decide_eq_true_eq]; exact hzz)); done)
                  all_goals
                  refine SatC.seq ?_
                  refine SatC.region ?_
                  refine SatL.pu (RunV.assign rfl) rfl ?_
                  refine SatL.nil (SatE.thenC ?_)
                  refine SatC.ret (SatE.blk_ret (SatE.then_ret (SatE.then_ret (SatE.blk_ret (SatE.blk_ret (SatE.then_ret (SatE.then_ret (SatE.blk_ret (SatE.then_ret ?_)))))))))
                  refine SatE.ret1 rfl rfl ?_
                  exact ⟨by first | rfl | simp, hS.sub (List.nil_sublist _)⟩
                · (try simp only [cx, ne_eq] at h8)
                  try (exfalso; (first | omega | exact h8 trivial | contradiction | exact absurd rfl h8 | exact h8 (by rw [Bool.eq_iff_iff]; simp only [decide_eq_true_eq]; exact hzz)); done)
                  all_goals
                  refine SatC.skip (SatE.blk_normal (SatE.thenC ?_))
                  refine SatC.region ?_
                  refine SatL.pu (RunV.move rfl) rfl ?_
                  refine SatL.pu (RunV.add rfl rfl (by first | exact wrapI64 (by omega) | rfl)) rfl ?_
                  refine SatL.pu (RunV.assign rfl) rfl ?_
                  refine SatL.nil ?_
                  refine SatE.again (j + 1) ?_ (by first | omega | (dsimp only; omega)) (by repeat constructor)
                  exact ⟨by omega, hS⟩
              · (try simp only [cx, ne_eq] at h7)
                try (exfalso; (first | omega | exact h7 trivial | contradiction | exact absurd rfl h7 | exact h7 (by rw [Bool.eq_iff_iff]; simp only [decide_eq_true_eq]; exact hzz)); done)
                all_goals
                refine SatL.guard_n rfl rfl rfl rfl ?_
                refine SatL.guard_n rfl rfl rfl rfl ?_
                refine SatL.guard_n rfl rfl rfl rfl ?_
                refine SatL.guard_n rfl rfl rfl rfl ?_
                refine SatL.guard_n rfl rfl rfl rfl ?_
                refine SatL.guard_n rfl rfl rfl rfl ?_
                refine SatL.guard_n rfl rfl rfl rfl ?_
                refine SatL.guard_n rfl rfl rfl rfl ?_
                refine SatL.guard_n rfl rfl rfl rfl ?_
                refine SatL.guard_n rfl rfl rfl rfl ?_
                refine SatL.pu (RunV.pick_t rfl rfl) rfl ?_
                refine SatL.nil (SatE.thenC ?_)
                refine SatC.weak (e' := [(2, _), (6, _), (7, _), (8, _), (9, _), (11, _), (13, _), (14, _), (15, _), (83, _)]) (by repeat constructor) ?_
                refine SatC.cond_t rfl ?_
                refine SatC.seq ?_
                refine SatC.region ?_
                refine SatL.pu (RunV.assign rfl) rfl ?_
                refine SatL.nil (SatE.thenC ?_)
                refine SatC.ret (SatE.blk_ret (SatE.then_ret (SatE.then_ret (SatE.blk_ret (SatE.blk_ret (SatE.then_ret (SatE.then_ret (SatE.blk_ret (SatE.then_ret ?_)))))))))
                refine SatE.ret1 rfl rfl ?_
                exact ⟨by first | rfl | simp, hS.sub (List.nil_sublist _)⟩
            · (try simp only [cx, ne_eq] at h6)
              try (exfalso; (first | omega | exact h6 trivial | contradiction | exact absurd rfl h6 | exact h6 (by rw [Bool.eq_iff_iff]; simp only [decide_eq_true_eq]; exact hzz)); done)
              all_goals
              refine SatC.exit (SatE.then_exit (SatE.then_exit (SatE.blk_exit (SatE.blk_normal (SatE.thenC ?_)))))
              refine SatC.region ?_
              refine SatL.pu (RunV.move rfl) rfl ?_
              refine SatL.pu (RunV.add rfl rfl (by first | exact wrapI64 (by omega) | rfl)) rfl ?_
              refine SatL.pu (RunV.assign rfl) rfl ?_
              refine SatL.nil ?_
              refine SatE.again ((i + 1, cntC c (y % 3))) ?_ (by first | omega | (dsimp only; omega)) (by repeat constructor)
              exact ⟨by omega, by omega, hp2, by rw [cnt_maint]; exact hm, hb2, ht.2, hS⟩
          · (try simp only [cx, ne_eq] at h5)
            try (exfalso; (first | omega | exact h5 trivial | contradiction | exact absurd rfl h5 | exact h5 (by rw [Bool.eq_iff_iff]; simp only [decide_eq_true_eq]; exact hzz)); done)
            all_goals
            refine SatC.skip (SatE.thenC ?_)
            refine SatC.seq ?_
            refine SatC.region ?_
            refine SatL.pu (RunV.assign rfl) rfl ?_
            refine SatL.nil (SatE.thenC ?_)
            refine SatC.block ?_
            refine SatC.loopK (G := Nat) (V := fun j => [(15, .int .i64 (j : Int))]) (Cn := [(2, _), (7, _), (8, _), (9, _), (11, _), (13, _), (14, _), (6, _)]) (I := fun j w' => (j : Int) ≤ 16 ∧ St w [] [(b, C 49 (hc f (cntC c (y % 3))))] w') (μ := fun j => 300 - j) 0 ?_ (by repeat constructor) ?_
            · exact ⟨by omega, hS⟩
            clear hS
            rintro j w6 ⟨hj, hS⟩
            refine SatC.weak (e' := [(2, _), (6, _), (7, _), (8, _), (9, _), (11, _), (13, _), (14, _), (15, _)]) (by repeat constructor) ?_
            refine SatC.seq ?_
            refine SatC.seq ?_
            refine SatC.region ?_
            refine SatL.pu (RunV.move rfl) rfl ?_
            refine SatL.pu (RunV.move rfl) rfl ?_
            refine SatL.pu (RunV.lss rfl rfl) rfl ?_
            refine SatL.nil (SatE.thenC ?_)
            refine SatC.cond rfl (fun h6 => ?_) (fun h6 => ?_)
            · (try simp only [cx, ne_eq] at h6)
              try (exfalso; (first | omega | exact h6 trivial | contradiction | exact absurd rfl h6 | exact h6 (by rw [Bool.eq_iff_iff]; simp only [decide_eq_true_eq]; exact hzz)); done)
              all_goals
              refine SatC.skip (SatE.thenC ?_)
              refine SatC.seq ?_
              refine SatC.block ?_
              refine SatC.seq ?_
              obtain ⟨hji, z, hz, hzz⟩ := row_at (j := j) ht.2 (by omega) htu (by first | (rw [if_pos (by assumption)]; omega) | (rw [if_neg (by assumption)]; omega))
              have hzb := hys z (List.mem_of_getElem? hz)
              refine SatC.region ?_
              refine SatL.pu (RunV.move rfl) rfl ?_
              refine SatL.pu (RunV.move rfl) rfl ?_
              refine SatL.pu (RunV.sub rfl rfl (by first | exact wrapI64 (by omega) | rfl)) rfl ?_
              refine SatL.pu (RunV.lss rfl rfl) rfl ?_
              refine SatL.pu (RunV.move rfl) rfl ?_
              refine SatL.guard rfl rfl rfl (fun h7 => ?_) (fun h7 => ?_)
              · (try simp only [cx, ne_eq] at h7)
                try (exfalso; (first | omega | exact h7 trivial | contradiction | exact absurd rfl h7 | exact h7 (by rw [Bool.eq_iff_iff]; simp only [decide_eq_true_eq]; exact hzz)); done)
                all_goals
                refine SatL.pu (RunV.move rfl) rfl ?_
                refine SatL.guard_y rfl rfl ?_
                refine SatL.pu (RunV.move rfl) rfl ?_
                refine SatL.guard_y rfl rfl ?_
                refine SatL.pu (RunV.move rfl) rfl ?_
                refine SatL.guard_y rfl rfl ?_
                refine SatL.pu (RunV.sub rfl rfl (by first | exact wrapI64 (by omega) | rfl)) rfl ?_
                refine SatL.guard_y rfl rfl ?_
                first | refine SatL.pu (RunV.indexR (by assumption) rfl rfl rfl (by omega) (by omega) rfl) rfl ?_ | refine SatL.pu (RunV.indexS rfl rfl rfl (by omega) (by omega) rfl) rfl ?_
                refine SatL.guard_y rfl rfl ?_
                first | refine SatL.pu (RunV.loadR1z (RdC.st (by assumption) hS List.not_mem_nil) rfl rfl (by first | assumption | exact map_get (by assumption)) rfl) rfl ?_ | refine SatL.pu (RunV.loadR1z (Sl.rd (by assumption) hS (by repeat constructor)) rfl rfl (by first | assumption | exact map_get (by assumption)) rfl) rfl ?_
                refine SatL.guard_y rfl rfl ?_
                refine SatL.pu (RunV.remP rfl rfl (by omega) (by decide)) rfl ?_
                refine SatL.guard_y rfl rfl ?_
                refine SatL.pu (RunV.eql rfl rfl) rfl ?_
                refine SatL.guard_y rfl rfl ?_
                refine SatL.pu (RunV.move rfl) rfl ?_
                refine SatL.guard_y rfl rfl ?_
                refine SatL.pu (RunV.eql rfl rfl) rfl ?_
                refine SatL.guard_y rfl rfl ?_
                refine SatL.pu (RunV.bneq rfl rfl rfl) rfl ?_
                refine SatL.pu (RunV.pick_f rfl rfl) rfl ?_
                refine SatL.nil (SatE.thenC ?_)
                refine SatC.weak (e' := [(2, _), (6, _), (7, _), (8, _), (9, _), (11, _), (13, _), (14, _), (15, _), (83, _)]) (by repeat constructor) ?_
                refine SatC.cond rfl (fun h8 => ?_) (fun h8 => ?_)
                · (try simp only [cx, ne_eq] at h8)
                  try (exfalso; (first | omega | exact h8 trivial | contradiction | exact absurd rfl h8 | exact h8 (by rw [Bool.eq_iff_iff]; simp only [decide_eq_true_eq]; exact hzz)); done)
                  all_goals
                  refine SatC.seq ?_
                  refine SatC.region ?_
                  refine SatL.pu (RunV.assign rfl) rfl ?_
                  refine SatL.nil (SatE.thenC ?_)
                  refine SatC.ret (SatE.blk_ret (SatE.then_ret (SatE.then_ret (SatE.blk_ret (SatE.blk_ret (SatE.then_ret (SatE.then_ret (SatE.blk_ret (SatE.then_ret ?_)))))))))
                  refine SatE.ret1 rfl rfl ?_
                  exact ⟨by first | rfl | simp, hS.sub (List.nil_sublist _)⟩
                · (try simp only [cx, ne_eq] at h8)
                  try (exfalso; (first | omega | exact h8 trivial | contradiction | exact absurd rfl h8 | exact h8 (by rw [Bool.eq_iff_iff]; simp only [decide_eq_true_eq]; exact hzz)); done)
                  all_goals
                  refine SatC.skip (SatE.blk_normal (SatE.thenC ?_))
                  refine SatC.region ?_
                  refine SatL.pu (RunV.move rfl) rfl ?_
                  refine SatL.pu (RunV.add rfl rfl (by first | exact wrapI64 (by omega) | rfl)) rfl ?_
                  refine SatL.pu (RunV.assign rfl) rfl ?_
                  refine SatL.nil ?_
                  refine SatE.again (j + 1) ?_ (by first | omega | (dsimp only; omega)) (by repeat constructor)
                  exact ⟨by omega, hS⟩
              · (try simp only [cx, ne_eq] at h7)
                try (exfalso; (first | omega | exact h7 trivial | contradiction | exact absurd rfl h7 | exact h7 (by rw [Bool.eq_iff_iff]; simp only [decide_eq_true_eq]; exact hzz)); done)
                all_goals
                refine SatL.guard_n rfl rfl rfl rfl ?_
                refine SatL.guard_n rfl rfl rfl rfl ?_
                refine SatL.guard_n rfl rfl rfl rfl ?_
                refine SatL.guard_n rfl rfl rfl rfl ?_
                refine SatL.guard_n rfl rfl rfl rfl ?_
                refine SatL.guard_n rfl rfl rfl rfl ?_
                refine SatL.guard_n rfl rfl rfl rfl ?_
                refine SatL.guard_n rfl rfl rfl rfl ?_
                refine SatL.guard_n rfl rfl rfl rfl ?_
                refine SatL.guard_n rfl rfl rfl rfl ?_
                refine SatL.pu (RunV.pick_t rfl rfl) rfl ?_
                refine SatL.nil (SatE.thenC ?_)
                refine SatC.weak (e' := [(2, _), (6, _), (7, _), (8, _), (9, _), (11, _), (13, _), (14, _), (15, _), (83, _)]) (by repeat constructor) ?_
                refine SatC.cond_t rfl ?_
                refine SatC.seq ?_
                refine SatC.region ?_
                refine SatL.pu (RunV.assign rfl) rfl ?_
                refine SatL.nil (SatE.thenC ?_)
                refine SatC.ret (SatE.blk_ret (SatE.then_ret (SatE.then_ret (SatE.blk_ret (SatE.blk_ret (SatE.then_ret (SatE.then_ret (SatE.blk_ret (SatE.then_ret ?_)))))))))
                refine SatE.ret1 rfl rfl ?_
                exact ⟨by first | rfl | simp, hS.sub (List.nil_sublist _)⟩
            · (try simp only [cx, ne_eq] at h6)
              try (exfalso; (first | omega | exact h6 trivial | contradiction | exact absurd rfl h6 | exact h6 (by rw [Bool.eq_iff_iff]; simp only [decide_eq_true_eq]; exact hzz)); done)
              all_goals
              refine SatC.exit (SatE.then_exit (SatE.then_exit (SatE.blk_exit (SatE.blk_normal (SatE.thenC ?_)))))
              refine SatC.region ?_
              refine SatL.pu (RunV.move rfl) rfl ?_
              refine SatL.pu (RunV.add rfl rfl (by first | exact wrapI64 (by omega) | rfl)) rfl ?_
              refine SatL.pu (RunV.assign rfl) rfl ?_
              refine SatL.nil ?_
              refine SatE.again ((i + 1, cntC c (y % 3))) ?_ (by first | omega | (dsimp only; omega)) (by repeat constructor)
              exact ⟨by omega, by omega, hp2, by rw [cnt_maint]; exact hm, hb2, ht.2, hS⟩
      · (try simp only [cx, ne_eq] at h3)
        try (exfalso; (first | omega | exact h3 trivial | contradiction | exact absurd rfl h3 | exact h3 (by rw [Bool.eq_iff_iff]; simp only [decide_eq_true_eq]; exact hzz)); done)
        all_goals
        refine SatC.exit (SatE.then_exit (SatE.then_exit (SatE.blk_exit (SatE.thenC ?_))))
        refine SatC.seq ?_
        refine SatC.weak (e' := [(6, _)]) (by repeat constructor) ?_
        refine SatC.region ?_
        refine SatL.op rfl (OpW.enter rfl rfl rfl (rfl) (works_any _) ?_)
        rintro r3 w3 ⟨rfl, h⟩
        replace hS := St.callN hS h
        refine SatL.pu (RunV.assign rfl) rfl ?_
        refine SatL.nil (SatE.thenC ?_)
        refine SatC.ret ?_
        refine SatE.ret1 rfl rfl ?_
        exact ⟨by first | rfl | simp, hS.sub (List.nil_sublist _)⟩
    · (try simp only [cx, ne_eq] at h2)
      try (exfalso; (first | omega | exact h2 trivial | contradiction | exact absurd rfl h2 | exact h2 (by rw [Bool.eq_iff_iff]; simp only [decide_eq_true_eq]; exact hzz)); done)
      all_goals
      refine SatL.guard_n rfl rfl rfl rfl ?_
      refine SatL.pu (RunV.pick_f rfl rfl) rfl ?_
      refine SatL.nil (SatE.thenC ?_)
      refine SatC.cond_f rfl ?_
      refine SatC.exit (SatE.then_exit (SatE.then_exit (SatE.blk_exit (SatE.thenC ?_))))
      refine SatC.seq ?_
      refine SatC.weak (e' := [(6, _)]) (by repeat constructor) ?_
      refine SatC.region ?_
      refine SatL.op rfl (OpW.enter rfl rfl rfl (rfl) (works_any _) ?_)
      rintro r3 w3 ⟨rfl, h⟩
      replace hS := St.callN hS h
      refine SatL.pu (RunV.assign rfl) rfl ?_
      refine SatL.nil (SatE.thenC ?_)
      refine SatC.ret ?_
      refine SatE.ret1 rfl rfl ?_
      exact ⟨by first | rfl | simp, hS.sub (List.nil_sublist _)⟩
theorem healthRows_lifted (os : Os) (started : os.Started) (H : Type) (enc : TypeId × Value → H) :
    ReturnsInHanded {} Try.checked os 3 .any (Rows.healthRowsSpec.pre6 enc Try.prog Try.f3 Rows.healthRowsRow.domain false) (Rows.healthRowsSpec.post enc Try.prog Try.f3 false true false false) := by
  refine law_returns (C := Try.checked) (b := 4) (by kernel_rfl) started (by kernel_rfl) Try.func3
    (ChangeSpec.witness6 (enc := enc) (C := Try.checked) false ⟨#[], #[.int .u8 0, .int .u8 0, .slice none 0 0], []⟩ 8 (by kernel_rfl) (by kernel_rfl) (by kernel_rfl) (by kernel_rfl))
    rfl rfl (by kernel_rfl) (by kernel_rfl) (by kernel_rfl) (fun ds h => ?_) ?_
  · rw [Try.params3] at h
    match ds, h with
    | [_, _, _], _ => rfl
  intro W base args ds ps hval hA hsz
  rw [Try.params3] at hA hval
  obtain ⟨v0, v1, v2, d0, d1, d2, q0, q1, q2, hargs, rfl, rfl, h0, h1, h2⟩ := trodAll_three hA
  subst hargs
  obtain ⟨a0, rfl, rfl, rfl, b0⟩ := open_int Try.underlying5 (hval 0 5 v0 rfl rfl) h0
  replace b0 := bnd_u8 b0
  obtain ⟨a1, rfl, rfl, rfl, b1⟩ := open_int Try.underlying5 (hval 1 5 v1 rfl rfl) h1
  replace b1 := bnd_u8 b1
  obtain ⟨xs2, hr2, hx2⟩ := open_rows (l := [5]) 6 Try.underlying22 (by kernel_rfl) (by kernel_rfl) (by decide) (hval 2 22 v2 rfl rfl) h2
  obtain ⟨ys2, rfl, hy2⟩ := rows_map (enc' := bu) (q := fun y => 0 ≤ y ∧ y ≤ 255) (fun r hr => by
    obtain ⟨u0, rfl, l0⟩ := allLeaf_list1 hr
    obtain ⟨n0, rfl, e0⟩ := leaf_int Try.underlying5 l0
    exact ⟨n0, rfl, bnd_u8 e0⟩) xs2 hx2
  exact law_done (rows_any a0 a1 _ ys2 W hr2 b0 b1 hy2)
theorem healthRows_holds : Rows.HealthRowsSaid :=
  OpenClaim.holds_of_wide 3 Try.f3 rfl rfl rfl rfl rfl rfl rfl ⟨rfl, rfl, rfl, rfl, rfl⟩ rfl rfl rfl rfl rfl (by kernel_rfl) Try.func3 (by kernel_rfl)
    (of_decide_eq_true (by kernel_rfl)) (by unfold Func.isWrapper; first | (rw [if_pos (by decide +kernel)]; kernel_rfl) | (rw [if_neg (by decide +kernel)]; exact ⟨rfl, rfl⟩))
    (fun os started H enc _ => healthRows_lifted os started H enc)
end Go.Proofs.Ytomdccdffennfaa
