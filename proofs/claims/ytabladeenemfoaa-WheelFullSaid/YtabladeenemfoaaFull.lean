/- WheelFull: sixty-four timers, and no more. -/
import Derived.Test.YtabladeenemfoaaWh
import Derived.Test.YtabladeenemfoaaK7
import Derived.Test.YtabladeenemfoaaU
import Derived.Test.YtabladeenemfoaaK16
import Derived.Test.YtabladeenemfoaaK25
import Derived.Test.YtabladeenemfoaaRows
set_option linter.unusedSimpArgs false
set_option linter.unusedVariables false
set_option maxRecDepth 100000
set_option maxHeartbeats 8000000
namespace Go.Proofs.Ytabladeenemfoaa
open Go.RowKit Go.ChangeShapes Go.WideShapes Go.ChangeAt
theorem aset_has {W : Wl} (h : Inv W) {i n : Int} (hok : setOk W i n) (k : Int) : hasT (aSet W i n) k ↔ k = i ∨ hasT W k := by
  rw [has_iff (aset_inv h hok).1, has_iff h]
  constructor
  · rintro ⟨d, hd⟩
    rcases (aset_mem h hok k d).1 hd with ⟨e, _⟩ | ⟨h1, _⟩
    · exact .inl e
    · exact .inr ⟨d, h1⟩
  · rintro (rfl | ⟨d, hd⟩)
    · exact ⟨_, (aset_mem h hok _ _).2 (.inl ⟨rfl, rfl⟩)⟩
    · by_cases e : k = i
      · exact ⟨_, (aset_mem h hok _ _).2 (.inl ⟨e, rfl⟩)⟩
      · exact ⟨d, (aset_mem h hok _ _).2 (.inr ⟨hd, e⟩)⟩
theorem astop_has {W : Wl} (h : Inv W) (i k : Int) : hasT (aStop W i) k ↔ hasT W k ∧ k ≠ i := by
  rw [has_iff (astop_inv h i).1, has_iff h]
  constructor
  · rintro ⟨d, hd⟩
    have := (astop_mem h i k d).1 hd
    exact ⟨⟨d, this.1⟩, this.2⟩
  · rintro ⟨⟨d, hd⟩, e⟩
    exact ⟨d, (astop_mem h i k d).2 ⟨hd, e⟩⟩
theorem full_any (id : Int) (n : Nat) (hn : n < 65536) (w : World) : Ret Try.prog 4 #[.int .i64 id, .int .u16 (n : Int)] w fun v w' => v = .bool true ∧ St w [] [] w' := by
  have hS := St.init0 w
  obtain ⟨B, hB⟩ : ∃ B, B = id.tmod 1000000 := ⟨_, rfl⟩
  have hB1 : -1000000 < B := by rw [hB]; have := Int.tmod_lt_of_pos (-id) (show (0 : Int) < 1000000 by decide); rw [Int.neg_tmod] at this; omega
  have hB2 : B < 1000000 := by rw [hB]; exact Int.tmod_lt_of_pos id (by decide)
  refine Ret.enter Try.func4 Try.ntmps4 rfl rfl ?_
  simp only [argEnv, Nat.reduceAdd]
  refine SatC.seq ?_
  refine SatC.region ?_
  refine SatL.pu (RunV.assign rfl) rfl ?_
  refine SatL.nil (SatE.thenC ?_)
  refine SatC.seq ?_
  refine SatC.region ?_
  refine SatL.op rfl (OpW.enter rfl rfl rfl (rfl) (new_k _) ?_)
  rintro r1 w1 ⟨b, m, L0, rfl, hk0, h⟩
  replace hS := hS.callT (A := []) .nil h
  rw [List.append_nil] at hS
  refine SatL.pu (RunV.assign rfl) rfl ?_
  refine SatL.nil (SatE.thenC ?_)
  refine SatC.seq ?_
  refine SatC.region ?_
  refine SatL.pu (RunV.move rfl) rfl ?_
  refine SatL.pu (RunV.rem rfl rfl (by decide) hB.symm) rfl ?_
  refine SatL.pu (RunV.assign rfl) rfl ?_
  refine SatL.nil (SatE.thenC ?_)
  refine SatC.seq ?_
  refine SatC.seq ?_
  refine SatC.region ?_
  refine SatL.pu (RunV.assign rfl) rfl ?_
  refine SatL.nil (SatE.thenC ?_)
  refine SatC.block ?_
  refine SatC.loopK (G := Nat × Wl × List (Nat × Obj)) (V := fun ⟨k, W1, L1⟩ => [(7, .int .i64 (k : Int))]) (Cn := [(1, _), (5, _), (6, _), (4, _)]) (I := fun ⟨k, W1, L1⟩ w' => k ≤ 64 ∧ W1.now = 0 ∧ W1.ts.length = k ∧ (∀ i, hasT W1 i ↔ B ≤ i ∧ i < B + k) ∧ Wk b m W1 L1 ∧ St w [] L1 w') (μ := fun ⟨k, W1, L1⟩ => 64 - k) (0, w0, L0) ?_ (by repeat constructor) ?_
  · exact ⟨by omega, rfl, rfl, (fun i => ⟨fun h => (by cases h), fun h => by omega⟩), hk0, hS⟩
  clear hS
  rintro ⟨k, W1, L1⟩ w2 ⟨hk, hn1, hl1, hh1, hk1, hS⟩
  refine SatC.weak (e' := [(1, _), (4, _), (5, _), (6, _), (7, _)]) (by repeat constructor) ?_
  refine SatC.seq ?_
  refine SatC.seq ?_
  refine SatC.region ?_
  refine SatL.pu (RunV.move rfl) rfl ?_
  refine SatL.pu (RunV.lss rfl rfl) rfl ?_
  refine SatL.nil (SatE.thenC ?_)
  refine SatC.cond rfl (fun h1 => ?_) (fun h1 => ?_)
  · (try simp only [cx, ne_eq] at h1)
    try (exfalso; (first | omega | exact h1 trivial | contradiction | (first | omega | (simp at h1; done) | (simp_all; done))); done)
    all_goals
    refine SatC.skip (SatE.thenC ?_)
    refine SatC.seq ?_
    refine SatC.block ?_
    refine SatC.seq ?_
    have hok1 : setOk W1 (B + k) (1 + n) := ⟨by omega, by omega, .inr (by omega)⟩
    have hno1 : ¬ hasT W1 (B + k) := fun h => by have := (hh1 _).1 h; omega
    obtain ⟨_, _, _, hlen2⟩ := aset_inv hk1.inv hok1
    rw [if_neg hno1] at hlen2
    refine SatC.region ?_
    refine SatL.pu (RunV.move rfl) rfl ?_
    refine SatL.pu (RunV.move rfl) rfl ?_
    refine SatL.pu (RunV.move rfl) rfl ?_
    refine SatL.pu (RunV.add rfl rfl (by first | exact wrapI64 (by omega) | rfl)) rfl ?_
    refine SatL.pu (RunV.move rfl) rfl ?_
    refine SatL.pu (RunV.conv rfl rfl rfl (wrapI64 (by omega))) rfl ?_
    refine SatL.pu (RunV.add rfl rfl (by first | exact wrapI64 (by omega) | rfl)) rfl ?_
    refine SatL.op rfl (OpW.enter rfl rfl rfl (rfl) (set_k (B + k) (1 + n) (by omega) hk1 (hS.ownT (A := L1) (.whole .all))) ?_)
    rintro r3 w3 ⟨rfl, L2, hk2, hn2, h⟩
    replace hS := hS.callT (A := L1) (.whole .all) h
    rw [decide_eq_true hok1, List.append_nil] at *
    refine SatL.pu (RunV.not rfl) rfl ?_
    refine SatL.nil (SatE.thenC ?_)
    refine SatC.cond rfl (fun h2 => ?_) (fun h2 => ?_)
    · (try simp only [cx, ne_eq] at h2)
      try (exfalso; (first | omega | exact h2 trivial | contradiction | (first | omega | (simp at h2; done) | (simp_all; done))); done)
      all_goals
      refine SatC.seq ?_
      refine SatC.region ?_
      refine SatL.pu (RunV.assign rfl) rfl ?_
      refine SatL.nil (SatE.thenC ?_)
      refine SatC.ret (SatE.blk_ret (SatE.then_ret (SatE.then_ret (SatE.blk_ret (SatE.then_ret ?_)))))
      refine SatE.ret1 rfl rfl ?_
      exact ⟨rfl, hS.sel .nil⟩
    · (try simp only [cx, ne_eq] at h2)
      try (exfalso; (first | omega | exact h2 trivial | contradiction | (first | omega | (simp at h2; done) | (simp_all; done))); done)
      all_goals
      refine SatC.skip (SatE.blk_normal (SatE.thenC ?_))
      refine SatC.region ?_
      refine SatL.pu (RunV.move rfl) rfl ?_
      refine SatL.pu (RunV.add rfl rfl (by first | exact wrapI64 (by omega) | rfl)) rfl ?_
      refine SatL.pu (RunV.assign rfl) rfl ?_
      refine SatL.nil ?_
      refine SatE.again ((k + 1, aSet W1 (B + k) (1 + n), L2)) ?_ (by first | omega | (dsimp only; omega)) (by repeat constructor)
      refine ⟨by omega, by omega, by omega, fun i => ?_, hk2, hS.sel (by repeat constructor)⟩
      rw [aset_has hk1.inv hok1, hh1]
      omega
  · (try simp only [cx, ne_eq] at h1)
    try (exfalso; (first | omega | exact h1 trivial | contradiction | (first | omega | (simp at h1; done) | (simp_all; done))); done)
    all_goals
    refine SatC.exit (SatE.then_exit (SatE.then_exit (SatE.blk_exit (SatE.thenC ?_))))
    refine SatC.seq ?_
    refine SatC.seq ?_
    obtain rfl : k = 64 := by omega
    have hno1 : ¬ hasT W1 (B - 1) := fun h => by have := (hh1 _).1 h; omega
    have hyes1 : hasT W1 B := (hh1 _).2 (by omega)
    have hbad1 : ¬ setOk W1 (B - 1) 5 := by rintro ⟨_, _, h | h⟩; exact hno1 h; omega
    have hok1 : setOk W1 B 5 := ⟨by decide, by decide, .inl hyes1⟩
    obtain ⟨hi2, _, hq2, hlen2⟩ := aset_inv hk1.inv hok1
    rw [if_pos hyes1] at hlen2
    have hyes2 : hasT (aSet W1 B 5) B := (aset_has hk1.inv hok1 _).2 (.inl rfl)
    obtain ⟨hi3, _, hq3, hlen3, hno3⟩ := astop_inv hi2 B
    rw [if_pos hyes2] at hlen3
    obtain ⟨hi4, _, hq4, hlen4, hno4⟩ := astop_inv hi3 B
    rw [if_neg (show ¬ hasT (aStop (aSet W1 B 5) B) B by intro h; rw [h] at hno3; cases hno3)] at hlen4
    have hok4 : setOk (aStop (aStop (aSet W1 B 5) B) B) (B - 1) 5 := ⟨by decide, by decide, .inr (by omega)⟩
    have hnot4 : ¬ hasT (aStop (aStop (aSet W1 B 5) B) B) (B - 1) := fun h => by
      have := (astop_has hi3 _ _).1 h
      have := (astop_has hi2 _ _).1 this.1
      rcases (aset_has hk1.inv hok1 _).1 this.1 with h | h
      · omega
      · exact hno1 h
    obtain ⟨hi5, _, hq5, hlen5⟩ := aset_inv hi4 hok4
    rw [if_neg hnot4] at hlen5
    have hids : (srt (idsW (aSet (aStop (aStop (aSet W1 B 5) B) B) (B - 1) 5))).length = 64 := by
      rw [srt_len]
      unfold idsW
      rw [List.length_map]
      omega
    refine SatC.region ?_
    refine SatL.pu (RunV.move rfl) rfl ?_
    refine SatL.pu (RunV.move rfl) rfl ?_
    refine SatL.pu (RunV.sub rfl rfl (by first | exact wrapI64 (by omega) | rfl)) rfl ?_
    refine SatL.op rfl (OpW.enter rfl rfl rfl (rfl) (set_k (B - 1) 5 (by omega) hk1 (hS.ownT (A := L1) (.whole .all))) ?_)
    rintro r3 w3 ⟨rfl, L2, hk2, hn2, h⟩
    replace hS := hS.callT (A := L1) (.whole .all) h
    rw [aset_no hbad1] at hk2
    rw [decide_eq_false hbad1]
    rw [List.append_nil] at hS
    refine SatL.pu (RunV.move rfl) rfl ?_
    refine SatL.guard rfl rfl rfl (fun h2 => ?_) (fun h2 => ?_)
    · (try simp only [cx, ne_eq] at h2)
      try (exfalso; (first | omega | exact h2 trivial | contradiction | (first | omega | (simp at h2; done) | (simp_all; done))); done)
      all_goals
      refine SatL.pu (RunV.move rfl) rfl ?_
      refine SatL.guard_y rfl rfl ?_
      refine SatL.pu (RunV.move rfl) rfl ?_
      refine SatL.guard_y rfl rfl ?_
      refine SatL.op rfl (OpW.enter rfl rfl rfl (rfl) (set_k B 5 (by omega) hk2 (hS.ownT (A := L2) (.whole .all))) ?_)
      rintro r4 w4 ⟨rfl, L3, hk3, hn3, h⟩
      replace hS := hS.callT (A := L2) (.whole .all) h
      rw [decide_eq_true hok1]
      rw [List.append_nil] at hS
      refine SatL.guard_y rfl rfl ?_
      refine SatL.pu (RunV.not rfl) rfl ?_
      refine SatL.pu (RunV.pick_f rfl rfl) rfl ?_
      refine SatL.pu (RunV.move rfl) rfl ?_
      refine SatL.guard rfl rfl rfl (fun h3 => ?_) (fun h3 => ?_)
      · (try simp only [cx, ne_eq] at h3)
        try (exfalso; (first | omega | exact h3 trivial | contradiction | (first | omega | (simp at h3; done) | (simp_all; done))); done)
        all_goals
        refine SatL.pu (RunV.move rfl) rfl ?_
        refine SatL.guard_y rfl rfl ?_
        refine SatL.pu (RunV.move rfl) rfl ?_
        refine SatL.guard_y rfl rfl ?_
        refine SatL.op rfl (OpW.enter rfl rfl rfl (rfl) (stop_k B hk3 (hS.ownT (A := L3) (.whole .all))) ?_)
        rintro r5 w5 ⟨rfl, L4, hk4, hn4, h⟩
        replace hS := hS.callT (A := L3) (.whole .all) h
        rw [show (tget (aSet W1 B 5).ts B).isSome = true from hyes2]
        rw [List.append_nil] at hS
        refine SatL.guard_y rfl rfl ?_
        refine SatL.pu (RunV.not rfl) rfl ?_
        refine SatL.pu (RunV.pick_f rfl rfl) rfl ?_
        refine SatL.pu (RunV.move rfl) rfl ?_
        refine SatL.guard rfl rfl rfl (fun h4 => ?_) (fun h4 => ?_)
        · (try simp only [cx, ne_eq] at h4)
          try (exfalso; (first | omega | exact h4 trivial | contradiction | (first | omega | (simp at h4; done) | (simp_all; done))); done)
          all_goals
          refine SatL.pu (RunV.move rfl) rfl ?_
          refine SatL.guard_y rfl rfl ?_
          refine SatL.pu (RunV.move rfl) rfl ?_
          refine SatL.guard_y rfl rfl ?_
          refine SatL.op rfl (OpW.enter rfl rfl rfl (rfl) (stop_k B hk4 (hS.ownT (A := L4) (.whole .all))) ?_)
          rintro r6 w6 ⟨rfl, L5, hk5, hn5, h⟩
          replace hS := hS.callT (A := L4) (.whole .all) h
          rw [hno3]
          rw [List.append_nil] at hS
          refine SatL.pu (RunV.pick_f rfl rfl) rfl ?_
          refine SatL.pu (RunV.move rfl) rfl ?_
          refine SatL.guard rfl rfl rfl (fun h5 => ?_) (fun h5 => ?_)
          · (try simp only [cx, ne_eq] at h5)
            try (exfalso; (first | omega | exact h5 trivial | contradiction | (first | omega | (simp at h5; done) | (simp_all; done))); done)
            all_goals
            refine SatL.pu (RunV.move rfl) rfl ?_
            refine SatL.guard_y rfl rfl ?_
            refine SatL.pu (RunV.move rfl) rfl ?_
            refine SatL.guard_y rfl rfl ?_
            refine SatL.pu (RunV.sub rfl rfl (by first | exact wrapI64 (by omega) | rfl)) rfl ?_
            refine SatL.guard_y rfl rfl ?_
            refine SatL.op rfl (OpW.enter rfl rfl rfl (rfl) (set_k (B - 1) 5 (by omega) hk5 (hS.ownT (A := L5) (.whole .all))) ?_)
            rintro r7 w7 ⟨rfl, L6, hk6, hn6, h⟩
            replace hS := hS.callT (A := L5) (.whole .all) h
            rw [decide_eq_true hok4]
            rw [List.append_nil] at hS
            refine SatL.guard_y rfl rfl ?_
            refine SatL.pu (RunV.not rfl) rfl ?_
            refine SatL.pu (RunV.pick_f rfl rfl) rfl ?_
            refine SatL.nil (SatE.thenC ?_)
            refine SatC.weak (e' := [(4, _), (5, _), (51, _)]) (by repeat constructor) ?_
            refine SatC.cond rfl (fun h6 => ?_) (fun h6 => ?_)
            · (try simp only [cx, ne_eq] at h6)
              try (exfalso; (first | omega | exact h6 trivial | contradiction | (first | omega | (simp at h6; done) | (simp_all; done))); done)
              all_goals
              refine SatC.seq ?_
              refine SatC.region ?_
              refine SatL.pu (RunV.assign rfl) rfl ?_
              refine SatL.nil (SatE.thenC ?_)
              refine SatC.ret (SatE.then_ret ?_)
              refine SatE.ret1 rfl rfl ?_
              exact ⟨rfl, hS.sel .nil⟩
            · (try simp only [cx, ne_eq] at h6)
              try (exfalso; (first | omega | exact h6 trivial | contradiction | (first | omega | (simp at h6; done) | (simp_all; done))); done)
              all_goals
              refine SatC.skip (SatE.thenC ?_)
              refine SatC.seq ?_
              refine SatC.region ?_
              refine SatL.pu (RunV.move rfl) rfl ?_
              refine SatL.op rfl (OpW.enter rfl rfl rfl (rfl) (ids_d (by omega) hk6.whl (hS.ownT (A := L6) (.whole .all))) ?_)
              rintro r8 w8 ⟨AB, hsl, h⟩
              replace hS := hS.callT (A := []) .nil h
              obtain ⟨vc, hv⟩ := hsl.slv
              rw [List.length_map, hids] at hv
              first | refine SatL.pu (RunV.lenR (by assumption) rfl rfl) rfl ?_ | refine SatL.pu (RunV.lenS rfl rfl) rfl ?_
              refine SatL.pu (RunV.eql rfl rfl) rfl ?_
              refine SatL.pu (RunV.move rfl) rfl ?_
              refine SatL.guard rfl rfl rfl (fun h7 => ?_) (fun h7 => ?_)
              · (try simp only [cx, ne_eq] at h7)
                try (exfalso; (first | omega | exact h7 trivial | contradiction | (first | omega | (simp at h7; done) | (simp_all; done))); done)
                all_goals
                refine SatL.op rfl (OpW.enter rfl rfl rfl (rfl) (works_any _) ?_)
                rintro r9 w9 ⟨rfl, h⟩
                replace hS := St.callN hS h
                refine SatL.pu (RunV.pick_t rfl rfl) rfl ?_
                refine SatL.pu (RunV.assign rfl) rfl ?_
                refine SatL.nil (SatE.thenC ?_)
                refine SatC.ret ?_
                refine SatE.ret1 rfl rfl ?_
                exact ⟨rfl, hS.sel .nil⟩
              · (try simp only [cx, ne_eq] at h7)
                try (exfalso; (first | omega | exact h7 trivial | contradiction | (first | omega | (simp at h7; done) | (simp_all; done))); done)
                all_goals
                refine SatL.pu (RunV.pick_f rfl rfl) rfl ?_
                refine SatL.pu (RunV.assign rfl) rfl ?_
                refine SatL.nil (SatE.thenC ?_)
                refine SatC.ret ?_
                refine SatE.ret1 rfl rfl ?_
                exact ⟨rfl, hS.sel .nil⟩
          · (try simp only [cx, ne_eq] at h5)
            try (exfalso; (first | omega | exact h5 trivial | contradiction | (first | omega | (simp at h5; done) | (simp_all; done))); done)
            all_goals
            refine SatL.guard_n rfl rfl rfl rfl ?_
            refine SatL.guard_n rfl rfl rfl rfl ?_
            refine SatL.guard_n rfl rfl rfl rfl ?_
            refine SatL.guard_n rfl rfl rfl rfl ?_
            refine SatL.pu (RunV.pick_t rfl rfl) rfl ?_
            refine SatL.nil (SatE.thenC ?_)
            refine SatC.weak (e' := [(4, _), (5, _), (51, _)]) (by repeat constructor) ?_
            refine SatC.cond_t rfl ?_
            refine SatC.seq ?_
            refine SatC.region ?_
            refine SatL.pu (RunV.assign rfl) rfl ?_
            refine SatL.nil (SatE.thenC ?_)
            refine SatC.ret (SatE.then_ret ?_)
            refine SatE.ret1 rfl rfl ?_
            exact ⟨rfl, hS.sel .nil⟩
        · (try simp only [cx, ne_eq] at h4)
          try (exfalso; (first | omega | exact h4 trivial | contradiction | (first | omega | (simp at h4; done) | (simp_all; done))); done)
          all_goals
          refine SatL.guard_n rfl rfl rfl rfl ?_
          refine SatL.guard_n rfl rfl rfl rfl ?_
          refine SatL.pu (RunV.pick_t rfl rfl) rfl ?_
          refine SatL.pu (RunV.move rfl) rfl ?_
          refine SatL.guard_n rfl rfl rfl rfl ?_
          refine SatL.guard_n rfl rfl rfl rfl ?_
          refine SatL.guard_n rfl rfl rfl rfl ?_
          refine SatL.guard_n rfl rfl rfl rfl ?_
          refine SatL.guard_n rfl rfl rfl rfl ?_
          refine SatL.pu (RunV.pick_t rfl rfl) rfl ?_
          refine SatL.nil (SatE.thenC ?_)
          refine SatC.weak (e' := [(4, _), (5, _), (51, _)]) (by repeat constructor) ?_
          refine SatC.cond_t rfl ?_
          refine SatC.seq ?_
          refine SatC.region ?_
          refine SatL.pu (RunV.assign rfl) rfl ?_
          refine SatL.nil (SatE.thenC ?_)
          refine SatC.ret (SatE.then_ret ?_)
          refine SatE.ret1 rfl rfl ?_
          exact ⟨rfl, hS.sel .nil⟩
      · (try simp only [cx, ne_eq] at h3)
        try (exfalso; (first | omega | exact h3 trivial | contradiction | (first | omega | (simp at h3; done) | (simp_all; done))); done)
        all_goals
        refine SatL.guard_n rfl rfl rfl rfl ?_
        refine SatL.guard_n rfl rfl rfl rfl ?_
        refine SatL.guard_n rfl rfl rfl rfl ?_
        refine SatL.pu (RunV.pick_t rfl rfl) rfl ?_
        refine SatL.pu (RunV.move rfl) rfl ?_
        refine SatL.guard_n rfl rfl rfl rfl ?_
        refine SatL.guard_n rfl rfl rfl rfl ?_
        refine SatL.guard_n rfl rfl rfl rfl ?_
        refine SatL.pu (RunV.pick_t rfl rfl) rfl ?_
        refine SatL.pu (RunV.move rfl) rfl ?_
        refine SatL.guard_n rfl rfl rfl rfl ?_
        refine SatL.guard_n rfl rfl rfl rfl ?_
        refine SatL.guard_n rfl rfl rfl rfl ?_
        refine SatL.guard_n rfl rfl rfl rfl ?_
        refine SatL.guard_n rfl rfl rfl rfl ?_
        refine SatL.pu (RunV.pick_t rfl rfl) rfl ?_
        refine SatL.nil (SatE.thenC ?_)
        refine SatC.weak (e' := [(4, _), (5, _), (51, _)]) (by repeat constructor) ?_
        refine SatC.cond_t rfl ?_
        refine SatC.seq ?_
        refine SatC.region ?_
        refine SatL.pu (RunV.assign rfl) rfl ?_
        refine SatL.nil (SatE.thenC ?_)
        refine SatC.ret (SatE.then_ret ?_)
        refine SatE.ret1 rfl rfl ?_
        exact ⟨rfl, hS.sel .nil⟩
    · (try simp only [cx, ne_eq] at h2)
      try (exfalso; (first | omega | exact h2 trivial | contradiction | (first | omega | (simp at h2; done) | (simp_all; done))); done)
      all_goals
      refine SatL.guard_n rfl rfl rfl rfl ?_
      refine SatL.guard_n rfl rfl rfl rfl ?_
      refine SatL.guard_n rfl rfl rfl rfl ?_
      refine SatL.pu (RunV.pick_t rfl rfl) rfl ?_
      refine SatL.pu (RunV.move rfl) rfl ?_
      refine SatL.guard_n rfl rfl rfl rfl ?_
      refine SatL.guard_n rfl rfl rfl rfl ?_
      refine SatL.guard_n rfl rfl rfl rfl ?_
      refine SatL.guard_n rfl rfl rfl rfl ?_
      refine SatL.pu (RunV.pick_t rfl rfl) rfl ?_
      refine SatL.pu (RunV.move rfl) rfl ?_
      refine SatL.guard_n rfl rfl rfl rfl ?_
      refine SatL.guard_n rfl rfl rfl rfl ?_
      refine SatL.guard_n rfl rfl rfl rfl ?_
      refine SatL.pu (RunV.pick_t rfl rfl) rfl ?_
      refine SatL.pu (RunV.move rfl) rfl ?_
      refine SatL.guard_n rfl rfl rfl rfl ?_
      refine SatL.guard_n rfl rfl rfl rfl ?_
      refine SatL.guard_n rfl rfl rfl rfl ?_
      refine SatL.guard_n rfl rfl rfl rfl ?_
      refine SatL.guard_n rfl rfl rfl rfl ?_
      refine SatL.pu (RunV.pick_t rfl rfl) rfl ?_
      refine SatL.nil (SatE.thenC ?_)
      refine SatC.weak (e' := [(4, _), (5, _), (51, _)]) (by repeat constructor) ?_
      refine SatC.cond_t rfl ?_
      refine SatC.seq ?_
      refine SatC.region ?_
      refine SatL.pu (RunV.assign rfl) rfl ?_
      refine SatL.nil (SatE.thenC ?_)
      refine SatC.ret (SatE.then_ret ?_)
      refine SatE.ret1 rfl rfl ?_
      exact ⟨rfl, hS.sel .nil⟩
theorem wheelFull_lifted (os : Os) (started : os.Started) (H : Type) (enc : TypeId × Value → H) :
    ReturnsInHanded {} Try.checked os 4 .any (Rows.wheelFullSpec.pre6 enc Try.prog Try.f4 Rows.wheelFullRow.domain false) (Rows.wheelFullSpec.post enc Try.prog Try.f4 false true false false) := by
  refine law_returns (C := Try.checked) (b := 4) (by kernel_rfl) started (by kernel_rfl) Try.func4
    (ChangeSpec.witness6 (enc := enc) (C := Try.checked) false ⟨#[], #[.int .i64 0, .int .u16 0], []⟩ 8 (by kernel_rfl) (by kernel_rfl) (by kernel_rfl) (by kernel_rfl))
    rfl rfl (by kernel_rfl) (by kernel_rfl) (by kernel_rfl) (fun ds h => ?_) ?_
  · rw [Try.params4] at h
    match ds, h with
    | [_, _], _ => rfl
  intro W base args ds ps hval hA hsz
  rw [Try.params4] at hA hval
  obtain ⟨v0, v1, d0, d1, q0, q1, hargs, rfl, rfl, h0, h1⟩ := trodAll_two hA
  subst hargs
  obtain ⟨a0, rfl, rfl, rfl, b0⟩ := open_int Try.underlying3 (hval 0 3 v0 rfl rfl) h0
  replace b0 := bnd_i64 b0
  obtain ⟨a1, rfl, rfl, rfl, b1⟩ := open_int Try.underlying22 (hval 1 22 v1 rfl rfl) h1
  replace b1 := bnd_u16 b1
  obtain ⟨n1, rfl, hn1⟩ : ∃ n : Nat, a1 = (n : Int) ∧ n < 65536 := ⟨a1.toNat, by omega, by omega⟩
  exact law_done (full_any a0 n1 hn1 W)
theorem wheelFull_holds : Rows.WheelFullSaid :=
  OpenClaim.holds_of_wide 4 Try.f4 rfl rfl rfl rfl rfl rfl rfl ⟨rfl, rfl, rfl, rfl, rfl⟩ rfl rfl rfl rfl rfl (by kernel_rfl) Try.func4 (by kernel_rfl)
    (of_decide_eq_true (by kernel_rfl)) (by unfold Func.isWrapper; first | (rw [if_pos (by decide +kernel)]; kernel_rfl) | (rw [if_neg (by decide +kernel)]; exact ⟨rfl, rfl⟩))
    (fun os started H enc _ => wheelFull_lifted os started H enc)
end Go.Proofs.Ytabladeenemfoaa
