/- Whatever is added, turned, let go and asked, the intentions are, and each call answers, what the document says. No condition. -/
import Derived.Test.YtogohendjjgbiaaIo
import Derived.Test.YtogohendjjgbiaaK7
import Derived.Test.YtogohendjjgbiaaK16
import Derived.Test.YtogohendjjgbiaaRows
set_option linter.unusedSimpArgs false
set_option linter.unusedVariables false
set_option maxRecDepth 100000
set_option maxHeartbeats 4000000
namespace Go.Proofs.Ytogohendjjgbiaa
open Go.RowKit Go.ChangeShapes Go.WideShapes Go.ChangeAt
theorem plays_any (n : Int) (v0 : Value) (ys : List Stp) (w : World) (hr : RdRow w v0 6 (ys.map stp)) : Ret Try.prog 8 #[.int .i64 n, v0] w fun u w' => u = .bool true ∧ St w [] [] w' := by
  obtain ⟨bb, oo, cc, hv0, hl, hrd, _⟩ := hr.open
  rw [List.length_map] at hv0 hl
  have hS := St.init0 w
  refine Ret.enter Try.func8 Try.ntmps8 rfl rfl ?_
  simp only [argEnv, Nat.reduceAdd]
  refine SatC.seq ?_
  refine SatC.region ?_
  refine SatL.pu (RunV.assign rfl) rfl ?_
  refine SatL.nil (SatE.thenC ?_)
  refine SatC.seq ?_
  refine SatC.region ?_
  refine SatL.pu (RunV.move rfl) rfl ?_
  refine SatL.op rfl (OpW.enter rfl rfl rfl (rfl) (inew_any n _) ?_)
  rintro r1 w1 ⟨b0, b, rfl, h⟩
  replace hS := hS.callT (A := []) (by repeat constructor) h
  refine SatL.pu (RunV.assign rfl) rfl ?_
  refine SatL.nil (SatE.thenC ?_)
  refine SatC.seq ?_
  refine SatC.region ?_
  refine SatL.pu (RunV.move rfl) rfl ?_
  refine SatL.op rfl (OpW.enter rfl rfl rfl (rfl) (rnew_any n _) ?_)
  rintro r2 w2 ⟨rb, rfl, h⟩
  replace hS := hS.call0 h
  refine SatL.pu (RunV.assign rfl) rfl ?_
  refine SatL.nil (SatE.thenC ?_)
  refine SatC.seq ?_
  refine SatC.seq ?_
  refine SatC.region ?_
  refine SatL.pu (RunV.assign rfl) rfl ?_
  refine SatL.nil (SatE.thenC ?_)
  refine SatC.block ?_
  refine SatC.loopK (G := Nat × Int × List Tr × List Itn × Value × List (Nat × Obj) × Value × List (Nat × Obj)) (V := fun ⟨k, last, rows, L, v, B, rv, R⟩ => [(7, .int .i64 (k : Int))]) (Cn := [(1, _), (5, _), (6, _), (4, _)]) (I := fun ⟨k, last, rows, L, v, B, rv, R⟩ w' => k ≤ ys.length ∧ k ≤ 80 ∧ PS (min (max n 1) 64) last rows L v B rv R ∧ St w [] (IO b0 b (min (max n 1) 64) last v B ++ RB rb (min (max n 1) 64) last rv R) w') (μ := fun ⟨k, last, rows, L, v, B, rv, R⟩ => ys.length - k) (0, 0, [], [], .slice none 0 0, [], .slice none 0 0, []) ?_ (by repeat constructor) ?_
  · exact ⟨by omega, by omega, ⟨rel_nil, by simp; omega, by omega, .nil, .nil⟩, hS.sel (by repeat constructor)⟩
  clear hS
  rintro ⟨k, last, rows, L, v, B, rv, R⟩ w3 ⟨hk, hk80, hp, hS⟩
  refine SatC.weak (e' := [(1, _), (4, _), (5, _), (6, _), (7, _)]) (by repeat constructor) ?_
  refine SatC.seq ?_
  refine SatC.seq ?_
  refine SatC.region ?_
  refine SatL.pu (RunV.move rfl) rfl ?_
  refine SatL.pu (RunV.move rfl) rfl ?_
  refine SatL.pu (RunV.lenR hv0 rfl rfl) rfl ?_
  refine SatL.pu (RunV.lss rfl rfl) rfl ?_
  refine SatL.pu (RunV.move rfl) rfl ?_
  refine SatL.guard rfl rfl rfl (fun h1 => ?_) (fun h1 => ?_)
  · (try simp only [cx, ne_eq] at h1)
    try (exfalso; (first | omega | exact h1 trivial | contradiction | (first | omega | exact h1 rfl | (simp at h1; done))); done)
    all_goals
    refine SatL.pu (RunV.move rfl) rfl ?_
    refine SatL.guard_y rfl rfl ?_
    refine SatL.pu (RunV.lss rfl rfl) rfl ?_
    refine SatL.pu (RunV.pick_t rfl rfl) rfl ?_
    refine SatL.nil (SatE.thenC ?_)
    refine SatC.cond rfl (fun h2 => ?_) (fun h2 => ?_)
    · (try simp only [cx, ne_eq] at h2)
      try (exfalso; (first | omega | exact h2 trivial | contradiction | (first | omega | exact h2 rfl | (simp at h2; done))); done)
      all_goals
      refine SatC.skip (SatE.thenC ?_)
      refine SatC.seq ?_
      refine SatC.block ?_
      refine SatC.seq ?_
      obtain ⟨y, hy⟩ := get_some ys k (by omega)
      refine SatC.drawnT 38 hS (hS.sel (R := []) (by repeat constructor)) (by kernel_rfl) ?_
      clear hS
      intro w4 hh hS hD
      refine SatD.tk 0 rfl hD (fun _ hw => RunV.move rfl) ?_
      refine SatD.tk 1 rfl hD (fun _ hw => RunV.move rfl) ?_
      refine SatD.tk 2 rfl hD (fun _ hw => RunV.move rfl) ?_
      refine SatD.tk 3 rfl hD (fun _ hw => RunV.move rfl) ?_
      refine SatD.tk 4 rfl hD (fun _ hw => RunV.indexR hv0 rfl rfl rfl (by omega) (by omega) rfl) ?_
      refine SatD.tk 5 rfl hD (fun _ hw => RunV.loadRNz (hrd.st hw List.not_mem_nil) rfl rfl (map_get hy)) ?_
      refine SatD.ef 6 rfl (OpW.enter rfl rfl rfl (rfl) (step_any y hp (hS.ownT (by repeat constructor))) ?_)
      rintro r5 w5 ⟨rfl, last1, rows1, L1, v1, B1, rv1, R1, hp1, h⟩
      replace hS := hS.callT (by repeat constructor) h
      simp only [List.append_assoc, List.cons_append, List.nil_append, List.append_nil] at hS
      refine keepS (hS.sel (by repeat constructor)) (fun hD => ?_)
      refine SatD.tk 7 rfl hD (fun _ hw => RunV.not rfl) ?_
      refine SatD.tk 8 rfl hD (fun _ hw => RunV.move rfl) ?_
      refine SatD.ways 30 rfl (fun h3 => ?_) (fun h3 => ?_)
      · (try simp only [cx, ne_eq] at h3)
        try (exfalso; (first | omega | exact h3 trivial | contradiction | (first | omega | exact h3 rfl | (simp at h3; done))); done)
        all_goals
        refine SatD.sk 9 rfl [] hD ?_
        refine SatD.sk 10 rfl [] hD ?_
        refine SatD.sk 11 rfl [] hD ?_
        refine SatD.sk 12 rfl [] hD ?_
        refine SatD.sk 13 rfl [] hD ?_
        refine SatD.sk 14 rfl [] hD ?_
        refine SatD.sk 15 rfl [] hD ?_
        refine SatD.sk 16 rfl [] hD ?_
        refine SatD.sk 17 rfl [] hD ?_
        refine SatD.sk 18 rfl [] hD ?_
        refine SatD.sk 20 rfl [] hD ?_
        refine SatD.sk 21 rfl [] hD ?_
        refine SatD.sk 22 rfl [] hD ?_
        refine SatD.sk 23 rfl [] hD ?_
        refine SatD.sk 24 rfl [] hD ?_
        refine SatD.ef 19 rfl (OpW.pure (RunV.load1 hS rfl rfl (by repeat constructor) rfl) rfl ?_)
        refine keepS (hS.sel (by repeat constructor)) (fun hD => ?_)
        refine SatD.sk 25 rfl [] hD ?_
        refine SatD.sk 26 rfl [] hD ?_
        refine SatD.sk 27 rfl [] hD ?_
        refine SatD.tk 28 rfl hD (fun _ hw => RunV.pick_t rfl rfl) ?_
        refine SatD.tk 29 rfl hD (fun _ hw => RunV.move rfl) ?_
        refine SatD.sk 30 rfl [] hD ?_
        refine SatD.sk 31 rfl [] hD ?_
        refine SatD.sk 32 rfl [] hD ?_
        refine SatD.sk 33 rfl [] hD ?_
        refine SatD.sk 34 rfl [] hD ?_
        refine SatD.ef 35 rfl (OpW.pure (RunV.load1 hS rfl rfl (by repeat constructor) rfl) rfl ?_)
        refine keepS (hS.sel (by repeat constructor)) (fun hD => ?_)
        refine SatD.sk 36 rfl [] hD ?_
        refine SatD.tk 37 rfl hD (fun _ hw => RunV.pick_t rfl rfl) ?_
        refine SatD.done 0 (by kernel_rfl) (SatE.thenC ?_)
        clear hD
        refine SatC.weak (e' := [(1, _), (4, _), (5, _), (6, _), (7, _), (59, _)]) (by repeat constructor) ?_
        refine SatC.cond_t rfl ?_
        refine SatC.seq ?_
        refine SatC.region ?_
        refine SatL.pu (RunV.assign rfl) rfl ?_
        refine SatL.nil (SatE.thenC ?_)
        refine SatC.ret (SatE.blk_ret (SatE.then_ret (SatE.then_ret (SatE.blk_ret (SatE.then_ret ?_)))))
        refine SatE.ret1 rfl rfl ?_
        exact ⟨rfl, hS.sel (R := []) (by repeat constructor)⟩
      · (try simp only [cx, ne_eq] at h3)
        try (exfalso; (first | omega | exact h3 trivial | contradiction | (first | omega | exact h3 rfl | (simp at h3; done))); done)
        all_goals
        refine SatD.tk 9 rfl hD (fun _ hw => RunV.move rfl) ?_
        refine SatD.tk 10 rfl hD (fun _ hw => RunV.move rfl) ?_
        refine SatD.tk 11 rfl hD (fun _ hw => RunV.move rfl) ?_
        refine SatD.tk 12 rfl hD (fun _ hw => RunV.indexR hv0 rfl rfl rfl (by omega) (by omega) rfl) ?_
        first | refine SatD.tk 13 rfl hD (fun _ hw => RunV.fieldAddrL rfl rfl rfl) ?_ | refine SatD.tk 13 rfl hD (fun _ hw => RunV.fieldAddr rfl rfl rfl) ?_
        refine SatD.tk 14 rfl hD (fun _ hw => RunV.loadR1f (hrd.st hw List.not_mem_nil) rfl rfl (map_get hy) rfl) ?_
        refine SatD.tk 16 rfl hD (fun _ hw => RunV.move rfl) ?_
        first | refine SatD.tk 17 rfl hD (fun _ hw => RunV.nil_ptr rfl) ?_ | refine SatD.tk 17 rfl hD (fun _ hw => RunV.nil_func rfl) ?_ | refine SatD.tk 17 rfl hD (fun _ hw => RunV.nil_yield rfl) ?_
        first | refine SatD.tk 18 rfl hD (fun _ hw => RunV.fieldAddrL rfl rfl rfl) ?_ | refine SatD.tk 18 rfl hD (fun _ hw => RunV.fieldAddr rfl rfl rfl) ?_
        refine SatD.tk 20 rfl hD (fun _ hw => RunV.move rfl) ?_
        refine SatD.tk 21 rfl hD (fun _ hw => RunV.move rfl) ?_
        refine SatD.tk 22 rfl hD (fun _ hw => RunV.indexR hv0 rfl rfl rfl (by omega) (by omega) rfl) ?_
        first | refine SatD.tk 23 rfl hD (fun _ hw => RunV.fieldAddrL rfl rfl rfl) ?_ | refine SatD.tk 23 rfl hD (fun _ hw => RunV.fieldAddr rfl rfl rfl) ?_
        refine SatD.tk 24 rfl hD (fun _ hw => RunV.loadR1f (hrd.st hw List.not_mem_nil) rfl rfl (map_get hy) rfl) ?_
        refine SatD.effs [15, 19] (by kernel_rfl) ⟨⟨_, rfl, rfl, OpW.enter rfl rfl rfl (rfl) (ifor_any y.d (by omega) hp1.sl (by have := hp1.len; omega) (hS.ownT (A := IO b0 b (min (max n 1) 64) last1 v1 B1) (by repeat constructor))) ?_⟩, ⟨_, rfl, rfl, OpW.pure (RunV.load1 hS rfl rfl (by repeat constructor) rfl) rfl ?_⟩, trivial⟩
        · skip
          rintro r6 w6 ⟨ds, B2, hli, hsl2, h⟩
          replace hS := hS.call0 h
          rw [hp1.rel.list hli] at hsl2
          have hf1 := for_len y.d L1
          have hf2 := hp1.rel.len
          have hf3 := hp1.len
          refine keepS (hS.sel (by repeat constructor)) (fun hD => ?_)
          refine SatD.ef 19 rfl (OpW.pure (RunV.load1 hS rfl rfl (by repeat constructor) rfl) rfl ?_)
          refine keepS (hS.sel (by repeat constructor)) (fun hD => ?_)
          refine SatD.ef 25 rfl (OpW.enter rfl rfl rfl (rfl) (rfor_any _ L1 y.d (by have hf2 := hp1.rel.len; have hf3 := hp1.len; omega) _ (hp1.rsl.row hS (by repeat constructor) (by have hf2 := hp1.rel.len; have hf3 := hp1.len; rw [List.length_map]; omega))) ?_)
          rintro r8 w8 ⟨B3, hsl3, h⟩
          replace hS := hS.call0 h
          refine keepS (hS.sel (by repeat constructor)) (fun hD => ?_)
          refine SatD.ef 26 rfl (OpW.enter rfl rfl rfl (rfl) (same_any _ _ (forI y.d L1) (forI y.d L1) _ (hsl2.row hS (by repeat constructor) (by rw [List.length_map]; omega)) (hsl3.row hS (by repeat constructor) (by rw [List.length_map]; omega))) ?_)
          rintro r9 w9 ⟨rfl, h⟩
          replace hS := St.callN hS h
          refine keepS (hS.sel (by repeat constructor)) (fun hD => ?_)
          refine SatD.tk 27 rfl hD (fun _ hw => RunV.not rfl) ?_
          refine SatD.tk 28 rfl hD (fun _ hw => RunV.pick_f rfl rfl) ?_
          refine SatD.tk 29 rfl hD (fun _ hw => RunV.move rfl) ?_
          refine SatD.ways 51 rfl (fun h4 => ?_) (fun h4 => ?_)
          · (try simp only [cx, ne_eq] at h4)
            try (exfalso; (first | omega | exact h4 trivial | contradiction | (first | omega | exact h4 rfl | (simp at h4; done))); done)
            all_goals
            refine SatD.sk 30 rfl [] hD ?_
            refine SatD.sk 31 rfl [] hD ?_
            refine SatD.sk 32 rfl [] hD ?_
            refine SatD.sk 33 rfl [] hD ?_
            refine SatD.sk 34 rfl [] hD ?_
            refine SatD.ef 35 rfl (OpW.pure (RunV.load1 hS rfl rfl (by repeat constructor) rfl) rfl ?_)
            refine keepS (hS.sel (by repeat constructor)) (fun hD => ?_)
            refine SatD.sk 36 rfl [] hD ?_
            refine SatD.tk 37 rfl hD (fun _ hw => RunV.pick_t rfl rfl) ?_
            refine SatD.done 0 (by kernel_rfl) (SatE.thenC ?_)
            clear hD
            refine SatC.weak (e' := [(1, _), (4, _), (5, _), (6, _), (7, _), (59, _)]) (by repeat constructor) ?_
            refine SatC.cond_t rfl ?_
            refine SatC.seq ?_
            refine SatC.region ?_
            refine SatL.pu (RunV.assign rfl) rfl ?_
            refine SatL.nil (SatE.thenC ?_)
            refine SatC.ret (SatE.blk_ret (SatE.then_ret (SatE.then_ret (SatE.blk_ret (SatE.then_ret ?_)))))
            refine SatE.ret1 rfl rfl ?_
            exact ⟨rfl, hS.sel (R := []) (by repeat constructor)⟩
          · (try simp only [cx, ne_eq] at h4)
            try (exfalso; (first | omega | exact h4 trivial | contradiction | (first | omega | exact h4 rfl | (simp at h4; done))); done)
            all_goals
            refine SatD.tk 30 rfl hD (fun _ hw => RunV.move rfl) ?_
            refine SatD.tk 32 rfl hD (fun _ hw => RunV.move rfl) ?_
            first | refine SatD.tk 33 rfl hD (fun _ hw => RunV.nil_ptr rfl) ?_ | refine SatD.tk 33 rfl hD (fun _ hw => RunV.nil_func rfl) ?_ | refine SatD.tk 33 rfl hD (fun _ hw => RunV.nil_yield rfl) ?_
            first | refine SatD.tk 34 rfl hD (fun _ hw => RunV.fieldAddrL rfl rfl rfl) ?_ | refine SatD.tk 34 rfl hD (fun _ hw => RunV.fieldAddr rfl rfl rfl) ?_
            refine SatD.effs [31, 35] (by kernel_rfl) ⟨⟨_, rfl, rfl, OpW.enter rfl rfl rfl (rfl) (ilast_any (by omega) (hS.ownT (A := IO b0 b (min (max n 1) 64) last1 v1 B1) (by repeat constructor))) ?_⟩, ⟨_, rfl, rfl, OpW.pure (RunV.load1 hS rfl rfl (by repeat constructor) rfl) rfl ?_⟩, trivial⟩
            · skip
              rintro r10 w10 ⟨rfl, h⟩
              replace hS := St.callN hS h
              refine keepS (hS.sel (by repeat constructor)) (fun hD => ?_)
              refine SatD.ef 35 rfl (OpW.pure (RunV.load1 hS rfl rfl (by repeat constructor) rfl) rfl ?_)
              refine keepS (hS.sel (by repeat constructor)) (fun hD => ?_)
              refine SatD.tk 36 rfl hD (fun _ hw => RunV.neq rfl rfl) ?_
              refine SatD.tk 37 rfl hD (fun _ hw => RunV.pick_f rfl rfl) ?_
              refine SatD.done 0 (by kernel_rfl) (SatE.thenC ?_)
              clear hD
              refine SatC.weak (e' := [(1, _), (4, _), (5, _), (6, _), (7, _), (59, _)]) (by repeat constructor) ?_
              refine SatC.cond rfl (fun h5 => ?_) (fun h5 => ?_)
              · (try simp only [cx, ne_eq] at h5)
                try (exfalso; (first | omega | exact h5 trivial | contradiction | (first | omega | exact h5 rfl | (simp at h5; done))); done)
                all_goals
                refine SatC.seq ?_
                refine SatC.region ?_
                refine SatL.pu (RunV.assign rfl) rfl ?_
                refine SatL.nil (SatE.thenC ?_)
                refine SatC.ret (SatE.blk_ret (SatE.then_ret (SatE.then_ret (SatE.blk_ret (SatE.then_ret ?_)))))
                refine SatE.ret1 rfl rfl ?_
                exact ⟨rfl, hS.sel (R := []) (by repeat constructor)⟩
              · (try simp only [cx, ne_eq] at h5)
                try (exfalso; (first | omega | exact h5 trivial | contradiction | (first | omega | exact h5 rfl | (simp at h5; done))); done)
                all_goals
                refine SatC.skip (SatE.blk_normal (SatE.thenC ?_))
                refine SatC.region ?_
                refine SatL.pu (RunV.move rfl) rfl ?_
                refine SatL.pu (RunV.add rfl rfl (by first | exact wrapI64 (by omega) | rfl)) rfl ?_
                refine SatL.pu (RunV.assign rfl) rfl ?_
                refine SatL.nil ?_
                refine SatE.again ((k + 1, last1, rows1, L1, v1, B1, rv1, R1)) ?_ (by first | omega | (dsimp only; omega)) (by repeat constructor)
                exact ⟨by omega, by omega, hp1, hS.sel (by repeat constructor)⟩
            · skip
              refine keepS (hS.sel (by repeat constructor)) (fun hD => ?_)
              refine SatD.ef 31 rfl (OpW.enter rfl rfl rfl (rfl) (ilast_any (by omega) (hS.ownT (A := IO b0 b (min (max n 1) 64) last1 v1 B1) (by repeat constructor))) ?_)
              rintro r11 w11 ⟨rfl, h⟩
              replace hS := St.callN hS h
              refine keepS (hS.sel (by repeat constructor)) (fun hD => ?_)
              refine SatD.tk 36 rfl hD (fun _ hw => RunV.neq rfl rfl) ?_
              refine SatD.tk 37 rfl hD (fun _ hw => RunV.pick_f rfl rfl) ?_
              refine SatD.done 0 (by kernel_rfl) (SatE.thenC ?_)
              clear hD
              refine SatC.weak (e' := [(1, _), (4, _), (5, _), (6, _), (7, _), (59, _)]) (by repeat constructor) ?_
              refine SatC.cond rfl (fun h5 => ?_) (fun h5 => ?_)
              · (try simp only [cx, ne_eq] at h5)
                try (exfalso; (first | omega | exact h5 trivial | contradiction | (first | omega | exact h5 rfl | (simp at h5; done))); done)
                all_goals
                refine SatC.seq ?_
                refine SatC.region ?_
                refine SatL.pu (RunV.assign rfl) rfl ?_
                refine SatL.nil (SatE.thenC ?_)
                refine SatC.ret (SatE.blk_ret (SatE.then_ret (SatE.then_ret (SatE.blk_ret (SatE.then_ret ?_)))))
                refine SatE.ret1 rfl rfl ?_
                exact ⟨rfl, hS.sel (R := []) (by repeat constructor)⟩
              · (try simp only [cx, ne_eq] at h5)
                try (exfalso; (first | omega | exact h5 trivial | contradiction | (first | omega | exact h5 rfl | (simp at h5; done))); done)
                all_goals
                refine SatC.skip (SatE.blk_normal (SatE.thenC ?_))
                refine SatC.region ?_
                refine SatL.pu (RunV.move rfl) rfl ?_
                refine SatL.pu (RunV.add rfl rfl (by first | exact wrapI64 (by omega) | rfl)) rfl ?_
                refine SatL.pu (RunV.assign rfl) rfl ?_
                refine SatL.nil ?_
                refine SatE.again ((k + 1, last1, rows1, L1, v1, B1, rv1, R1)) ?_ (by first | omega | (dsimp only; omega)) (by repeat constructor)
                exact ⟨by omega, by omega, hp1, hS.sel (by repeat constructor)⟩
        · skip
          refine keepS (hS.sel (by repeat constructor)) (fun hD => ?_)
          refine SatD.ef 15 rfl (OpW.enter rfl rfl rfl (rfl) (ifor_any y.d (by omega) hp1.sl (by have := hp1.len; omega) (hS.ownT (A := IO b0 b (min (max n 1) 64) last1 v1 B1) (by repeat constructor))) ?_)
          rintro r7 w7 ⟨ds, B2, hli, hsl2, h⟩
          replace hS := hS.call0 h
          rw [hp1.rel.list hli] at hsl2
          have hf1 := for_len y.d L1
          have hf2 := hp1.rel.len
          have hf3 := hp1.len
          refine keepS (hS.sel (by repeat constructor)) (fun hD => ?_)
          refine SatD.ef 25 rfl (OpW.enter rfl rfl rfl (rfl) (rfor_any _ L1 y.d (by have hf2 := hp1.rel.len; have hf3 := hp1.len; omega) _ (hp1.rsl.row hS (by repeat constructor) (by have hf2 := hp1.rel.len; have hf3 := hp1.len; rw [List.length_map]; omega))) ?_)
          rintro r8 w8 ⟨B3, hsl3, h⟩
          replace hS := hS.call0 h
          refine keepS (hS.sel (by repeat constructor)) (fun hD => ?_)
          refine SatD.ef 26 rfl (OpW.enter rfl rfl rfl (rfl) (same_any _ _ (forI y.d L1) (forI y.d L1) _ (hsl2.row hS (by repeat constructor) (by rw [List.length_map]; omega)) (hsl3.row hS (by repeat constructor) (by rw [List.length_map]; omega))) ?_)
          rintro r9 w9 ⟨rfl, h⟩
          replace hS := St.callN hS h
          refine keepS (hS.sel (by repeat constructor)) (fun hD => ?_)
          refine SatD.tk 27 rfl hD (fun _ hw => RunV.not rfl) ?_
          refine SatD.tk 28 rfl hD (fun _ hw => RunV.pick_f rfl rfl) ?_
          refine SatD.tk 29 rfl hD (fun _ hw => RunV.move rfl) ?_
          refine SatD.ways 51 rfl (fun h4 => ?_) (fun h4 => ?_)
          · (try simp only [cx, ne_eq] at h4)
            try (exfalso; (first | omega | exact h4 trivial | contradiction | (first | omega | exact h4 rfl | (simp at h4; done))); done)
            all_goals
            refine SatD.sk 30 rfl [] hD ?_
            refine SatD.sk 31 rfl [] hD ?_
            refine SatD.sk 32 rfl [] hD ?_
            refine SatD.sk 33 rfl [] hD ?_
            refine SatD.sk 34 rfl [] hD ?_
            refine SatD.ef 35 rfl (OpW.pure (RunV.load1 hS rfl rfl (by repeat constructor) rfl) rfl ?_)
            refine keepS (hS.sel (by repeat constructor)) (fun hD => ?_)
            refine SatD.sk 36 rfl [] hD ?_
            refine SatD.tk 37 rfl hD (fun _ hw => RunV.pick_t rfl rfl) ?_
            refine SatD.done 0 (by kernel_rfl) (SatE.thenC ?_)
            clear hD
            refine SatC.weak (e' := [(1, _), (4, _), (5, _), (6, _), (7, _), (59, _)]) (by repeat constructor) ?_
            refine SatC.cond_t rfl ?_
            refine SatC.seq ?_
            refine SatC.region ?_
            refine SatL.pu (RunV.assign rfl) rfl ?_
            refine SatL.nil (SatE.thenC ?_)
            refine SatC.ret (SatE.blk_ret (SatE.then_ret (SatE.then_ret (SatE.blk_ret (SatE.then_ret ?_)))))
            refine SatE.ret1 rfl rfl ?_
            exact ⟨rfl, hS.sel (R := []) (by repeat constructor)⟩
          · (try simp only [cx, ne_eq] at h4)
            try (exfalso; (first | omega | exact h4 trivial | contradiction | (first | omega | exact h4 rfl | (simp at h4; done))); done)
            all_goals
            refine SatD.tk 30 rfl hD (fun _ hw => RunV.move rfl) ?_
            refine SatD.tk 32 rfl hD (fun _ hw => RunV.move rfl) ?_
            first | refine SatD.tk 33 rfl hD (fun _ hw => RunV.nil_ptr rfl) ?_ | refine SatD.tk 33 rfl hD (fun _ hw => RunV.nil_func rfl) ?_ | refine SatD.tk 33 rfl hD (fun _ hw => RunV.nil_yield rfl) ?_
            first | refine SatD.tk 34 rfl hD (fun _ hw => RunV.fieldAddrL rfl rfl rfl) ?_ | refine SatD.tk 34 rfl hD (fun _ hw => RunV.fieldAddr rfl rfl rfl) ?_
            refine SatD.effs [31, 35] (by kernel_rfl) ⟨⟨_, rfl, rfl, OpW.enter rfl rfl rfl (rfl) (ilast_any (by omega) (hS.ownT (A := IO b0 b (min (max n 1) 64) last1 v1 B1) (by repeat constructor))) ?_⟩, ⟨_, rfl, rfl, OpW.pure (RunV.load1 hS rfl rfl (by repeat constructor) rfl) rfl ?_⟩, trivial⟩
            · skip
              rintro r10 w10 ⟨rfl, h⟩
              replace hS := St.callN hS h
              refine keepS (hS.sel (by repeat constructor)) (fun hD => ?_)
              refine SatD.ef 35 rfl (OpW.pure (RunV.load1 hS rfl rfl (by repeat constructor) rfl) rfl ?_)
              refine keepS (hS.sel (by repeat constructor)) (fun hD => ?_)
              refine SatD.tk 36 rfl hD (fun _ hw => RunV.neq rfl rfl) ?_
              refine SatD.tk 37 rfl hD (fun _ hw => RunV.pick_f rfl rfl) ?_
              refine SatD.done 0 (by kernel_rfl) (SatE.thenC ?_)
              clear hD
              refine SatC.weak (e' := [(1, _), (4, _), (5, _), (6, _), (7, _), (59, _)]) (by repeat constructor) ?_
              refine SatC.cond rfl (fun h5 => ?_) (fun h5 => ?_)
              · (try simp only [cx, ne_eq] at h5)
                try (exfalso; (first | omega | exact h5 trivial | contradiction | (first | omega | exact h5 rfl | (simp at h5; done))); done)
                all_goals
                refine SatC.seq ?_
                refine SatC.region ?_
                refine SatL.pu (RunV.assign rfl) rfl ?_
                refine SatL.nil (SatE.thenC ?_)
                refine SatC.ret (SatE.blk_ret (SatE.then_ret (SatE.then_ret (SatE.blk_ret (SatE.then_ret ?_)))))
                refine SatE.ret1 rfl rfl ?_
                exact ⟨rfl, hS.sel (R := []) (by repeat constructor)⟩
              · (try simp only [cx, ne_eq] at h5)
                try (exfalso; (first | omega | exact h5 trivial | contradiction | (first | omega | exact h5 rfl | (simp at h5; done))); done)
                all_goals
                refine SatC.skip (SatE.blk_normal (SatE.thenC ?_))
                refine SatC.region ?_
                refine SatL.pu (RunV.move rfl) rfl ?_
                refine SatL.pu (RunV.add rfl rfl (by first | exact wrapI64 (by omega) | rfl)) rfl ?_
                refine SatL.pu (RunV.assign rfl) rfl ?_
                refine SatL.nil ?_
                refine SatE.again ((k + 1, last1, rows1, L1, v1, B1, rv1, R1)) ?_ (by first | omega | (dsimp only; omega)) (by repeat constructor)
                exact ⟨by omega, by omega, hp1, hS.sel (by repeat constructor)⟩
            · skip
              refine keepS (hS.sel (by repeat constructor)) (fun hD => ?_)
              refine SatD.ef 31 rfl (OpW.enter rfl rfl rfl (rfl) (ilast_any (by omega) (hS.ownT (A := IO b0 b (min (max n 1) 64) last1 v1 B1) (by repeat constructor))) ?_)
              rintro r11 w11 ⟨rfl, h⟩
              replace hS := St.callN hS h
              refine keepS (hS.sel (by repeat constructor)) (fun hD => ?_)
              refine SatD.tk 36 rfl hD (fun _ hw => RunV.neq rfl rfl) ?_
              refine SatD.tk 37 rfl hD (fun _ hw => RunV.pick_f rfl rfl) ?_
              refine SatD.done 0 (by kernel_rfl) (SatE.thenC ?_)
              clear hD
              refine SatC.weak (e' := [(1, _), (4, _), (5, _), (6, _), (7, _), (59, _)]) (by repeat constructor) ?_
              refine SatC.cond rfl (fun h5 => ?_) (fun h5 => ?_)
              · (try simp only [cx, ne_eq] at h5)
                try (exfalso; (first | omega | exact h5 trivial | contradiction | (first | omega | exact h5 rfl | (simp at h5; done))); done)
                all_goals
                refine SatC.seq ?_
                refine SatC.region ?_
                refine SatL.pu (RunV.assign rfl) rfl ?_
                refine SatL.nil (SatE.thenC ?_)
                refine SatC.ret (SatE.blk_ret (SatE.then_ret (SatE.then_ret (SatE.blk_ret (SatE.then_ret ?_)))))
                refine SatE.ret1 rfl rfl ?_
                exact ⟨rfl, hS.sel (R := []) (by repeat constructor)⟩
              · (try simp only [cx, ne_eq] at h5)
                try (exfalso; (first | omega | exact h5 trivial | contradiction | (first | omega | exact h5 rfl | (simp at h5; done))); done)
                all_goals
                refine SatC.skip (SatE.blk_normal (SatE.thenC ?_))
                refine SatC.region ?_
                refine SatL.pu (RunV.move rfl) rfl ?_
                refine SatL.pu (RunV.add rfl rfl (by first | exact wrapI64 (by omega) | rfl)) rfl ?_
                refine SatL.pu (RunV.assign rfl) rfl ?_
                refine SatL.nil ?_
                refine SatE.again ((k + 1, last1, rows1, L1, v1, B1, rv1, R1)) ?_ (by first | omega | (dsimp only; omega)) (by repeat constructor)
                exact ⟨by omega, by omega, hp1, hS.sel (by repeat constructor)⟩
    · (try simp only [cx, ne_eq] at h2)
      try (exfalso; (first | omega | exact h2 trivial | contradiction | (first | omega | exact h2 rfl | (simp at h2; done))); done)
      all_goals
      refine SatC.exit (SatE.then_exit (SatE.then_exit (SatE.blk_exit (SatE.thenC ?_))))
      refine SatC.seq ?_
      refine SatC.drawnT 11 hS (hS.sel (R := [(rb, C 55 (rt (min (max n 1) 64) rv last))]) (by repeat constructor)) (by kernel_rfl) ?_
      clear hS
      intro w4 hh hS hD
      refine SatD.tk 0 rfl hD (fun _ hw => RunV.move rfl) ?_
      refine SatD.tk 2 rfl hD (fun _ hw => RunV.move rfl) ?_
      first | refine SatD.tk 3 rfl hD (fun _ hw => RunV.nil_ptr rfl) ?_ | refine SatD.tk 3 rfl hD (fun _ hw => RunV.nil_func rfl) ?_ | refine SatD.tk 3 rfl hD (fun _ hw => RunV.nil_yield rfl) ?_
      first | refine SatD.tk 4 rfl hD (fun _ hw => RunV.fieldAddrL rfl rfl rfl) ?_ | refine SatD.tk 4 rfl hD (fun _ hw => RunV.fieldAddr rfl rfl rfl) ?_
      refine SatD.tk 5 rfl hD (fun _ hw => RunV.load1 hw rfl rfl (by repeat constructor) rfl) ?_
      refine SatD.ef 1 rfl (OpW.enter rfl rfl rfl (rfl) (ilist_any (by have := hp.most; omega) hp.sl (by have := hp.len; have := hp.most; omega) (hS.ownT (A := IO b0 b (min (max n 1) 64) last v B) (by repeat constructor))) ?_)
      rintro r5 w5 ⟨ds, B2, hq1, hq2, hsl2, h⟩
      replace hS := hS.call0 h
      rw [hp.rel.list ⟨hq1, hq2⟩] at hsl2
      have hf2 := hp.rel.len
      have hf3 := hp.len
      refine keepS (hS.sel (by repeat constructor)) (fun hD => ?_)
      refine SatD.ef 6 rfl (OpW.enter rfl rfl rfl (rfl) (same_any _ _ L L _ (hsl2.row hS (by repeat constructor) (by rw [List.length_map]; omega)) (hp.rsl.row hS (by repeat constructor) (by rw [List.length_map]; omega))) ?_)
      rintro r6 w6 ⟨rfl, h⟩
      replace hS := St.callN hS h
      refine keepS (hS.sel (by repeat constructor)) (fun hD => ?_)
      refine SatD.tk 7 rfl hD (fun _ hw => RunV.move rfl) ?_
      refine SatD.ways 67 rfl (fun h3 => ?_) (fun h3 => ?_)
      · (try simp only [cx, ne_eq] at h3)
        try (exfalso; (first | omega | exact h3 trivial | contradiction | (first | omega | exact h3 rfl | (simp at h3; done))); done)
        all_goals
        refine SatD.ef 8 rfl (OpW.enter rfl rfl rfl (rfl) (works_any _) ?_)
        rintro r7 w7 ⟨rfl, h⟩
        replace hS := St.callN hS h
        refine keepS (hS.sel (by repeat constructor)) (fun hD => ?_)
        refine SatD.tk 9 rfl hD (fun _ hw => RunV.pick_t rfl rfl) ?_
        refine SatD.tk 10 rfl hD (fun _ hw => RunV.assign rfl) ?_
        refine SatD.done 0 (by kernel_rfl) (SatE.thenC ?_)
        clear hD
        refine SatC.ret ?_
        refine SatE.ret1 rfl rfl ?_
        exact ⟨rfl, hS.sel (R := []) (by repeat constructor)⟩
      · (try simp only [cx, ne_eq] at h3)
        try (exfalso; (first | omega | exact h3 trivial | contradiction | (first | omega | exact h3 rfl | (simp at h3; done))); done)
        all_goals
        refine SatD.sk 8 rfl [] hD ?_
        refine SatD.tk 9 rfl hD (fun _ hw => RunV.pick_f rfl rfl) ?_
        refine SatD.tk 10 rfl hD (fun _ hw => RunV.assign rfl) ?_
        refine SatD.done 0 (by kernel_rfl) (SatE.thenC ?_)
        clear hD
        refine SatC.ret ?_
        refine SatE.ret1 rfl rfl ?_
        exact ⟨rfl, hS.sel (R := []) (by repeat constructor)⟩
  · (try simp only [cx, ne_eq] at h1)
    try (exfalso; (first | omega | exact h1 trivial | contradiction | (first | omega | exact h1 rfl | (simp at h1; done))); done)
    all_goals
    refine SatL.guard_n rfl rfl rfl rfl ?_
    refine SatL.pu (RunV.pick_f rfl rfl) rfl ?_
    refine SatL.nil (SatE.thenC ?_)
    refine SatC.cond_f rfl ?_
    refine SatC.exit (SatE.then_exit (SatE.then_exit (SatE.blk_exit (SatE.thenC ?_))))
    refine SatC.seq ?_
    refine SatC.drawnT 11 hS (hS.sel (R := [(rb, C 55 (rt (min (max n 1) 64) rv last))]) (by repeat constructor)) (by kernel_rfl) ?_
    clear hS
    intro w4 hh hS hD
    refine SatD.tk 0 rfl hD (fun _ hw => RunV.move rfl) ?_
    refine SatD.tk 2 rfl hD (fun _ hw => RunV.move rfl) ?_
    first | refine SatD.tk 3 rfl hD (fun _ hw => RunV.nil_ptr rfl) ?_ | refine SatD.tk 3 rfl hD (fun _ hw => RunV.nil_func rfl) ?_ | refine SatD.tk 3 rfl hD (fun _ hw => RunV.nil_yield rfl) ?_
    first | refine SatD.tk 4 rfl hD (fun _ hw => RunV.fieldAddrL rfl rfl rfl) ?_ | refine SatD.tk 4 rfl hD (fun _ hw => RunV.fieldAddr rfl rfl rfl) ?_
    refine SatD.tk 5 rfl hD (fun _ hw => RunV.load1 hw rfl rfl (by repeat constructor) rfl) ?_
    refine SatD.ef 1 rfl (OpW.enter rfl rfl rfl (rfl) (ilist_any (by have := hp.most; omega) hp.sl (by have := hp.len; have := hp.most; omega) (hS.ownT (A := IO b0 b (min (max n 1) 64) last v B) (by repeat constructor))) ?_)
    rintro r5 w5 ⟨ds, B2, hq1, hq2, hsl2, h⟩
    replace hS := hS.call0 h
    rw [hp.rel.list ⟨hq1, hq2⟩] at hsl2
    have hf2 := hp.rel.len
    have hf3 := hp.len
    refine keepS (hS.sel (by repeat constructor)) (fun hD => ?_)
    refine SatD.ef 6 rfl (OpW.enter rfl rfl rfl (rfl) (same_any _ _ L L _ (hsl2.row hS (by repeat constructor) (by rw [List.length_map]; omega)) (hp.rsl.row hS (by repeat constructor) (by rw [List.length_map]; omega))) ?_)
    rintro r6 w6 ⟨rfl, h⟩
    replace hS := St.callN hS h
    refine keepS (hS.sel (by repeat constructor)) (fun hD => ?_)
    refine SatD.tk 7 rfl hD (fun _ hw => RunV.move rfl) ?_
    refine SatD.ways 67 rfl (fun h2 => ?_) (fun h2 => ?_)
    · (try simp only [cx, ne_eq] at h2)
      try (exfalso; (first | omega | exact h2 trivial | contradiction | (first | omega | exact h2 rfl | (simp at h2; done))); done)
      all_goals
      refine SatD.ef 8 rfl (OpW.enter rfl rfl rfl (rfl) (works_any _) ?_)
      rintro r7 w7 ⟨rfl, h⟩
      replace hS := St.callN hS h
      refine keepS (hS.sel (by repeat constructor)) (fun hD => ?_)
      refine SatD.tk 9 rfl hD (fun _ hw => RunV.pick_t rfl rfl) ?_
      refine SatD.tk 10 rfl hD (fun _ hw => RunV.assign rfl) ?_
      refine SatD.done 0 (by kernel_rfl) (SatE.thenC ?_)
      clear hD
      refine SatC.ret ?_
      refine SatE.ret1 rfl rfl ?_
      exact ⟨rfl, hS.sel (R := []) (by repeat constructor)⟩
    · (try simp only [cx, ne_eq] at h2)
      try (exfalso; (first | omega | exact h2 trivial | contradiction | (first | omega | exact h2 rfl | (simp at h2; done))); done)
      all_goals
      refine SatD.sk 8 rfl [] hD ?_
      refine SatD.tk 9 rfl hD (fun _ hw => RunV.pick_f rfl rfl) ?_
      refine SatD.tk 10 rfl hD (fun _ hw => RunV.assign rfl) ?_
      refine SatD.done 0 (by kernel_rfl) (SatE.thenC ?_)
      clear hD
      refine SatC.ret ?_
      refine SatE.ret1 rfl rfl ?_
      exact ⟨rfl, hS.sel (R := []) (by repeat constructor)⟩
theorem intentPlays_lifted (os : Os) (started : os.Started) (H : Type) (enc : TypeId × Value → H) :
    ReturnsInHanded {} Try.checked os 8 .any (Rows.intentPlaysSpec.pre6 enc Try.prog Try.f8 Rows.intentPlaysRow.domain false) (Rows.intentPlaysSpec.post enc Try.prog Try.f8 false true false false) := by
  refine law_returns (C := Try.checked) (b := 4) (by kernel_rfl) started (by kernel_rfl) Try.func8
    (ChangeSpec.witness6 (enc := enc) (C := Try.checked) false ⟨#[], #[.int .i64 0, .slice none 0 0], []⟩ 8 (by kernel_rfl) (by kernel_rfl) (by kernel_rfl) (by kernel_rfl))
    rfl rfl (by kernel_rfl) (by kernel_rfl) (by kernel_rfl) (fun ds h => ?_) ?_
  · rw [Try.params8] at h
    match ds, h with
    | [_, _], _ => rfl
  intro W base args ds ps hval hA hsz
  rw [Try.params8] at hA hval
  obtain ⟨v0, v1, d0, d1, q0, q1, hargs, rfl, rfl, h0, h1⟩ := trodAll_two hA
  subst hargs
  obtain ⟨a0, rfl, rfl, rfl, b0⟩ := open_int Try.underlying3 (hval 0 3 v0 rfl rfl) h0
  replace b0 := bnd_i64 b0
  obtain ⟨xs1, hr1, hx1⟩ := open_rows (l := [3, 9, 9, 4, 26, 26]) 6 Try.underlying46 (by kernel_rfl) (by kernel_rfl) (by decide) (hval 1 46 v1 rfl rfl) h1
  obtain ⟨ys1, rfl, hy1⟩ := rows_map (enc' := stp) (q := fun _ => True) (fun r hr => by
    obtain ⟨u0, u1, u2, u3, u4, u5, rfl, l0, l1, l2, l3, l4, l5⟩ := allLeaf_list6 hr
    obtain ⟨n0, rfl, e0⟩ := leaf_int Try.underlying3 l0
    obtain ⟨n1, rfl, e1⟩ := leaf_string Try.underlying9 l1
    obtain ⟨n2, rfl, e2⟩ := leaf_string Try.underlying9 l2
    obtain ⟨n3, rfl⟩ := leaf_bool Try.underlying4 l3
    obtain ⟨n4, rfl, e4⟩ := leaf_int Try.underlying26 l4
    obtain ⟨n5, rfl, e5⟩ := leaf_int Try.underlying26 l5
    exact ⟨⟨n0, n1.data.toList, n2.data.toList, n3, n4, n5⟩, rfl, trivial⟩) xs1 hx1
  exact law_done (plays_any a0 _ ys1 W hr1)
theorem intentPlays_holds : Rows.IntentPlaysSaid :=
  OpenClaim.holds_of_wide 8 Try.f8 rfl rfl rfl rfl rfl rfl rfl ⟨rfl, rfl, rfl, rfl, rfl⟩ rfl rfl rfl rfl rfl (by kernel_rfl) Try.func8 (by kernel_rfl)
    (of_decide_eq_true (by kernel_rfl)) (by unfold Func.isWrapper; first | (rw [if_pos (by decide +kernel)]; kernel_rfl) | (rw [if_neg (by decide +kernel)]; exact ⟨rfl, rfl⟩))
    (fun os started H enc _ => intentPlays_lifted os started H enc)
end Go.Proofs.Ytogohendjjgbiaa
