/- TablePlays: whatever is put, dropped and asked for, a table has, and answers, what the document says. -/
import Derived.Test.YtdoinfpkfbfjaaaW
import Derived.Test.YtdoinfpkfbfjaaaSt
import Derived.Test.YtdoinfpkfbfjaaaK7
import Derived.Test.YtdoinfpkfbfjaaaK16
import Derived.Test.YtdoinfpkfbfjaaaRows
set_option linter.unusedSimpArgs false
set_option linter.unusedVariables false
set_option maxRecDepth 100000
set_option maxHeartbeats 8000000
namespace Go.Proofs.Ytdoinfpkfbfjaaa
open Go.RowKit Go.ChangeShapes Go.WideShapes Go.ChangeAt
theorem asc_step {most last : Int} {rows : List Tr} {y : Sp} (h : Asc rows) : Asc (stepS most last rows y).1 := by
  unfold stepS
  split
  · exact asc_putS' h
  · split
    · exact asc_dropS h
    · split <;> exact h
theorem keyb_step {most last : Int} {rows : List Tr} {y : Sp} (h : KeyB rows) (hy : y.2.1.length ≤ 9223372036854775807) : KeyB (stepS most last rows y).1 := by
  unfold stepS
  split
  · exact keyb_putS h hy
  · split
    · exact keyb_dropS h
    · split <;> exact h
theorem len_step {most last : Int} {rows : List Tr} {y : Sp} (ha : Asc rows) (h : (rows.length : Int) ≤ most) : ((stepS most last rows y).1.length : Int) ≤ most := by
  unfold stepS
  split
  · exact len_putS ha h
  · split
    · have := len_dropS (last := last) (ix := y.2.2.2) (rows := rows) (key := y.2.1); omega
    · split <;> exact h
theorem plays_any (n : Int) (v : Value) (ys : List Sp) (w : World) (hr : RdRow w v 4 (ys.map spr)) (hys : ∀ y ∈ ys, y.2.1.length ≤ 9223372036854775807) : Ret Try.prog 5 #[.int .i64 n, v] w fun u w' => u = .bool true ∧ St w [] [] w' := by
  have hS := St.init0 w
  obtain ⟨bl, ol, cl, hvl, hmaxl, hcl, hltl⟩ := hr.open
  simp only [List.length_map] at hvl hmaxl hltl
  obtain ⟨most, hmost⟩ : ∃ m, min (max n 1) 64 = m := ⟨_, rfl⟩
  have hmb : 1 ≤ most ∧ most ≤ 64 := by omega
  have hm0 : ¬ most = 0 := by omega
  refine Ret.enter Try.func5 Try.ntmps5 rfl rfl ?_
  simp only [argEnv, Nat.reduceAdd]
  refine SatC.seq ?_
  refine SatC.region ?_
  refine SatL.pu (RunV.assign rfl) rfl ?_
  refine SatL.nil (SatE.thenC ?_)
  refine SatC.seq ?_
  refine SatC.region ?_
  refine SatL.pu (RunV.move rfl) rfl ?_
  refine SatL.op rfl (OpW.enter rfl rfl rfl (rfl) (tnew_any n _) ?_)
  rintro r1 w1 ⟨b, rfl, h⟩
  replace hS := hS.callT (A := []) (by repeat constructor) h
  rw [hmost] at hS
  refine SatL.pu (RunV.assign rfl) rfl ?_
  refine SatL.nil (SatE.thenC ?_)
  refine SatC.seq ?_
  refine SatC.region ?_
  refine SatL.pu (RunV.move rfl) rfl ?_
  refine SatL.op rfl (OpW.enter rfl rfl rfl (rfl) (rnew_any n _) ?_)
  rintro r2 w2 ⟨rb, rfl, h⟩
  replace hS := hS.callT (A := []) (by repeat constructor) h
  rw [hmost] at hS
  refine SatL.pu (RunV.assign rfl) rfl ?_
  refine SatL.nil (SatE.thenC ?_)
  refine SatC.seq ?_
  refine SatC.seq ?_
  refine SatC.region ?_
  refine SatL.pu (RunV.assign rfl) rfl ?_
  refine SatL.nil (SatE.thenC ?_)
  refine SatC.block ?_
  refine SatC.loopK (G := Nat × List Tr × Int × Value × List (Nat × Obj) × Value × List (Nat × Obj)) (V := fun ⟨i, rows, last, tv, B, rv', RB⟩ => [(7, .int .i64 (i : Int))]) (Cn := [(1, _), (5, _), (6, _), (4, _)]) (I := fun ⟨i, rows, last, tv, B, rv', RB⟩ w' => i ≤ ys.length ∧ i ≤ 100 ∧ Asc rows ∧ KeyB rows ∧ (rows.length : Int) ≤ most ∧ Sl 30 4 tv (rows.map tr) B ∧ Sl 48 4 rv' (rows.map tr) RB ∧ St w [] ((b, C 58 (tc most tv last)) :: (B ++ ((rb, C 54 (rt most rv' last)) :: RB))) w') (μ := fun ⟨i, rows, last, tv, B, rv', RB⟩ => ys.length - i) (0, [], 0, .slice none 0 0, [], .slice none 0 0, []) ?_ (by repeat constructor) ?_
  · exact ⟨Nat.zero_le _, by omega, List.Pairwise.nil, fun r hr => (by cases hr), by simp; omega, .nil, .nil, hS.sel (by repeat constructor)⟩
  clear hS
  rintro ⟨i, rows, last, tv, B, rv', RB⟩ w3 ⟨hi, hi1, ha, hk, hlen, hsl, hsr, hS⟩
  refine SatC.weak (e' := [(1, _), (4, _), (5, _), (6, _), (7, _)]) (by repeat constructor) ?_
  refine SatC.seq ?_
  refine SatC.seq ?_
  refine SatC.region ?_
  refine SatL.pu (RunV.move rfl) rfl ?_
  refine SatL.pu (RunV.move rfl) rfl ?_
  first | refine SatL.pu (RunV.lenR (by assumption) rfl rfl) rfl ?_ | refine SatL.pu (RunV.lenS rfl rfl) rfl ?_
  refine SatL.pu (RunV.lss rfl rfl) rfl ?_
  refine SatL.pu (RunV.move rfl) rfl ?_
  refine SatL.guard rfl rfl rfl (fun h1 => ?_) (fun h1 => ?_)
  · (try simp only [cx, ne_eq] at h1)
    try (exfalso; (first | omega | exact h1 trivial | contradiction | exact h1 rfl); done)
    all_goals
    refine SatL.pu (RunV.move rfl) rfl ?_
    refine SatL.guard_y rfl rfl ?_
    refine SatL.pu (RunV.lss rfl rfl) rfl ?_
    refine SatL.pu (RunV.pick_t rfl rfl) rfl ?_
    refine SatL.nil (SatE.thenC ?_)
    refine SatC.cond rfl (fun h2 => ?_) (fun h2 => ?_)
    · (try simp only [cx, ne_eq] at h2)
      try (exfalso; (first | omega | exact h2 trivial | contradiction | exact h2 rfl); done)
      all_goals
      refine SatC.skip (SatE.thenC ?_)
      refine SatC.seq ?_
      refine SatC.block ?_
      refine SatC.seq ?_
      refine SatC.seq ?_
      obtain ⟨y, hy⟩ := get_some ys i (by omega)
      have hyb := hys y (List.mem_of_getElem? hy)
      refine SatC.region ?_
      refine SatL.pu (RunV.move rfl) rfl ?_
      refine SatL.pu (RunV.move rfl) rfl ?_
      refine SatL.pu (RunV.move rfl) rfl ?_
      refine SatL.pu (RunV.move rfl) rfl ?_
      first | refine SatL.pu (RunV.indexR (by assumption) rfl rfl rfl (by omega) (by omega) rfl) rfl ?_ | refine SatL.pu (RunV.indexS rfl rfl rfl (by omega) (by omega) rfl) rfl ?_
      first | refine SatL.pu (RunV.loadRNz (RdC.st (by assumption) hS List.not_mem_nil) rfl rfl (by first | assumption | exact map_get (by assumption))) rfl ?_ | refine SatL.pu (RunV.loadRNz (Sl.rd (by assumption) hS (by repeat constructor)) rfl rfl (by first | assumption | exact map_get (by assumption))) rfl ?_
      refine SatL.op rfl (OpW.enter rfl rfl rfl (rfl) (step_any y hyb ha hk hlen hmb hsl hsr (hS.ownT (A := ((b, C 58 (tc most tv last)) :: B) ++ ((rb, C 54 (rt most rv' last)) :: RB)) (by repeat constructor))) ?_)
      rintro r4 w4 ⟨rfl, v2, B2, rv2, RB2, hsl2, hsr2, h⟩
      replace hS := hS.callT (A := ((b, C 58 (tc most tv last)) :: B) ++ ((rb, C 54 (rt most rv' last)) :: RB)) (by repeat constructor) h
      replace hlen := len_step (last := last) (y := y) ha hlen
      replace ha := asc_step (most := most) (last := last) (y := y) ha
      replace hk := keyb_step (most := most) (last := last) (y := y) hk hyb
      generalize stepS most last rows y = P at *
      obtain ⟨rows, last⟩ := P
      dsimp only at *
      simp only [List.append_nil, List.cons_append] at hS
      have hln : (rows.map tr).length ≤ 9223372036854775807 := by rw [List.length_map]; omega
      have hl1 : rows.length ≤ 100 := by omega
      refine SatL.pu (RunV.not rfl) rfl ?_
      refine SatL.nil (SatE.thenC ?_)
      refine SatC.weak (e' := [(1, _), (4, _), (5, _), (6, _), (7, _), (33, _)]) (by repeat constructor) ?_
      refine SatC.cond rfl (fun h3 => ?_) (fun h3 => ?_)
      · (try simp only [cx, ne_eq] at h3)
        try (exfalso; (first | omega | exact h3 trivial | contradiction | exact h3 rfl); done)
        all_goals
        refine SatC.seq ?_
        refine SatC.region ?_
        refine SatL.pu (RunV.assign rfl) rfl ?_
        refine SatL.nil (SatE.thenC ?_)
        refine SatC.ret (SatE.then_ret (SatE.blk_ret (SatE.then_ret (SatE.then_ret (SatE.blk_ret (SatE.then_ret ?_))))))
        refine SatE.ret1 rfl rfl ?_
        exact ⟨rfl, hS.sub (List.nil_sublist _)⟩
      · (try simp only [cx, ne_eq] at h3)
        try (exfalso; (first | omega | exact h3 trivial | contradiction | exact h3 rfl); done)
        all_goals
        refine SatC.skip (SatE.thenC ?_)
        refine SatC.seq ?_
        refine SatC.region ?_
        refine SatL.pu (RunV.move rfl) rfl ?_
        refine SatL.pu (RunV.move rfl) rfl ?_
        refine SatL.pu (RunV.move rfl) rfl ?_
        first | refine SatL.pu (RunV.indexR (by assumption) rfl rfl rfl (by omega) (by omega) rfl) rfl ?_ | refine SatL.pu (RunV.indexS rfl rfl rfl (by omega) (by omega) rfl) rfl ?_
        first | refine SatL.pu (RunV.fieldAddrL rfl rfl rfl) rfl ?_ | refine SatL.pu (RunV.fieldAddr rfl rfl rfl) rfl ?_
        first | refine SatL.pu (RunV.loadR1f (RdC.st (by assumption) hS List.not_mem_nil) rfl rfl (by first | assumption | exact map_get (by assumption)) rfl) rfl ?_ | refine SatL.pu (RunV.loadR1f (Sl.rd (by assumption) hS (by repeat constructor)) rfl rfl (by first | assumption | exact map_get (by assumption)) rfl) rfl ?_
        refine SatL.op rfl (OpW.enter rfl rfl rfl (rfl) (get_tab y.2.1 ha hsl2 (by omega) (hS.ownT (A := (b, C 58 (tc most v2 last)) :: B2) (by repeat constructor)) hm0) ?_)
        rintro r5 w5 ⟨rfl, h⟩
        replace hS := St.callN hS h
        refine SatL.pu (RunV.move rfl) rfl ?_
        refine SatL.pu (RunV.extract rfl rfl) rfl ?_
        refine SatL.pu (RunV.extract rfl rfl) rfl ?_
        refine SatL.op rfl (OpW.alloc hS rfl rfl (by repeat constructor) ?_)
        clear hS
        intro b8 w6 _ hS
        refine SatL.op rfl (OpW.store hS rfl rfl (by repeat constructor) (by repeat constructor) (by repeat constructor) rfl rfl ?_)
        clear hS
        intro w7 hS
        refine SatL.pu (RunV.assign rfl) rfl ?_
        refine SatL.nil (SatE.thenC ?_)
        refine SatC.seq ?_
        refine SatC.region ?_
        refine SatL.pu (RunV.move rfl) rfl ?_
        refine SatL.pu (RunV.move rfl) rfl ?_
        refine SatL.pu (RunV.move rfl) rfl ?_
        first | refine SatL.pu (RunV.indexR (by assumption) rfl rfl rfl (by omega) (by omega) rfl) rfl ?_ | refine SatL.pu (RunV.indexS rfl rfl rfl (by omega) (by omega) rfl) rfl ?_
        first | refine SatL.pu (RunV.fieldAddrL rfl rfl rfl) rfl ?_ | refine SatL.pu (RunV.fieldAddr rfl rfl rfl) rfl ?_
        first | refine SatL.pu (RunV.loadR1f (RdC.st (by assumption) hS List.not_mem_nil) rfl rfl (by first | assumption | exact map_get (by assumption)) rfl) rfl ?_ | refine SatL.pu (RunV.loadR1f (Sl.rd (by assumption) hS (by repeat constructor)) rfl rfl (by first | assumption | exact map_get (by assumption)) rfl) rfl ?_
        refine SatL.op rfl (OpW.enter rfl rfl rfl (rfl) (get_ref y.2.1 (hS.ownT (A := (rb, C 54 (rt most rv2 last)) :: RB2) (by repeat constructor)) hsr2 (by omega)) ?_)
        rintro r8 w8 ⟨rfl, h⟩
        replace hS := St.callN hS h
        refine SatL.pu (RunV.move rfl) rfl ?_
        refine SatL.pu (RunV.extract rfl rfl) rfl ?_
        refine SatL.pu (RunV.extract rfl rfl) rfl ?_
        refine SatL.op rfl (OpW.alloc hS rfl rfl (by repeat constructor) ?_)
        clear hS
        intro b10 w9 _ hS
        refine SatL.op rfl (OpW.store hS rfl rfl (by repeat constructor) (by repeat constructor) (by repeat constructor) rfl rfl ?_)
        clear hS
        intro w10 hS
        refine SatL.pu (RunV.assign rfl) rfl ?_
        refine SatL.nil (SatE.thenC ?_)
        refine SatC.seq ?_
        refine SatC.weak (e' := [(1, _), (4, _), (5, _), (6, _), (7, _), (8, _), (9, _), (10, _), (11, _)]) (by repeat constructor) ?_
        obtain ⟨c9, hv9⟩ := hsr2.slv
        simp only [List.length_map] at hv9
        refine SatC.drawnT 30 hS (hS) (by kernel_rfl) ?_
        clear hS
        intro w11 hh hS hD
        refine SatD.tk 0 rfl hD (fun _ hw => RunV.move rfl) ?_
        refine SatD.tk 1 rfl hD (fun _ hw => RunV.move rfl) ?_
        refine SatD.tk 2 rfl hD (fun _ hw => RunV.bneq rfl rfl rfl) ?_
        refine SatD.tk 3 rfl hD (fun _ hw => RunV.move rfl) ?_
        refine SatD.ways 57 rfl (fun h4 => ?_) (fun h4 => ?_)
        · (try simp only [cx, ne_eq] at h4)
          try (exfalso; (first | omega | exact h4 trivial | contradiction | exact h4 rfl); done)
          all_goals
          refine SatD.sk 4 rfl [] hD ?_
          refine SatD.sk 5 rfl [] hD ?_
          refine SatD.sk 6 rfl [] hD ?_
          refine SatD.sk 7 rfl [] hD ?_
          refine SatD.sk 8 rfl [] hD ?_
          refine SatD.sk 9 rfl [] hD ?_
          refine SatD.tk 10 rfl hD (fun _ hw => RunV.pick_t rfl rfl) ?_
          refine SatD.tk 11 rfl hD (fun _ hw => RunV.move rfl) ?_
          refine SatD.sk 12 rfl [] hD ?_
          refine SatD.sk 13 rfl [] hD ?_
          refine SatD.sk 14 rfl [] hD ?_
          refine SatD.sk 15 rfl [] hD ?_
          refine SatD.sk 16 rfl [] hD ?_
          refine SatD.sk 17 rfl [] hD ?_
          refine SatD.sk 18 rfl [] hD ?_
          refine SatD.tk 19 rfl hD (fun _ hw => RunV.pick_t rfl rfl) ?_
          refine SatD.tk 20 rfl hD (fun _ hw => RunV.move rfl) ?_
          refine SatD.sk 21 rfl [] hD ?_
          refine SatD.sk 22 rfl [] hD ?_
          refine SatD.sk 23 rfl [] hD ?_
          refine SatD.sk 24 rfl [] hD ?_
          refine SatD.sk 25 rfl [] hD ?_
          refine SatD.sk 26 rfl [] hD ?_
          refine SatD.sk 27 rfl [] hD ?_
          refine SatD.sk 28 rfl [] hD ?_
          refine SatD.tk 29 rfl hD (fun _ hw => RunV.pick_t rfl rfl) ?_
          refine SatD.done 0 (by kernel_rfl) (SatE.thenC ?_)
          clear hD
          refine SatC.weak (e' := [(1, _), (4, _), (5, _), (6, _), (7, _), (83, _)]) (by repeat constructor) ?_
          refine SatC.cond_t rfl ?_
          refine SatC.seq ?_
          refine SatC.region ?_
          refine SatL.pu (RunV.assign rfl) rfl ?_
          refine SatL.nil (SatE.thenC ?_)
          refine SatC.ret (SatE.blk_ret (SatE.then_ret (SatE.then_ret (SatE.blk_ret (SatE.then_ret ?_)))))
          refine SatE.ret1 rfl rfl ?_
          exact ⟨rfl, hS.sub (List.nil_sublist _)⟩
        · (try simp only [cx, ne_eq] at h4)
          try (exfalso; (first | omega | exact h4 trivial | contradiction | exact h4 rfl); done)
          all_goals
          refine SatD.tk 4 rfl hD (fun _ hw => RunV.loadN hw rfl rfl (by repeat constructor) (by repeat constructor)) ?_
          refine SatD.tk 6 rfl hD (fun _ hw => RunV.loadN hw rfl rfl (by repeat constructor) (by repeat constructor)) ?_
          refine SatD.effs [5, 7] (by kernel_rfl) ⟨⟨_, rfl, rfl, OpW.buildSlice1 hS rfl rfl rfl rfl rfl (by repeat constructor) rfl rfl rfl ?_⟩, ⟨_, rfl, rfl, OpW.buildSlice1 hS rfl rfl rfl rfl rfl (by repeat constructor) rfl rfl rfl ?_⟩, trivial⟩
          · skip
            clear hS
            intro b59 w12 _ hS
            refine keepS (hS.sel (by repeat constructor)) (fun hD => ?_)
            refine SatD.ef 7 rfl (OpW.buildSlice1 hS rfl rfl rfl rfl rfl (by repeat constructor) rfl rfl rfl ?_)
            clear hS
            intro b61 w13 _ hS
            refine keepS (hS.sel (by repeat constructor)) (fun hD => ?_)
            refine SatD.ef 8 rfl (OpW.enter rfl rfl rfl (rfl) ((by first | exact same_any _ _ [(getF rows y.2.1).1] [(getF rows y.2.1).1] _ ((one_row rfl).row hS (by repeat constructor) (Nat.le_of_ble_eq_true rfl)) ((one_row rfl).row hS (by repeat constructor) (Nat.le_of_ble_eq_true rfl)) | exact same_any _ _ rows rows _ (hsl3.row hS (by repeat constructor) hln) (hsr.row hS (by repeat constructor) hln))) ?_)
            rintro r14 w14 ⟨rfl, h⟩
            replace hS := St.callN hS h
            refine keepS (hS.sel (by repeat constructor)) (fun hD => ?_)
            refine SatD.tk 9 rfl hD (fun _ hw => RunV.not rfl) ?_
            refine SatD.tk 10 rfl hD (fun _ hw => RunV.pick_f rfl rfl) ?_
            refine SatD.tk 11 rfl hD (fun _ hw => RunV.move rfl) ?_
            refine SatD.ways 65 rfl (fun h5 => ?_) (fun h5 => ?_)
            · (try simp only [cx, ne_eq] at h5)
              try (exfalso; (first | omega | exact h5 trivial | contradiction | exact h5 rfl); done)
              all_goals
              refine SatD.sk 12 rfl [] hD ?_
              refine SatD.sk 13 rfl [] hD ?_
              refine SatD.sk 14 rfl [] hD ?_
              refine SatD.sk 15 rfl [] hD ?_
              refine SatD.sk 16 rfl [] hD ?_
              refine SatD.sk 17 rfl [] hD ?_
              refine SatD.sk 18 rfl [] hD ?_
              refine SatD.tk 19 rfl hD (fun _ hw => RunV.pick_t rfl rfl) ?_
              refine SatD.tk 20 rfl hD (fun _ hw => RunV.move rfl) ?_
              refine SatD.sk 21 rfl [] hD ?_
              refine SatD.sk 22 rfl [] hD ?_
              refine SatD.sk 23 rfl [] hD ?_
              refine SatD.sk 24 rfl [] hD ?_
              refine SatD.sk 25 rfl [] hD ?_
              refine SatD.sk 26 rfl [] hD ?_
              refine SatD.sk 27 rfl [] hD ?_
              refine SatD.sk 28 rfl [] hD ?_
              refine SatD.tk 29 rfl hD (fun _ hw => RunV.pick_t rfl rfl) ?_
              refine SatD.done 0 (by kernel_rfl) (SatE.thenC ?_)
              clear hD
              refine SatC.weak (e' := [(1, _), (4, _), (5, _), (6, _), (7, _), (83, _)]) (by repeat constructor) ?_
              refine SatC.cond_t rfl ?_
              refine SatC.seq ?_
              refine SatC.region ?_
              refine SatL.pu (RunV.assign rfl) rfl ?_
              refine SatL.nil (SatE.thenC ?_)
              refine SatC.ret (SatE.blk_ret (SatE.then_ret (SatE.then_ret (SatE.blk_ret (SatE.then_ret ?_)))))
              refine SatE.ret1 rfl rfl ?_
              exact ⟨rfl, hS.sub (List.nil_sublist _)⟩
            · (try simp only [cx, ne_eq] at h5)
              try (exfalso; (first | omega | exact h5 trivial | contradiction | exact h5 rfl); done)
              all_goals
              refine SatD.tk 12 rfl hD (fun _ hw => RunV.move rfl) ?_
              refine SatD.tk 14 rfl hD (fun _ hw => RunV.move rfl) ?_
              first | refine SatD.tk 15 rfl hD (fun _ hw => RunV.nil_ptr rfl) ?_ | refine SatD.tk 15 rfl hD (fun _ hw => RunV.nil_func rfl) ?_ | refine SatD.tk 15 rfl hD (fun _ hw => RunV.nil_yield rfl) ?_
              first | refine SatD.tk 16 rfl hD (fun _ hw => RunV.fieldAddrL rfl rfl rfl) ?_ | refine SatD.tk 16 rfl hD (fun _ hw => RunV.fieldAddr rfl rfl rfl) ?_
              refine SatD.tk 17 rfl hD (fun _ hw => RunV.load1 hw rfl rfl (by repeat constructor) rfl) ?_
              refine SatD.ef 13 rfl (OpW.enter rfl rfl rfl (rfl) (last_any (hS.ownT (A := (b, C 58 (tc most v2 last)) :: B2) (by repeat constructor)) hm0) ?_)
              rintro r15 w15 ⟨rfl, h⟩
              replace hS := St.callN hS h
              refine keepS (hS.sel (by repeat constructor)) (fun hD => ?_)
              refine SatD.tk 18 rfl hD (fun _ hw => RunV.neq rfl rfl) ?_
              refine SatD.tk 19 rfl hD (fun _ hw => RunV.pick_f rfl rfl) ?_
              refine SatD.tk 20 rfl hD (fun _ hw => RunV.move rfl) ?_
              refine SatD.ways 74 rfl (fun h6 => ?_) (fun h6 => ?_)
              · (try simp only [cx, ne_eq] at h6)
                try (exfalso; (first | omega | exact h6 trivial | contradiction | exact h6 rfl); done)
                all_goals
                refine SatD.sk 21 rfl [] hD ?_
                refine SatD.sk 22 rfl [] hD ?_
                refine SatD.sk 23 rfl [] hD ?_
                refine SatD.sk 24 rfl [] hD ?_
                refine SatD.sk 25 rfl [] hD ?_
                refine SatD.sk 26 rfl [] hD ?_
                refine SatD.sk 27 rfl [] hD ?_
                refine SatD.sk 28 rfl [] hD ?_
                refine SatD.tk 29 rfl hD (fun _ hw => RunV.pick_t rfl rfl) ?_
                refine SatD.done 0 (by kernel_rfl) (SatE.thenC ?_)
                clear hD
                refine SatC.weak (e' := [(1, _), (4, _), (5, _), (6, _), (7, _), (83, _)]) (by repeat constructor) ?_
                refine SatC.cond_t rfl ?_
                refine SatC.seq ?_
                refine SatC.region ?_
                refine SatL.pu (RunV.assign rfl) rfl ?_
                refine SatL.nil (SatE.thenC ?_)
                refine SatC.ret (SatE.blk_ret (SatE.then_ret (SatE.then_ret (SatE.blk_ret (SatE.then_ret ?_)))))
                refine SatE.ret1 rfl rfl ?_
                exact ⟨rfl, hS.sub (List.nil_sublist _)⟩
              · (try simp only [cx, ne_eq] at h6)
                try (exfalso; (first | omega | exact h6 trivial | contradiction | exact h6 rfl); done)
                all_goals
                refine SatD.tk 21 rfl hD (fun _ hw => RunV.move rfl) ?_
                refine SatD.tk 23 rfl hD (fun _ hw => RunV.move rfl) ?_
                first | refine SatD.tk 24 rfl hD (fun _ hw => RunV.nil_ptr rfl) ?_ | refine SatD.tk 24 rfl hD (fun _ hw => RunV.nil_func rfl) ?_ | refine SatD.tk 24 rfl hD (fun _ hw => RunV.nil_yield rfl) ?_
                first | refine SatD.tk 25 rfl hD (fun _ hw => RunV.fieldAddrL rfl rfl rfl) ?_ | refine SatD.tk 25 rfl hD (fun _ hw => RunV.fieldAddr rfl rfl rfl) ?_
                refine SatD.tk 26 rfl hD (fun _ hw => RunV.load1 hw rfl rfl (by repeat constructor) rfl) ?_
                first | refine SatD.tk 27 rfl hD (fun _ hw => RunV.lenR (by assumption) rfl rfl) ?_ | refine SatD.tk 27 rfl hD (fun _ hw => RunV.lenS rfl rfl) ?_
                refine SatD.ef 22 rfl (OpW.enter rfl rfl rfl (rfl) (count_any hsl2 (hS.ownT (A := (b, C 58 (tc most v2 last)) :: B2) (by repeat constructor)) hm0) ?_)
                rintro r16 w16 ⟨rfl, h⟩
                replace hS := St.callN hS h
                refine keepS (hS.sel (by repeat constructor)) (fun hD => ?_)
                refine SatD.tk 28 rfl hD (fun _ hw => RunV.neq rfl rfl) ?_
                refine SatD.tk 29 rfl hD (fun _ hw => RunV.pick_f rfl rfl) ?_
                refine SatD.done 0 (by kernel_rfl) (SatE.thenC ?_)
                clear hD
                refine SatC.weak (e' := [(1, _), (4, _), (5, _), (6, _), (7, _), (83, _)]) (by repeat constructor) ?_
                refine SatC.cond rfl (fun h7 => ?_) (fun h7 => ?_)
                · (try simp only [cx, ne_eq] at h7)
                  try (exfalso; (first | omega | exact h7 trivial | contradiction | exact h7 rfl); done)
                  all_goals
                  refine SatC.seq ?_
                  refine SatC.region ?_
                  refine SatL.pu (RunV.assign rfl) rfl ?_
                  refine SatL.nil (SatE.thenC ?_)
                  refine SatC.ret (SatE.blk_ret (SatE.then_ret (SatE.then_ret (SatE.blk_ret (SatE.then_ret ?_)))))
                  refine SatE.ret1 rfl rfl ?_
                  exact ⟨rfl, hS.sub (List.nil_sublist _)⟩
                · (try simp only [cx, ne_eq] at h7)
                  try (exfalso; (first | omega | exact h7 trivial | contradiction | exact h7 rfl); done)
                  all_goals
                  refine SatC.skip (SatE.blk_normal (SatE.thenC ?_))
                  refine SatC.region ?_
                  refine SatL.pu (RunV.move rfl) rfl ?_
                  refine SatL.pu (RunV.add rfl rfl (by first | exact wrapI64 (by omega) | rfl)) rfl ?_
                  refine SatL.pu (RunV.assign rfl) rfl ?_
                  refine SatL.nil ?_
                  refine SatE.again ((i + 1, rows, last, v2, B2, rv2, RB2)) ?_ (by first | omega | (dsimp only; omega)) (by repeat constructor)
                  exact ⟨by omega, by omega, ha, hk, hlen, hsl2, hsr2, hS.sel (by repeat constructor)⟩
          · skip
            clear hS
            intro b61 w12 _ hS
            refine keepS (hS.sel (by repeat constructor)) (fun hD => ?_)
            refine SatD.ef 5 rfl (OpW.buildSlice1 hS rfl rfl rfl rfl rfl (by repeat constructor) rfl rfl rfl ?_)
            clear hS
            intro b59 w13 _ hS
            refine keepS (hS.sel (by repeat constructor)) (fun hD => ?_)
            refine SatD.ef 8 rfl (OpW.enter rfl rfl rfl (rfl) ((by first | exact same_any _ _ [(getF rows y.2.1).1] [(getF rows y.2.1).1] _ ((one_row rfl).row hS (by repeat constructor) (Nat.le_of_ble_eq_true rfl)) ((one_row rfl).row hS (by repeat constructor) (Nat.le_of_ble_eq_true rfl)) | exact same_any _ _ rows rows _ (hsl3.row hS (by repeat constructor) hln) (hsr.row hS (by repeat constructor) hln))) ?_)
            rintro r14 w14 ⟨rfl, h⟩
            replace hS := St.callN hS h
            refine keepS (hS.sel (by repeat constructor)) (fun hD => ?_)
            refine SatD.tk 9 rfl hD (fun _ hw => RunV.not rfl) ?_
            refine SatD.tk 10 rfl hD (fun _ hw => RunV.pick_f rfl rfl) ?_
            refine SatD.tk 11 rfl hD (fun _ hw => RunV.move rfl) ?_
            refine SatD.ways 65 rfl (fun h5 => ?_) (fun h5 => ?_)
            · (try simp only [cx, ne_eq] at h5)
              try (exfalso; (first | omega | exact h5 trivial | contradiction | exact h5 rfl); done)
              all_goals
              refine SatD.sk 12 rfl [] hD ?_
              refine SatD.sk 13 rfl [] hD ?_
              refine SatD.sk 14 rfl [] hD ?_
              refine SatD.sk 15 rfl [] hD ?_
              refine SatD.sk 16 rfl [] hD ?_
              refine SatD.sk 17 rfl [] hD ?_
              refine SatD.sk 18 rfl [] hD ?_
              refine SatD.tk 19 rfl hD (fun _ hw => RunV.pick_t rfl rfl) ?_
              refine SatD.tk 20 rfl hD (fun _ hw => RunV.move rfl) ?_
              refine SatD.sk 21 rfl [] hD ?_
              refine SatD.sk 22 rfl [] hD ?_
              refine SatD.sk 23 rfl [] hD ?_
              refine SatD.sk 24 rfl [] hD ?_
              refine SatD.sk 25 rfl [] hD ?_
              refine SatD.sk 26 rfl [] hD ?_
              refine SatD.sk 27 rfl [] hD ?_
              refine SatD.sk 28 rfl [] hD ?_
              refine SatD.tk 29 rfl hD (fun _ hw => RunV.pick_t rfl rfl) ?_
              refine SatD.done 0 (by kernel_rfl) (SatE.thenC ?_)
              clear hD
              refine SatC.weak (e' := [(1, _), (4, _), (5, _), (6, _), (7, _), (83, _)]) (by repeat constructor) ?_
              refine SatC.cond_t rfl ?_
              refine SatC.seq ?_
              refine SatC.region ?_
              refine SatL.pu (RunV.assign rfl) rfl ?_
              refine SatL.nil (SatE.thenC ?_)
              refine SatC.ret (SatE.blk_ret (SatE.then_ret (SatE.then_ret (SatE.blk_ret (SatE.then_ret ?_)))))
              refine SatE.ret1 rfl rfl ?_
              exact ⟨rfl, hS.sub (List.nil_sublist _)⟩
            · (try simp only [cx, ne_eq] at h5)
              try (exfalso; (first | omega | exact h5 trivial | contradiction | exact h5 rfl); done)
              all_goals
              refine SatD.tk 12 rfl hD (fun _ hw => RunV.move rfl) ?_
              refine SatD.tk 14 rfl hD (fun _ hw => RunV.move rfl) ?_
              first | refine SatD.tk 15 rfl hD (fun _ hw => RunV.nil_ptr rfl) ?_ | refine SatD.tk 15 rfl hD (fun _ hw => RunV.nil_func rfl) ?_ | refine SatD.tk 15 rfl hD (fun _ hw => RunV.nil_yield rfl) ?_
              first | refine SatD.tk 16 rfl hD (fun _ hw => RunV.fieldAddrL rfl rfl rfl) ?_ | refine SatD.tk 16 rfl hD (fun _ hw => RunV.fieldAddr rfl rfl rfl) ?_
              refine SatD.tk 17 rfl hD (fun _ hw => RunV.load1 hw rfl rfl (by repeat constructor) rfl) ?_
              refine SatD.ef 13 rfl (OpW.enter rfl rfl rfl (rfl) (last_any (hS.ownT (A := (b, C 58 (tc most v2 last)) :: B2) (by repeat constructor)) hm0) ?_)
              rintro r15 w15 ⟨rfl, h⟩
              replace hS := St.callN hS h
              refine keepS (hS.sel (by repeat constructor)) (fun hD => ?_)
              refine SatD.tk 18 rfl hD (fun _ hw => RunV.neq rfl rfl) ?_
              refine SatD.tk 19 rfl hD (fun _ hw => RunV.pick_f rfl rfl) ?_
              refine SatD.tk 20 rfl hD (fun _ hw => RunV.move rfl) ?_
              refine SatD.ways 74 rfl (fun h6 => ?_) (fun h6 => ?_)
              · (try simp only [cx, ne_eq] at h6)
                try (exfalso; (first | omega | exact h6 trivial | contradiction | exact h6 rfl); done)
                all_goals
                refine SatD.sk 21 rfl [] hD ?_
                refine SatD.sk 22 rfl [] hD ?_
                refine SatD.sk 23 rfl [] hD ?_
                refine SatD.sk 24 rfl [] hD ?_
                refine SatD.sk 25 rfl [] hD ?_
                refine SatD.sk 26 rfl [] hD ?_
                refine SatD.sk 27 rfl [] hD ?_
                refine SatD.sk 28 rfl [] hD ?_
                refine SatD.tk 29 rfl hD (fun _ hw => RunV.pick_t rfl rfl) ?_
                refine SatD.done 0 (by kernel_rfl) (SatE.thenC ?_)
                clear hD
                refine SatC.weak (e' := [(1, _), (4, _), (5, _), (6, _), (7, _), (83, _)]) (by repeat constructor) ?_
                refine SatC.cond_t rfl ?_
                refine SatC.seq ?_
                refine SatC.region ?_
                refine SatL.pu (RunV.assign rfl) rfl ?_
                refine SatL.nil (SatE.thenC ?_)
                refine SatC.ret (SatE.blk_ret (SatE.then_ret (SatE.then_ret (SatE.blk_ret (SatE.then_ret ?_)))))
                refine SatE.ret1 rfl rfl ?_
                exact ⟨rfl, hS.sub (List.nil_sublist _)⟩
              · (try simp only [cx, ne_eq] at h6)
                try (exfalso; (first | omega | exact h6 trivial | contradiction | exact h6 rfl); done)
                all_goals
                refine SatD.tk 21 rfl hD (fun _ hw => RunV.move rfl) ?_
                refine SatD.tk 23 rfl hD (fun _ hw => RunV.move rfl) ?_
                first | refine SatD.tk 24 rfl hD (fun _ hw => RunV.nil_ptr rfl) ?_ | refine SatD.tk 24 rfl hD (fun _ hw => RunV.nil_func rfl) ?_ | refine SatD.tk 24 rfl hD (fun _ hw => RunV.nil_yield rfl) ?_
                first | refine SatD.tk 25 rfl hD (fun _ hw => RunV.fieldAddrL rfl rfl rfl) ?_ | refine SatD.tk 25 rfl hD (fun _ hw => RunV.fieldAddr rfl rfl rfl) ?_
                refine SatD.tk 26 rfl hD (fun _ hw => RunV.load1 hw rfl rfl (by repeat constructor) rfl) ?_
                first | refine SatD.tk 27 rfl hD (fun _ hw => RunV.lenR (by assumption) rfl rfl) ?_ | refine SatD.tk 27 rfl hD (fun _ hw => RunV.lenS rfl rfl) ?_
                refine SatD.ef 22 rfl (OpW.enter rfl rfl rfl (rfl) (count_any hsl2 (hS.ownT (A := (b, C 58 (tc most v2 last)) :: B2) (by repeat constructor)) hm0) ?_)
                rintro r16 w16 ⟨rfl, h⟩
                replace hS := St.callN hS h
                refine keepS (hS.sel (by repeat constructor)) (fun hD => ?_)
                refine SatD.tk 28 rfl hD (fun _ hw => RunV.neq rfl rfl) ?_
                refine SatD.tk 29 rfl hD (fun _ hw => RunV.pick_f rfl rfl) ?_
                refine SatD.done 0 (by kernel_rfl) (SatE.thenC ?_)
                clear hD
                refine SatC.weak (e' := [(1, _), (4, _), (5, _), (6, _), (7, _), (83, _)]) (by repeat constructor) ?_
                refine SatC.cond rfl (fun h7 => ?_) (fun h7 => ?_)
                · (try simp only [cx, ne_eq] at h7)
                  try (exfalso; (first | omega | exact h7 trivial | contradiction | exact h7 rfl); done)
                  all_goals
                  refine SatC.seq ?_
                  refine SatC.region ?_
                  refine SatL.pu (RunV.assign rfl) rfl ?_
                  refine SatL.nil (SatE.thenC ?_)
                  refine SatC.ret (SatE.blk_ret (SatE.then_ret (SatE.then_ret (SatE.blk_ret (SatE.then_ret ?_)))))
                  refine SatE.ret1 rfl rfl ?_
                  exact ⟨rfl, hS.sub (List.nil_sublist _)⟩
                · (try simp only [cx, ne_eq] at h7)
                  try (exfalso; (first | omega | exact h7 trivial | contradiction | exact h7 rfl); done)
                  all_goals
                  refine SatC.skip (SatE.blk_normal (SatE.thenC ?_))
                  refine SatC.region ?_
                  refine SatL.pu (RunV.move rfl) rfl ?_
                  refine SatL.pu (RunV.add rfl rfl (by first | exact wrapI64 (by omega) | rfl)) rfl ?_
                  refine SatL.pu (RunV.assign rfl) rfl ?_
                  refine SatL.nil ?_
                  refine SatE.again ((i + 1, rows, last, v2, B2, rv2, RB2)) ?_ (by first | omega | (dsimp only; omega)) (by repeat constructor)
                  exact ⟨by omega, by omega, ha, hk, hlen, hsl2, hsr2, hS.sel (by repeat constructor)⟩
    · (try simp only [cx, ne_eq] at h2)
      try (exfalso; (first | omega | exact h2 trivial | contradiction | exact h2 rfl); done)
      all_goals
      refine SatC.exit (SatE.then_exit (SatE.then_exit (SatE.blk_exit (SatE.thenC ?_))))
      refine SatC.seq ?_
      have hln : (rows.map tr).length ≤ 9223372036854775807 := by rw [List.length_map]; omega
      refine SatC.drawnT 11 hS (hS) (by kernel_rfl) ?_
      clear hS
      intro w4 hh hS hD
      refine SatD.tk 0 rfl hD (fun _ hw => RunV.move rfl) ?_
      refine SatD.tk 2 rfl hD (fun _ hw => RunV.move rfl) ?_
      first | refine SatD.tk 3 rfl hD (fun _ hw => RunV.nil_ptr rfl) ?_ | refine SatD.tk 3 rfl hD (fun _ hw => RunV.nil_func rfl) ?_ | refine SatD.tk 3 rfl hD (fun _ hw => RunV.nil_yield rfl) ?_
      first | refine SatD.tk 4 rfl hD (fun _ hw => RunV.fieldAddrL rfl rfl rfl) ?_ | refine SatD.tk 4 rfl hD (fun _ hw => RunV.fieldAddr rfl rfl rfl) ?_
      refine SatD.tk 5 rfl hD (fun _ hw => RunV.load1 hw rfl rfl (by repeat constructor) rfl) ?_
      refine SatD.ef 1 rfl (OpW.enter rfl rfl rfl (rfl) (list_any hsl (by omega) (hS.ownT (A := (b, C 58 (tc most tv last)) :: B) (by repeat constructor)) hm0) ?_)
      rintro r5 w5 ⟨B3, hsl3, h⟩
      replace hS := hS.call0 h
      refine keepS (hS.sel (by repeat constructor)) (fun hD => ?_)
      refine SatD.ef 6 rfl (OpW.enter rfl rfl rfl (rfl) ((by first | exact same_any _ _ [(getF rows y.2.1).1] [(getF rows y.2.1).1] _ ((one_row rfl).row hS (by repeat constructor) (Nat.le_of_ble_eq_true rfl)) ((one_row rfl).row hS (by repeat constructor) (Nat.le_of_ble_eq_true rfl)) | exact same_any _ _ rows rows _ (hsl3.row hS (by repeat constructor) hln) (hsr.row hS (by repeat constructor) hln))) ?_)
      rintro r6 w6 ⟨rfl, h⟩
      replace hS := St.callN hS h
      refine keepS (hS.sel (by repeat constructor)) (fun hD => ?_)
      refine SatD.tk 7 rfl hD (fun _ hw => RunV.move rfl) ?_
      refine SatD.ways 91 rfl (fun h3 => ?_) (fun h3 => ?_)
      · (try simp only [cx, ne_eq] at h3)
        try (exfalso; (first | omega | exact h3 trivial | contradiction | exact h3 rfl); done)
        all_goals
        refine SatD.ef 8 rfl (OpW.enter rfl rfl rfl (rfl) (works_any _) ?_)
        rintro r7 w7 ⟨rfl, h⟩
        replace hS := St.callN hS h
        refine keepS (hS.sel (by repeat constructor)) (fun hD => ?_)
        refine SatD.tk 9 rfl hD (fun _ hw => RunV.pick_t rfl rfl) ?_
        refine SatD.tk 10 rfl hD (fun _ hw => RunV.assign rfl) ?_
        refine SatD.done 0 (by kernel_rfl) (SatE.thenC ?_)
        clear hD
        refine SatC.ret ?_
        refine SatE.ret1 rfl rfl ?_
        exact ⟨rfl, hS.sub (List.nil_sublist _)⟩
      · (try simp only [cx, ne_eq] at h3)
        try (exfalso; (first | omega | exact h3 trivial | contradiction | exact h3 rfl); done)
        all_goals
        refine SatD.sk 8 rfl [] hD ?_
        refine SatD.tk 9 rfl hD (fun _ hw => RunV.pick_f rfl rfl) ?_
        refine SatD.tk 10 rfl hD (fun _ hw => RunV.assign rfl) ?_
        refine SatD.done 0 (by kernel_rfl) (SatE.thenC ?_)
        clear hD
        refine SatC.ret ?_
        refine SatE.ret1 rfl rfl ?_
        exact ⟨rfl, hS.sub (List.nil_sublist _)⟩
  · (try simp only [cx, ne_eq] at h1)
    try (exfalso; (first | omega | exact h1 trivial | contradiction | exact h1 rfl); done)
    all_goals
    refine SatL.guard_n rfl rfl rfl rfl ?_
    refine SatL.pu (RunV.pick_f rfl rfl) rfl ?_
    refine SatL.nil (SatE.thenC ?_)
    refine SatC.cond_f rfl ?_
    refine SatC.exit (SatE.then_exit (SatE.then_exit (SatE.blk_exit (SatE.thenC ?_))))
    refine SatC.seq ?_
    have hln : (rows.map tr).length ≤ 9223372036854775807 := by rw [List.length_map]; omega
    refine SatC.drawnT 11 hS (hS) (by kernel_rfl) ?_
    clear hS
    intro w4 hh hS hD
    refine SatD.tk 0 rfl hD (fun _ hw => RunV.move rfl) ?_
    refine SatD.tk 2 rfl hD (fun _ hw => RunV.move rfl) ?_
    first | refine SatD.tk 3 rfl hD (fun _ hw => RunV.nil_ptr rfl) ?_ | refine SatD.tk 3 rfl hD (fun _ hw => RunV.nil_func rfl) ?_ | refine SatD.tk 3 rfl hD (fun _ hw => RunV.nil_yield rfl) ?_
    first | refine SatD.tk 4 rfl hD (fun _ hw => RunV.fieldAddrL rfl rfl rfl) ?_ | refine SatD.tk 4 rfl hD (fun _ hw => RunV.fieldAddr rfl rfl rfl) ?_
    refine SatD.tk 5 rfl hD (fun _ hw => RunV.load1 hw rfl rfl (by repeat constructor) rfl) ?_
    refine SatD.ef 1 rfl (OpW.enter rfl rfl rfl (rfl) (list_any hsl (by omega) (hS.ownT (A := (b, C 58 (tc most tv last)) :: B) (by repeat constructor)) hm0) ?_)
    rintro r5 w5 ⟨B3, hsl3, h⟩
    replace hS := hS.call0 h
    refine keepS (hS.sel (by repeat constructor)) (fun hD => ?_)
    refine SatD.ef 6 rfl (OpW.enter rfl rfl rfl (rfl) ((by first | exact same_any _ _ [(getF rows y.2.1).1] [(getF rows y.2.1).1] _ ((one_row rfl).row hS (by repeat constructor) (Nat.le_of_ble_eq_true rfl)) ((one_row rfl).row hS (by repeat constructor) (Nat.le_of_ble_eq_true rfl)) | exact same_any _ _ rows rows _ (hsl3.row hS (by repeat constructor) hln) (hsr.row hS (by repeat constructor) hln))) ?_)
    rintro r6 w6 ⟨rfl, h⟩
    replace hS := St.callN hS h
    refine keepS (hS.sel (by repeat constructor)) (fun hD => ?_)
    refine SatD.tk 7 rfl hD (fun _ hw => RunV.move rfl) ?_
    refine SatD.ways 91 rfl (fun h2 => ?_) (fun h2 => ?_)
    · (try simp only [cx, ne_eq] at h2)
      try (exfalso; (first | omega | exact h2 trivial | contradiction | exact h2 rfl); done)
      all_goals
      refine SatD.ef 8 rfl (OpW.enter rfl rfl rfl (rfl) (works_any _) ?_)
      rintro r7 w7 ⟨rfl, h⟩
      replace hS := St.callN hS h
      refine keepS (hS.sel (by repeat constructor)) (fun hD => ?_)
      refine SatD.tk 9 rfl hD (fun _ hw => RunV.pick_t rfl rfl) ?_
      refine SatD.tk 10 rfl hD (fun _ hw => RunV.assign rfl) ?_
      refine SatD.done 0 (by kernel_rfl) (SatE.thenC ?_)
      clear hD
      refine SatC.ret ?_
      refine SatE.ret1 rfl rfl ?_
      exact ⟨rfl, hS.sub (List.nil_sublist _)⟩
    · (try simp only [cx, ne_eq] at h2)
      try (exfalso; (first | omega | exact h2 trivial | contradiction | exact h2 rfl); done)
      all_goals
      refine SatD.sk 8 rfl [] hD ?_
      refine SatD.tk 9 rfl hD (fun _ hw => RunV.pick_f rfl rfl) ?_
      refine SatD.tk 10 rfl hD (fun _ hw => RunV.assign rfl) ?_
      refine SatD.done 0 (by kernel_rfl) (SatE.thenC ?_)
      clear hD
      refine SatC.ret ?_
      refine SatE.ret1 rfl rfl ?_
      exact ⟨rfl, hS.sub (List.nil_sublist _)⟩
theorem tablePlays_lifted (os : Os) (started : os.Started) (H : Type) (enc : TypeId × Value → H) :
    ReturnsInHanded {} Try.checked os 5 .any (Rows.tablePlaysSpec.pre6 enc Try.prog Try.f5 Rows.tablePlaysRow.domain false) (Rows.tablePlaysSpec.post enc Try.prog Try.f5 false true false false) := by
  refine law_returns (C := Try.checked) (b := 4) (by kernel_rfl) started (by kernel_rfl) Try.func5
    (ChangeSpec.witness6 (enc := enc) (C := Try.checked) false ⟨#[], #[.int .i64 0, .slice none 0 0], []⟩ 8 (by kernel_rfl) (by kernel_rfl) (by kernel_rfl) (by kernel_rfl))
    rfl rfl (by kernel_rfl) (by kernel_rfl) (by kernel_rfl) (fun ds h => ?_) ?_
  · rw [Try.params5] at h
    match ds, h with
    | [_, _], _ => rfl
  intro W base args ds ps hval hA hsz
  rw [Try.params5] at hA hval
  obtain ⟨v0, v1, d0, d1, q0, q1, hargs, rfl, rfl, h0, h1⟩ := trodAll_two hA
  subst hargs
  obtain ⟨a0, rfl, rfl, rfl, b0⟩ := open_int Try.underlying3 (hval 0 3 v0 rfl rfl) h0
  replace b0 := bnd_i64 b0
  obtain ⟨xs1, hr1, hx1⟩ := open_rows (l := [3, 9, 3, 25]) 6 Try.underlying22 (by kernel_rfl) (by kernel_rfl) (by decide) (hval 1 22 v1 rfl rfl) h1
  obtain ⟨ys1, rfl, hy1⟩ := rows_map (enc' := spr) (q := fun y => y.2.1.length ≤ 9223372036854775807) (fun r hr => by
    obtain ⟨u0, u1, u2, u3, rfl, l0, l1, l2, l3⟩ := allLeaf_list4 hr
    obtain ⟨n0, rfl, e0⟩ := leaf_int Try.underlying3 l0
    obtain ⟨n1, rfl, e1⟩ := leaf_string Try.underlying9 l1
    obtain ⟨n2, rfl, e2⟩ := leaf_int Try.underlying3 l2
    obtain ⟨n3, rfl, e3⟩ := leaf_int Try.underlying25 l3
    exact ⟨⟨n0, n1.data.toList, n2, n3⟩, rfl, str_max e1⟩) xs1 hx1
  exact law_done (plays_any a0 _ ys1 W hr1 hy1)
theorem tablePlays_holds : Rows.TablePlaysSaid :=
  OpenClaim.holds_of_wide 5 Try.f5 rfl rfl rfl rfl rfl rfl rfl ⟨rfl, rfl, rfl, rfl, rfl⟩ rfl rfl rfl rfl rfl (by kernel_rfl) Try.func5 (by kernel_rfl)
    (of_decide_eq_true (by kernel_rfl)) (by unfold Func.isWrapper; first | (rw [if_pos (by decide +kernel)]; kernel_rfl) | (rw [if_neg (by decide +kernel)]; exact ⟨rfl, rfl⟩))
    (fun os started H enc _ => tablePlays_lifted os started H enc)
end Go.Proofs.Ytdoinfpkfbfjaaa
