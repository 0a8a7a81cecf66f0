/- TableRises: whatever is put and dropped, the keys rise and the stamps stay below the last one. -/
import Derived.Test.YtdoinfpkfbfjaaaW
import Derived.Test.YtdoinfpkfbfjaaaK7
import Derived.Test.YtdoinfpkfbfjaaaK16
import Derived.Test.YtdoinfpkfbfjaaaRows
set_option linter.unusedSimpArgs false
set_option linter.unusedVariables false
set_option maxRecDepth 100000
set_option maxHeartbeats 1000000
namespace Go.Proofs.Ytdoinfpkfbfjaaa
open Go.RowKit Go.ChangeShapes Go.WideShapes Go.ChangeAt
abbrev Sp := Int × List UInt8 × Int × Int
@[reducible] def sp (y : Sp) : List Value := [.int .i64 y.1, str y.2.1, .int .i64 y.2.2.1, .int .u64 y.2.2.2]
theorem rises_any (v : Value) (ys : List Sp) (w : World) (hr : RdRow w v 4 (ys.map sp)) (hys : ∀ y ∈ ys, 0 ≤ y.2.2.2 ∧ y.2.2.2 ≤ 18446744073709551615) : Ret Try.prog 3 #[v] w fun u w' => u = .bool true ∧ St w [] [] w' := by
  have hS := St.init0 w
  obtain ⟨bl, ol, cl, hvl, hmaxl, hcl, hltl⟩ := hr.open
  simp only [List.length_map] at hvl hmaxl hltl
  refine Ret.enter Try.func3 Try.ntmps3 rfl rfl ?_
  simp only [argEnv, Nat.reduceAdd]
  refine SatC.seq ?_
  refine SatC.region ?_
  refine SatL.pu (RunV.assign rfl) rfl ?_
  refine SatL.nil (SatE.thenC ?_)
  refine SatC.seq ?_
  refine SatC.region ?_
  refine SatL.op rfl (OpW.enter rfl rfl rfl (rfl) (tnew_any _ _) ?_)
  rintro r1 w1 ⟨b, rfl, h⟩
  replace hS := hS.callT (A := []) (by repeat constructor) h
  refine SatL.pu (RunV.assign rfl) rfl ?_
  refine SatL.nil (SatE.thenC ?_)
  refine SatC.seq ?_
  refine SatC.region ?_
  refine SatL.pu (RunV.assign rfl) rfl ?_
  refine SatL.nil (SatE.thenC ?_)
  refine SatC.seq ?_
  refine SatC.seq ?_
  refine SatC.region ?_
  refine SatL.pu (RunV.assign rfl) rfl ?_
  refine SatL.nil (SatE.thenC ?_)
  refine SatC.block ?_
  refine SatC.loopK (G := Nat × List Tr × Value × List (Nat × Obj) × Int × Int) (V := fun ⟨i, rows, tv, B, last, idx⟩ => [(5, .int .i64 (i : Int)), (4, .int .u64 idx)]) (Cn := [(0, _), (2, _), (3, _)]) (I := fun ⟨i, rows, tv, B, last, idx⟩ w' => i ≤ ys.length ∧ i ≤ 80 ∧ rows.length ≤ i ∧ (0 ≤ last ∧ last ≤ idx ∧ idx ≤ 8 * i) ∧ Asc rows ∧ AllB rows last ∧ Sl 30 4 tv (rows.map tr) B ∧ St w [] ((b, C 58 (tc 20 tv last)) :: B) w') (μ := fun ⟨i, rows, tv, B, last, idx⟩ => ys.length - i) (0, [], .slice none 0 0, [], 0, 0) ?_ (by repeat constructor) ?_
  · exact ⟨Nat.zero_le _, by omega, Nat.le_refl _, ⟨by omega, by omega, by omega⟩, List.Pairwise.nil, fun r hr => (by cases hr), .nil, hS⟩
  clear hS
  rintro ⟨i, rows, tv, B, last, idx⟩ w2 ⟨hi, hi8, hln, hix, hasc, hall, hsl, hS⟩
  refine SatC.weak (e' := [(0, _), (2, _), (3, _), (4, _), (5, _)]) (by repeat constructor) ?_
  refine SatC.seq ?_
  refine SatC.seq ?_
  refine SatC.region ?_
  refine SatL.pu (RunV.move rfl) rfl ?_
  refine SatL.pu (RunV.move rfl) rfl ?_
  first | refine SatL.pu (RunV.lenR (by assumption) rfl rfl) rfl ?_ | refine SatL.pu (RunV.lenS rfl rfl) rfl ?_
  refine SatL.pu (RunV.lss rfl rfl) rfl ?_
  refine SatL.pu (RunV.move rfl) rfl ?_
  refine SatL.guard rfl rfl rfl (fun h1 => ?_) (fun h1 => ?_)
  · (try simp only [cx, ne_eq] at h1)
    try (exfalso; (first | omega | exact h1 trivial | contradiction | exact h1 (hrise (by omega))); done)
    all_goals
    refine SatL.pu (RunV.move rfl) rfl ?_
    refine SatL.guard_y rfl rfl ?_
    refine SatL.pu (RunV.lss rfl rfl) rfl ?_
    refine SatL.pu (RunV.pick_t rfl rfl) rfl ?_
    refine SatL.nil (SatE.thenC ?_)
    refine SatC.cond rfl (fun h2 => ?_) (fun h2 => ?_)
    · (try simp only [cx, ne_eq] at h2)
      try (exfalso; (first | omega | exact h2 trivial | contradiction | exact h2 (hrise (by omega))); done)
      all_goals
      refine SatC.skip (SatE.thenC ?_)
      refine SatC.seq ?_
      refine SatC.block ?_
      refine SatC.seq ?_
      obtain ⟨y, hy⟩ := get_some ys i (by omega)
      have hyb := hys y (List.mem_of_getElem? hy)
      have hmod : 0 ≤ y.2.2.2.tmod 9 ∧ y.2.2.2.tmod 9 < 9 := by rw [Int.tmod_eq_emod_of_nonneg hyb.1]; omega
      refine SatC.region ?_
      refine SatL.pu (RunV.move rfl) rfl ?_
      refine SatL.pu (RunV.move rfl) rfl ?_
      refine SatL.pu (RunV.move rfl) rfl ?_
      first | refine SatL.pu (RunV.indexR (by assumption) rfl rfl rfl (by omega) (by omega) rfl) rfl ?_ | refine SatL.pu (RunV.indexS rfl rfl rfl (by omega) (by omega) rfl) rfl ?_
      first | refine SatL.pu (RunV.fieldAddrL rfl rfl rfl) rfl ?_ | refine SatL.pu (RunV.fieldAddr rfl rfl rfl) rfl ?_
      first | refine SatL.pu (RunV.loadR1f (RdC.st (by assumption) hS List.not_mem_nil) rfl rfl (by first | assumption | exact map_get (by assumption)) rfl) rfl ?_ | refine SatL.pu (RunV.loadR1f (Sl.rd (by assumption) hS (by repeat constructor)) rfl rfl (by first | assumption | exact map_get (by assumption)) rfl) rfl ?_
      refine SatL.pu (RunV.rem rfl rfl (by first | decide | omega) rfl) rfl ?_
      refine SatL.pu (RunV.add rfl rfl (by first | exact wrapU64 (by omega) | rfl)) rfl ?_
      refine SatL.pu (RunV.assign rfl) rfl ?_
      refine SatL.nil (SatE.thenC ?_)
      refine SatC.seq ?_
      refine SatC.weak (e' := [(0, _), (2, _), (3, _), (4, _), (5, _)]) (by repeat constructor) ?_
      obtain ⟨j, hj⟩ : ∃ j, idx + y.2.2.2.tmod 9 = j := ⟨_, rfl⟩
      rw [hj]
      refine SatC.region ?_
      refine SatL.pu (RunV.move rfl) rfl ?_
      refine SatL.pu (RunV.move rfl) rfl ?_
      first | refine SatL.pu (RunV.indexR (by assumption) rfl rfl rfl (by omega) (by omega) rfl) rfl ?_ | refine SatL.pu (RunV.indexS rfl rfl rfl (by omega) (by omega) rfl) rfl ?_
      first | refine SatL.pu (RunV.fieldAddrL rfl rfl rfl) rfl ?_ | refine SatL.pu (RunV.fieldAddr rfl rfl rfl) rfl ?_
      first | refine SatL.pu (RunV.loadR1f (RdC.st (by assumption) hS List.not_mem_nil) rfl rfl (by first | assumption | exact map_get (by assumption)) rfl) rfl ?_ | refine SatL.pu (RunV.loadR1f (Sl.rd (by assumption) hS (by repeat constructor)) rfl rfl (by first | assumption | exact map_get (by assumption)) rfl) rfl ?_
      refine SatL.pu (RunV.eql rfl rfl) rfl ?_
      refine SatL.nil (SatE.thenC ?_)
      refine SatC.cond rfl (fun h3 => ?_) (fun h3 => ?_)
      · (try simp only [cx, ne_eq] at h3)
        try (exfalso; (first | omega | exact h3 trivial | contradiction | exact h3 (hrise (by omega))); done)
        all_goals
        refine SatC.region ?_
        refine SatL.pu (RunV.move rfl) rfl ?_
        refine SatL.pu (RunV.move rfl) rfl ?_
        refine SatL.pu (RunV.move rfl) rfl ?_
        first | refine SatL.pu (RunV.indexR (by assumption) rfl rfl rfl (by omega) (by omega) rfl) rfl ?_ | refine SatL.pu (RunV.indexS rfl rfl rfl (by omega) (by omega) rfl) rfl ?_
        first | refine SatL.pu (RunV.fieldAddrL rfl rfl rfl) rfl ?_ | refine SatL.pu (RunV.fieldAddr rfl rfl rfl) rfl ?_
        first | refine SatL.pu (RunV.loadR1f (RdC.st (by assumption) hS List.not_mem_nil) rfl rfl (by first | assumption | exact map_get (by assumption)) rfl) rfl ?_ | refine SatL.pu (RunV.loadR1f (Sl.rd (by assumption) hS (by repeat constructor)) rfl rfl (by first | assumption | exact map_get (by assumption)) rfl) rfl ?_
        refine SatL.pu (RunV.move rfl) rfl ?_
        refine SatL.op rfl (OpW.enter rfl rfl rfl (rfl) (drop_law (rows := rows) y.2.1 j hsl (by omega) (hS.ownT (by repeat constructor)) (by decide) hasc hall (by omega)) ?_)
        rintro r3 w3 ⟨rows2, v2, B2, last2, ha2, hb2, hl2, hx2, hs2, h⟩
        replace hS := hS.callT (A := (b, C 58 (tc 20 tv last)) :: B) (by repeat constructor) h
        refine SatL.nil (SatE.blk_normal (SatE.thenC ?_))
        refine SatC.weak (e' := [(0, _), (2, _), (3, _), (4, _), (5, _)]) (by repeat constructor) ?_
        refine SatC.region ?_
        refine SatL.pu (RunV.move rfl) rfl ?_
        refine SatL.pu (RunV.add rfl rfl (by first | exact wrapI64 (by omega) | rfl)) rfl ?_
        refine SatL.pu (RunV.assign rfl) rfl ?_
        refine SatL.nil ?_
        refine SatE.again ((i + 1, rows2, v2, B2, last2, j)) ?_ (by first | omega | (dsimp only; omega)) (by repeat constructor)
        exact ⟨by omega, by omega, by omega, ⟨by omega, by omega, by omega⟩, ha2, hb2, hs2, hS.sel (by repeat constructor)⟩
      · (try simp only [cx, ne_eq] at h3)
        try (exfalso; (first | omega | exact h3 trivial | contradiction | exact h3 (hrise (by omega))); done)
        all_goals
        refine SatC.drawnT 12 hS (hS) (by kernel_rfl) ?_
        clear hS
        intro w3 hh hS hD
        refine SatD.tk 0 rfl hD (fun _ hw => RunV.move rfl) ?_
        refine SatD.tkp 1 rfl [5, 4, 3] hD (fun _ hw => RunV.move rfl) ?_
        refine SatD.tkp 2 rfl [5, 4, 3] hD (fun _ hw => RunV.move rfl) ?_
        first | refine SatD.tkp 3 rfl [5, 4] hD (fun _ hw => RunV.indexR (by assumption) rfl rfl rfl (by omega) (by omega) rfl) ?_ | refine SatD.tkp 3 rfl [5, 4] hD (fun _ hw => RunV.indexS rfl rfl rfl (by omega) (by omega) rfl) ?_
        first | refine SatD.tkp 4 rfl [5] hD (fun _ hw => RunV.fieldAddrL rfl rfl rfl) ?_ | refine SatD.tkp 4 rfl [5] hD (fun _ hw => RunV.fieldAddr rfl rfl rfl) ?_
        first | refine SatD.tk 5 rfl hD (fun _ hw => RunV.loadR1f (RdC.st (by assumption) hw List.not_mem_nil) rfl rfl (by first | assumption | exact map_get (by assumption)) rfl) ?_ | refine SatD.tk 5 rfl hD (fun _ hw => RunV.loadR1f (Sl.rd (by assumption) hw (by repeat constructor)) rfl rfl (by first | assumption | exact map_get (by assumption)) rfl) ?_
        refine SatD.tkp 6 rfl [10, 9, 8] hD (fun _ hw => RunV.move rfl) ?_
        refine SatD.tkp 7 rfl [10, 9, 8] hD (fun _ hw => RunV.move rfl) ?_
        first | refine SatD.tkp 8 rfl [10, 9] hD (fun _ hw => RunV.indexR (by assumption) rfl rfl rfl (by omega) (by omega) rfl) ?_ | refine SatD.tkp 8 rfl [10, 9] hD (fun _ hw => RunV.indexS rfl rfl rfl (by omega) (by omega) rfl) ?_
        first | refine SatD.tkp 9 rfl [10] hD (fun _ hw => RunV.fieldAddrL rfl rfl rfl) ?_ | refine SatD.tkp 9 rfl [10] hD (fun _ hw => RunV.fieldAddr rfl rfl rfl) ?_
        first | refine SatD.tk 10 rfl hD (fun _ hw => RunV.loadR1f (RdC.st (by assumption) hw List.not_mem_nil) rfl rfl (by first | assumption | exact map_get (by assumption)) rfl) ?_ | refine SatD.tk 10 rfl hD (fun _ hw => RunV.loadR1f (Sl.rd (by assumption) hw (by repeat constructor)) rfl rfl (by first | assumption | exact map_get (by assumption)) rfl) ?_
        refine SatD.tk 11 rfl hD (fun _ hw => RunV.move rfl) ?_
        refine SatD.effF (by kernel_rfl) rfl rfl (OpW.enter rfl rfl rfl (rfl) (put_law (rows := rows) y.2.1 y.2.2.1 j hsl (by omega) (hS.ownT (by repeat constructor)) (by decide) hasc hall (by omega)) ?_)
        rintro r4 w4 ⟨rows2, v2, B2, last2, ha2, hb2, hl2, hx2, hs2, h⟩
        replace hS := hS.callT (A := (b, C 58 (tc 20 tv last)) :: B) (by repeat constructor) h
        refine SatD.done 0 (by kernel_rfl) (SatE.blk_normal (SatE.thenC ?_))
        clear hD
        refine SatC.weak (e' := [(0, _), (2, _), (3, _), (4, _), (5, _)]) (by repeat constructor) ?_
        refine SatC.region ?_
        refine SatL.pu (RunV.move rfl) rfl ?_
        refine SatL.pu (RunV.add rfl rfl (by first | exact wrapI64 (by omega) | rfl)) rfl ?_
        refine SatL.pu (RunV.assign rfl) rfl ?_
        refine SatL.nil ?_
        refine SatE.again ((i + 1, rows2, v2, B2, last2, j)) ?_ (by first | omega | (dsimp only; omega)) (by repeat constructor)
        exact ⟨by omega, by omega, by omega, ⟨by omega, by omega, by omega⟩, ha2, hb2, hs2, hS.sel (by repeat constructor)⟩
    · (try simp only [cx, ne_eq] at h2)
      try (exfalso; (first | omega | exact h2 trivial | contradiction | exact h2 (hrise (by omega))); done)
      all_goals
      refine SatC.exit (SatE.then_exit (SatE.then_exit (SatE.blk_exit (SatE.thenC ?_))))
      refine SatC.seq ?_
      refine SatC.region ?_
      refine SatL.pu (RunV.move rfl) rfl ?_
      refine SatL.op rfl (OpW.enter rfl rfl rfl (rfl) (list_any hsl (by omega) (hS.ownT (by repeat constructor)) (by decide)) ?_)
      rintro r3 w3 ⟨B3, hsl3, h⟩
      replace hS := hS.call0 h
      refine SatL.pu (RunV.assign rfl) rfl ?_
      refine SatL.nil (SatE.thenC ?_)
      refine SatC.seq ?_
      refine SatC.seq ?_
      refine SatC.weak (e' := [(2, _), (3, _), (4, _), (6, _)]) (by repeat constructor) ?_
      obtain ⟨c3, hv3⟩ := hsl3.slv
      simp only [List.length_map] at hv3
      refine SatC.region ?_
      refine SatL.pu (RunV.assign rfl) rfl ?_
      refine SatL.nil (SatE.thenC ?_)
      refine SatC.block ?_
      refine SatC.loopK (G := Nat) (V := fun n => [(7, .int .i64 (n : Int))]) (Cn := [(3, _), (4, _), (6, _), (2, _)]) (I := fun n w' => n ≤ rows.length ∧ St w [] (B3 ++ (b, C 58 (tc 20 tv last)) :: B) w') (μ := fun n => rows.length - n) 0 ?_ (by repeat constructor) ?_
      · exact ⟨Nat.zero_le _, hS⟩
      clear hS
      rintro n w4 ⟨hn, hS⟩
      refine SatC.weak (e' := [(2, _), (3, _), (4, _), (6, _), (7, _)]) (by repeat constructor) ?_
      refine SatC.seq ?_
      refine SatC.seq ?_
      refine SatC.region ?_
      refine SatL.pu (RunV.move rfl) rfl ?_
      refine SatL.pu (RunV.move rfl) rfl ?_
      first | refine SatL.pu (RunV.lenR (by assumption) rfl rfl) rfl ?_ | refine SatL.pu (RunV.lenS rfl rfl) rfl ?_
      refine SatL.pu (RunV.lss rfl rfl) rfl ?_
      refine SatL.nil (SatE.thenC ?_)
      refine SatC.cond rfl (fun h3 => ?_) (fun h3 => ?_)
      · (try simp only [cx, ne_eq] at h3)
        try (exfalso; (first | omega | exact h3 trivial | contradiction | exact h3 (hrise (by omega))); done)
        all_goals
        refine SatC.skip (SatE.thenC ?_)
        refine SatC.seq ?_
        refine SatC.block ?_
        refine SatC.seq ?_
        obtain ⟨z, hz⟩ := get_some rows n (by omega)
        have hzb := hall z (List.mem_of_getElem? hz)
        have hz' : rows.getD n zr = z := by simp [hz]
        have hp : 0 < n → rows[((n : Int) - 1).toNat]? = some (rows.getD (n - 1) zr) := fun h => by
          rw [show ((n : Int) - 1).toNat = n - 1 by omega]
          exact getD_at (by omega)
        have hrise := fun h : 0 < n => asc_get hasc (show n - 1 < n by omega) (by omega)
        rw [hz'] at hrise
        refine SatC.drawnT 39 hS (hS) (by kernel_rfl) ?_
        clear hS
        intro w5 hh hS hD
        refine SatD.tk 0 rfl hD (fun _ hw => RunV.move rfl) ?_
        refine SatD.tk 1 rfl hD (fun _ hw => RunV.move rfl) ?_
        first | refine SatD.tk 2 rfl hD (fun _ hw => RunV.indexR (by assumption) rfl rfl rfl (by omega) (by omega) rfl) ?_ | refine SatD.tk 2 rfl hD (fun _ hw => RunV.indexS rfl rfl rfl (by omega) (by omega) rfl) ?_
        first | refine SatD.tk 3 rfl hD (fun _ hw => RunV.fieldAddrL rfl rfl rfl) ?_ | refine SatD.tk 3 rfl hD (fun _ hw => RunV.fieldAddr rfl rfl rfl) ?_
        first | refine SatD.tk 4 rfl hD (fun _ hw => RunV.loadR1f (RdC.st (by assumption) hw List.not_mem_nil) rfl rfl (by first | assumption | exact map_get (by assumption)) rfl) ?_ | refine SatD.tk 4 rfl hD (fun _ hw => RunV.loadR1f (Sl.rd (by assumption) hw (by repeat constructor)) rfl rfl (by first | assumption | exact map_get (by assumption)) rfl) ?_
        refine SatD.tk 5 rfl hD (fun _ hw => RunV.move rfl) ?_
        refine SatD.tk 6 rfl hD (fun _ hw => RunV.move rfl) ?_
        first | refine SatD.tk 7 rfl hD (fun _ hw => RunV.indexR (by assumption) rfl rfl rfl (by omega) (by omega) rfl) ?_ | refine SatD.tk 7 rfl hD (fun _ hw => RunV.indexS rfl rfl rfl (by omega) (by omega) rfl) ?_
        first | refine SatD.tk 8 rfl hD (fun _ hw => RunV.fieldAddrL rfl rfl rfl) ?_ | refine SatD.tk 8 rfl hD (fun _ hw => RunV.fieldAddr rfl rfl rfl) ?_
        first | refine SatD.tk 9 rfl hD (fun _ hw => RunV.loadR1f (RdC.st (by assumption) hw List.not_mem_nil) rfl rfl (by first | assumption | exact map_get (by assumption)) rfl) ?_ | refine SatD.tk 9 rfl hD (fun _ hw => RunV.loadR1f (Sl.rd (by assumption) hw (by repeat constructor)) rfl rfl (by first | assumption | exact map_get (by assumption)) rfl) ?_
        refine SatD.tk 10 rfl hD (fun _ hw => RunV.gtr rfl rfl) ?_
        refine SatD.tk 11 rfl hD (fun _ hw => RunV.move rfl) ?_
        refine SatD.ways 73 rfl (fun h4 => ?_) (fun h4 => ?_)
        · (try simp only [cx, ne_eq] at h4)
          try (exfalso; (first | omega | exact h4 trivial | contradiction | exact h4 (hrise (by omega))); done)
          all_goals
          refine SatD.sk 12 rfl [] hD ?_
          refine SatD.sk 13 rfl [] hD ?_
          refine SatD.sk 14 rfl [] hD ?_
          refine SatD.sk 15 rfl [] hD ?_
          refine SatD.sk 16 rfl [] hD ?_
          refine SatD.sk 17 rfl [] hD ?_
          refine SatD.sk 18 rfl [] hD ?_
          refine SatD.sk 19 rfl [] hD ?_
          refine SatD.tk 20 rfl hD (fun _ hw => RunV.pick_t rfl rfl) ?_
          refine SatD.tk 21 rfl hD (fun _ hw => RunV.move rfl) ?_
          refine SatD.sk 22 rfl [] hD ?_
          refine SatD.sk 23 rfl [] hD ?_
          refine SatD.sk 24 rfl [] hD ?_
          refine SatD.sk 25 rfl [] hD ?_
          refine SatD.sk 26 rfl [] hD ?_
          refine SatD.sk 27 rfl [] hD ?_
          refine SatD.sk 28 rfl [] hD ?_
          refine SatD.sk 29 rfl [] hD ?_
          refine SatD.sk 30 rfl [] hD ?_
          refine SatD.sk 31 rfl [] hD ?_
          refine SatD.sk 32 rfl [] hD ?_
          refine SatD.sk 33 rfl [] hD ?_
          refine SatD.sk 34 rfl [] hD ?_
          refine SatD.sk 35 rfl [] hD ?_
          refine SatD.sk 36 rfl [] hD ?_
          refine SatD.sk 37 rfl [] hD ?_
          refine SatD.tk 38 rfl hD (fun _ hw => RunV.pick_t rfl rfl) ?_
          refine SatD.done 0 (by kernel_rfl) (SatE.thenC ?_)
          clear hD
          refine SatC.weak (e' := [(2, _), (3, _), (4, _), (6, _), (7, _), (100, _)]) (by repeat constructor) ?_
          refine SatC.cond_t rfl ?_
          refine SatC.seq ?_
          refine SatC.region ?_
          refine SatL.pu (RunV.assign rfl) rfl ?_
          refine SatL.nil (SatE.thenC ?_)
          refine SatC.ret (SatE.blk_ret (SatE.then_ret (SatE.then_ret (SatE.blk_ret (SatE.then_ret ?_)))))
          refine SatE.ret1 rfl rfl ?_
          exact ⟨rfl, hS.sub (List.nil_sublist _)⟩
        · (try simp only [cx, ne_eq] at h4)
          try (exfalso; (first | omega | exact h4 trivial | contradiction | exact h4 (hrise (by omega))); done)
          all_goals
          refine SatD.tk 12 rfl hD (fun _ hw => RunV.move rfl) ?_
          refine SatD.tk 13 rfl hD (fun _ hw => RunV.move rfl) ?_
          first | refine SatD.tk 14 rfl hD (fun _ hw => RunV.indexR (by assumption) rfl rfl rfl (by omega) (by omega) rfl) ?_ | refine SatD.tk 14 rfl hD (fun _ hw => RunV.indexS rfl rfl rfl (by omega) (by omega) rfl) ?_
          first | refine SatD.tk 15 rfl hD (fun _ hw => RunV.fieldAddrL rfl rfl rfl) ?_ | refine SatD.tk 15 rfl hD (fun _ hw => RunV.fieldAddr rfl rfl rfl) ?_
          first | refine SatD.tk 16 rfl hD (fun _ hw => RunV.loadR1f (RdC.st (by assumption) hw List.not_mem_nil) rfl rfl (by first | assumption | exact map_get (by assumption)) rfl) ?_ | refine SatD.tk 16 rfl hD (fun _ hw => RunV.loadR1f (Sl.rd (by assumption) hw (by repeat constructor)) rfl rfl (by first | assumption | exact map_get (by assumption)) rfl) ?_
          refine SatD.tk 17 rfl hD (fun _ hw => RunV.move rfl) ?_
          refine SatD.ef 18 rfl (OpW.enter rfl rfl rfl (rfl) (last_any (hS.ownT (A := (b, C 58 (tc 20 tv last)) :: B) (by repeat constructor)) (by decide)) ?_)
          rintro r6 w6 ⟨rfl, h⟩
          replace hS := St.callN hS h
          refine keepS (hS.sb (by repeat constructor)) (fun hD => ?_)
          refine SatD.tk 19 rfl hD (fun _ hw => RunV.gtr rfl rfl) ?_
          refine SatD.tk 20 rfl hD (fun _ hw => RunV.pick_f rfl rfl) ?_
          refine SatD.tk 21 rfl hD (fun _ hw => RunV.move rfl) ?_
          refine SatD.ways 83 rfl (fun h5 => ?_) (fun h5 => ?_)
          · (try simp only [cx, ne_eq] at h5)
            try (exfalso; (first | omega | exact h5 trivial | contradiction | exact h5 (hrise (by omega))); done)
            all_goals
            refine SatD.sk 22 rfl [] hD ?_
            refine SatD.sk 23 rfl [] hD ?_
            refine SatD.sk 24 rfl [] hD ?_
            refine SatD.sk 25 rfl [] hD ?_
            refine SatD.sk 26 rfl [] hD ?_
            refine SatD.sk 27 rfl [] hD ?_
            refine SatD.sk 28 rfl [] hD ?_
            refine SatD.sk 29 rfl [] hD ?_
            refine SatD.sk 30 rfl [] hD ?_
            refine SatD.sk 31 rfl [] hD ?_
            refine SatD.sk 32 rfl [] hD ?_
            refine SatD.sk 33 rfl [] hD ?_
            refine SatD.sk 34 rfl [] hD ?_
            refine SatD.sk 35 rfl [] hD ?_
            refine SatD.sk 36 rfl [] hD ?_
            refine SatD.sk 37 rfl [] hD ?_
            refine SatD.tk 38 rfl hD (fun _ hw => RunV.pick_t rfl rfl) ?_
            refine SatD.done 0 (by kernel_rfl) (SatE.thenC ?_)
            clear hD
            refine SatC.weak (e' := [(2, _), (3, _), (4, _), (6, _), (7, _), (100, _)]) (by repeat constructor) ?_
            refine SatC.cond_t rfl ?_
            refine SatC.seq ?_
            refine SatC.region ?_
            refine SatL.pu (RunV.assign rfl) rfl ?_
            refine SatL.nil (SatE.thenC ?_)
            refine SatC.ret (SatE.blk_ret (SatE.then_ret (SatE.then_ret (SatE.blk_ret (SatE.then_ret ?_)))))
            refine SatE.ret1 rfl rfl ?_
            exact ⟨rfl, hS.sub (List.nil_sublist _)⟩
          · (try simp only [cx, ne_eq] at h5)
            try (exfalso; (first | omega | exact h5 trivial | contradiction | exact h5 (hrise (by omega))); done)
            all_goals
            refine SatD.tk 22 rfl hD (fun _ hw => RunV.move rfl) ?_
            refine SatD.tk 23 rfl hD (fun _ hw => RunV.gtr rfl rfl) ?_
            refine SatD.tk 24 rfl hD (fun _ hw => RunV.move rfl) ?_
            refine SatD.ways 86 rfl (fun h6 => ?_) (fun h6 => ?_)
            · (try simp only [cx, ne_eq] at h6)
              try (exfalso; (first | omega | exact h6 trivial | contradiction | exact h6 (hrise (by omega))); done)
              all_goals
              refine SatD.tk 25 rfl hD (fun _ hw => RunV.move rfl) ?_
              refine SatD.tk 26 rfl hD (fun _ hw => RunV.move rfl) ?_
              first | refine SatD.tk 27 rfl hD (fun _ hw => RunV.indexR (by assumption) rfl rfl rfl (by omega) (by omega) rfl) ?_ | refine SatD.tk 27 rfl hD (fun _ hw => RunV.indexS rfl rfl rfl (by omega) (by omega) rfl) ?_
              first | refine SatD.tk 28 rfl hD (fun _ hw => RunV.fieldAddrL rfl rfl rfl) ?_ | refine SatD.tk 28 rfl hD (fun _ hw => RunV.fieldAddr rfl rfl rfl) ?_
              first | refine SatD.tk 29 rfl hD (fun _ hw => RunV.loadR1f (RdC.st (by assumption) hw List.not_mem_nil) rfl rfl (by first | assumption | exact map_get (by assumption)) rfl) ?_ | refine SatD.tk 29 rfl hD (fun _ hw => RunV.loadR1f (Sl.rd (by assumption) hw (by repeat constructor)) rfl rfl (by first | assumption | exact map_get (by assumption)) rfl) ?_
              refine SatD.tk 30 rfl hD (fun _ hw => RunV.move rfl) ?_
              refine SatD.tk 31 rfl hD (fun _ hw => RunV.move rfl) ?_
              refine SatD.tk 32 rfl hD (fun _ hw => RunV.sub rfl rfl (by first | exact wrapI64 (by omega) | rfl)) ?_
              first | refine SatD.tk 33 rfl hD (fun _ hw => RunV.indexR (by assumption) rfl rfl rfl (by omega) (by omega) rfl) ?_ | refine SatD.tk 33 rfl hD (fun _ hw => RunV.indexS rfl rfl rfl (by omega) (by omega) rfl) ?_
              first | refine SatD.tk 34 rfl hD (fun _ hw => RunV.fieldAddrL rfl rfl rfl) ?_ | refine SatD.tk 34 rfl hD (fun _ hw => RunV.fieldAddr rfl rfl rfl) ?_
              refine SatD.tk 35 rfl hD (fun _ hw => RunV.loadR1z (hsl3.rd hw (by repeat constructor)) rfl rfl (map_get (hp (by omega))) rfl) ?_
              refine SatD.tk 36 rfl hD (fun _ hw => RunV.sleq rfl rfl) ?_
              refine SatD.tk 37 rfl hD (fun _ hw => RunV.pick_t rfl rfl) ?_
              refine SatD.tk 38 rfl hD (fun _ hw => RunV.pick_f rfl rfl) ?_
              refine SatD.done 0 (by kernel_rfl) (SatE.thenC ?_)
              clear hD
              refine SatC.weak (e' := [(2, _), (3, _), (4, _), (6, _), (7, _), (100, _)]) (by repeat constructor) ?_
              refine SatC.cond rfl (fun h7 => ?_) (fun h7 => ?_)
              · (try simp only [cx, ne_eq] at h7)
                try (exfalso; (first | omega | exact h7 trivial | contradiction | exact h7 (hrise (by omega))); done)
                all_goals
                refine SatC.seq ?_
                refine SatC.region ?_
                refine SatL.pu (RunV.assign rfl) rfl ?_
                refine SatL.nil (SatE.thenC ?_)
                refine SatC.ret (SatE.blk_ret (SatE.then_ret (SatE.then_ret (SatE.blk_ret (SatE.then_ret ?_)))))
                refine SatE.ret1 rfl rfl ?_
                exact ⟨rfl, hS.sub (List.nil_sublist _)⟩
              · (try simp only [cx, ne_eq] at h7)
                try (exfalso; (first | omega | exact h7 trivial | contradiction | exact h7 (hrise (by omega))); done)
                all_goals
                refine SatC.skip (SatE.blk_normal (SatE.thenC ?_))
                refine SatC.region ?_
                refine SatL.pu (RunV.move rfl) rfl ?_
                refine SatL.pu (RunV.add rfl rfl (by first | exact wrapI64 (by omega) | rfl)) rfl ?_
                refine SatL.pu (RunV.assign rfl) rfl ?_
                refine SatL.nil ?_
                refine SatE.again (n + 1) ?_ (by first | omega | (dsimp only; omega)) (by repeat constructor)
                exact ⟨by omega, hS⟩
            · (try simp only [cx, ne_eq] at h6)
              try (exfalso; (first | omega | exact h6 trivial | contradiction | exact h6 (hrise (by omega))); done)
              all_goals
              refine SatD.sk 25 rfl [] hD ?_
              refine SatD.sk 26 rfl [] hD ?_
              refine SatD.sk 27 rfl [] hD ?_
              refine SatD.sk 28 rfl [] hD ?_
              refine SatD.sk 29 rfl [] hD ?_
              refine SatD.sk 30 rfl [] hD ?_
              refine SatD.sk 31 rfl [] hD ?_
              refine SatD.sk 32 rfl [] hD ?_
              refine SatD.sk 33 rfl [] hD ?_
              refine SatD.sk 34 rfl [] hD ?_
              refine SatD.sk 35 rfl [] hD ?_
              refine SatD.sk 36 rfl [] hD ?_
              refine SatD.tk 37 rfl hD (fun _ hw => RunV.pick_f rfl rfl) ?_
              refine SatD.tk 38 rfl hD (fun _ hw => RunV.pick_f rfl rfl) ?_
              refine SatD.done 0 (by kernel_rfl) (SatE.thenC ?_)
              clear hD
              refine SatC.weak (e' := [(2, _), (3, _), (4, _), (6, _), (7, _), (100, _)]) (by repeat constructor) ?_
              refine SatC.cond_f rfl ?_
              refine SatC.skip (SatE.blk_normal (SatE.thenC ?_))
              refine SatC.region ?_
              refine SatL.pu (RunV.move rfl) rfl ?_
              refine SatL.pu (RunV.add rfl rfl (by first | exact wrapI64 (by omega) | rfl)) rfl ?_
              refine SatL.pu (RunV.assign rfl) rfl ?_
              refine SatL.nil ?_
              refine SatE.again (n + 1) ?_ (by first | omega | (dsimp only; omega)) (by repeat constructor)
              exact ⟨by omega, hS⟩
      · (try simp only [cx, ne_eq] at h3)
        try (exfalso; (first | omega | exact h3 trivial | contradiction | exact h3 (hrise (by omega))); done)
        all_goals
        refine SatC.exit (SatE.then_exit (SatE.then_exit (SatE.blk_exit (SatE.thenC ?_))))
        refine SatC.seq ?_
        refine SatC.region ?_
        refine SatL.pu (RunV.move rfl) rfl ?_
        refine SatL.op rfl (OpW.enter rfl rfl rfl (rfl) (last_any (hS.ownT (A := (b, C 58 (tc 20 tv last)) :: B) (by repeat constructor)) (by decide)) ?_)
        rintro r5 w5 ⟨rfl, h⟩
        replace hS := St.callN hS h
        refine SatL.pu (RunV.move rfl) rfl ?_
        refine SatL.pu (RunV.leq rfl rfl) rfl ?_
        refine SatL.pu (RunV.move rfl) rfl ?_
        refine SatL.guard rfl rfl rfl (fun h4 => ?_) (fun h4 => ?_)
        · (try simp only [cx, ne_eq] at h4)
          try (exfalso; (first | omega | exact h4 trivial | contradiction | exact h4 (hrise (by omega))); done)
          all_goals
          refine SatL.op rfl (OpW.enter rfl rfl rfl (rfl) (works_any _) ?_)
          rintro r6 w6 ⟨rfl, h⟩
          replace hS := St.callN hS h
          refine SatL.pu (RunV.pick_t rfl rfl) rfl ?_
          refine SatL.pu (RunV.assign rfl) rfl ?_
          refine SatL.nil (SatE.thenC ?_)
          refine SatC.ret ?_
          refine SatE.ret1 rfl rfl ?_
          exact ⟨rfl, hS.sub (List.nil_sublist _)⟩
        · (try simp only [cx, ne_eq] at h4)
          try (exfalso; (first | omega | exact h4 trivial | contradiction | exact h4 (hrise (by omega))); done)
          all_goals
          refine SatL.pu (RunV.pick_f rfl rfl) rfl ?_
          refine SatL.pu (RunV.assign rfl) rfl ?_
          refine SatL.nil (SatE.thenC ?_)
          refine SatC.ret ?_
          refine SatE.ret1 rfl rfl ?_
          exact ⟨rfl, hS.sub (List.nil_sublist _)⟩
  · (try simp only [cx, ne_eq] at h1)
    try (exfalso; (first | omega | exact h1 trivial | contradiction | exact h1 (hrise (by omega))); done)
    all_goals
    refine SatL.guard_n rfl rfl rfl rfl ?_
    refine SatL.pu (RunV.pick_f rfl rfl) rfl ?_
    refine SatL.nil (SatE.thenC ?_)
    refine SatC.cond_f rfl ?_
    refine SatC.exit (SatE.then_exit (SatE.then_exit (SatE.blk_exit (SatE.thenC ?_))))
    refine SatC.seq ?_
    refine SatC.region ?_
    refine SatL.pu (RunV.move rfl) rfl ?_
    refine SatL.op rfl (OpW.enter rfl rfl rfl (rfl) (list_any hsl (by omega) (hS.ownT (by repeat constructor)) (by decide)) ?_)
    rintro r3 w3 ⟨B3, hsl3, h⟩
    replace hS := hS.call0 h
    refine SatL.pu (RunV.assign rfl) rfl ?_
    refine SatL.nil (SatE.thenC ?_)
    refine SatC.seq ?_
    refine SatC.seq ?_
    refine SatC.weak (e' := [(2, _), (3, _), (4, _), (6, _)]) (by repeat constructor) ?_
    obtain ⟨c3, hv3⟩ := hsl3.slv
    simp only [List.length_map] at hv3
    refine SatC.region ?_
    refine SatL.pu (RunV.assign rfl) rfl ?_
    refine SatL.nil (SatE.thenC ?_)
    refine SatC.block ?_
    refine SatC.loopK (G := Nat) (V := fun n => [(7, .int .i64 (n : Int))]) (Cn := [(3, _), (4, _), (6, _), (2, _)]) (I := fun n w' => n ≤ rows.length ∧ St w [] (B3 ++ (b, C 58 (tc 20 tv last)) :: B) w') (μ := fun n => rows.length - n) 0 ?_ (by repeat constructor) ?_
    · exact ⟨Nat.zero_le _, hS⟩
    clear hS
    rintro n w4 ⟨hn, hS⟩
    refine SatC.weak (e' := [(2, _), (3, _), (4, _), (6, _), (7, _)]) (by repeat constructor) ?_
    refine SatC.seq ?_
    refine SatC.seq ?_
    refine SatC.region ?_
    refine SatL.pu (RunV.move rfl) rfl ?_
    refine SatL.pu (RunV.move rfl) rfl ?_
    first | refine SatL.pu (RunV.lenR (by assumption) rfl rfl) rfl ?_ | refine SatL.pu (RunV.lenS rfl rfl) rfl ?_
    refine SatL.pu (RunV.lss rfl rfl) rfl ?_
    refine SatL.nil (SatE.thenC ?_)
    refine SatC.cond rfl (fun h2 => ?_) (fun h2 => ?_)
    · (try simp only [cx, ne_eq] at h2)
      try (exfalso; (first | omega | exact h2 trivial | contradiction | exact h2 (hrise (by omega))); done)
      all_goals
      refine SatC.skip (SatE.thenC ?_)
      refine SatC.seq ?_
      refine SatC.block ?_
      refine SatC.seq ?_
      obtain ⟨z, hz⟩ := get_some rows n (by omega)
      have hzb := hall z (List.mem_of_getElem? hz)
      have hz' : rows.getD n zr = z := by simp [hz]
      have hp : 0 < n → rows[((n : Int) - 1).toNat]? = some (rows.getD (n - 1) zr) := fun h => by
        rw [show ((n : Int) - 1).toNat = n - 1 by omega]
        exact getD_at (by omega)
      have hrise := fun h : 0 < n => asc_get hasc (show n - 1 < n by omega) (by omega)
      rw [hz'] at hrise
      refine SatC.drawnT 39 hS (hS) (by kernel_rfl) ?_
      clear hS
      intro w5 hh hS hD
      refine SatD.tk 0 rfl hD (fun _ hw => RunV.move rfl) ?_
      refine SatD.tk 1 rfl hD (fun _ hw => RunV.move rfl) ?_
      first | refine SatD.tk 2 rfl hD (fun _ hw => RunV.indexR (by assumption) rfl rfl rfl (by omega) (by omega) rfl) ?_ | refine SatD.tk 2 rfl hD (fun _ hw => RunV.indexS rfl rfl rfl (by omega) (by omega) rfl) ?_
      first | refine SatD.tk 3 rfl hD (fun _ hw => RunV.fieldAddrL rfl rfl rfl) ?_ | refine SatD.tk 3 rfl hD (fun _ hw => RunV.fieldAddr rfl rfl rfl) ?_
      first | refine SatD.tk 4 rfl hD (fun _ hw => RunV.loadR1f (RdC.st (by assumption) hw List.not_mem_nil) rfl rfl (by first | assumption | exact map_get (by assumption)) rfl) ?_ | refine SatD.tk 4 rfl hD (fun _ hw => RunV.loadR1f (Sl.rd (by assumption) hw (by repeat constructor)) rfl rfl (by first | assumption | exact map_get (by assumption)) rfl) ?_
      refine SatD.tk 5 rfl hD (fun _ hw => RunV.move rfl) ?_
      refine SatD.tk 6 rfl hD (fun _ hw => RunV.move rfl) ?_
      first | refine SatD.tk 7 rfl hD (fun _ hw => RunV.indexR (by assumption) rfl rfl rfl (by omega) (by omega) rfl) ?_ | refine SatD.tk 7 rfl hD (fun _ hw => RunV.indexS rfl rfl rfl (by omega) (by omega) rfl) ?_
      first | refine SatD.tk 8 rfl hD (fun _ hw => RunV.fieldAddrL rfl rfl rfl) ?_ | refine SatD.tk 8 rfl hD (fun _ hw => RunV.fieldAddr rfl rfl rfl) ?_
      first | refine SatD.tk 9 rfl hD (fun _ hw => RunV.loadR1f (RdC.st (by assumption) hw List.not_mem_nil) rfl rfl (by first | assumption | exact map_get (by assumption)) rfl) ?_ | refine SatD.tk 9 rfl hD (fun _ hw => RunV.loadR1f (Sl.rd (by assumption) hw (by repeat constructor)) rfl rfl (by first | assumption | exact map_get (by assumption)) rfl) ?_
      refine SatD.tk 10 rfl hD (fun _ hw => RunV.gtr rfl rfl) ?_
      refine SatD.tk 11 rfl hD (fun _ hw => RunV.move rfl) ?_
      refine SatD.ways 73 rfl (fun h3 => ?_) (fun h3 => ?_)
      · (try simp only [cx, ne_eq] at h3)
        try (exfalso; (first | omega | exact h3 trivial | contradiction | exact h3 (hrise (by omega))); done)
        all_goals
        refine SatD.sk 12 rfl [] hD ?_
        refine SatD.sk 13 rfl [] hD ?_
        refine SatD.sk 14 rfl [] hD ?_
        refine SatD.sk 15 rfl [] hD ?_
        refine SatD.sk 16 rfl [] hD ?_
        refine SatD.sk 17 rfl [] hD ?_
        refine SatD.sk 18 rfl [] hD ?_
        refine SatD.sk 19 rfl [] hD ?_
        refine SatD.tk 20 rfl hD (fun _ hw => RunV.pick_t rfl rfl) ?_
        refine SatD.tk 21 rfl hD (fun _ hw => RunV.move rfl) ?_
        refine SatD.sk 22 rfl [] hD ?_
        refine SatD.sk 23 rfl [] hD ?_
        refine SatD.sk 24 rfl [] hD ?_
        refine SatD.sk 25 rfl [] hD ?_
        refine SatD.sk 26 rfl [] hD ?_
        refine SatD.sk 27 rfl [] hD ?_
        refine SatD.sk 28 rfl [] hD ?_
        refine SatD.sk 29 rfl [] hD ?_
        refine SatD.sk 30 rfl [] hD ?_
        refine SatD.sk 31 rfl [] hD ?_
        refine SatD.sk 32 rfl [] hD ?_
        refine SatD.sk 33 rfl [] hD ?_
        refine SatD.sk 34 rfl [] hD ?_
        refine SatD.sk 35 rfl [] hD ?_
        refine SatD.sk 36 rfl [] hD ?_
        refine SatD.sk 37 rfl [] hD ?_
        refine SatD.tk 38 rfl hD (fun _ hw => RunV.pick_t rfl rfl) ?_
        refine SatD.done 0 (by kernel_rfl) (SatE.thenC ?_)
        clear hD
        refine SatC.weak (e' := [(2, _), (3, _), (4, _), (6, _), (7, _), (100, _)]) (by repeat constructor) ?_
        refine SatC.cond_t rfl ?_
        refine SatC.seq ?_
        refine SatC.region ?_
        refine SatL.pu (RunV.assign rfl) rfl ?_
        refine SatL.nil (SatE.thenC ?_)
        refine SatC.ret (SatE.blk_ret (SatE.then_ret (SatE.then_ret (SatE.blk_ret (SatE.then_ret ?_)))))
        refine SatE.ret1 rfl rfl ?_
        exact ⟨rfl, hS.sub (List.nil_sublist _)⟩
      · (try simp only [cx, ne_eq] at h3)
        try (exfalso; (first | omega | exact h3 trivial | contradiction | exact h3 (hrise (by omega))); done)
        all_goals
        refine SatD.tk 12 rfl hD (fun _ hw => RunV.move rfl) ?_
        refine SatD.tk 13 rfl hD (fun _ hw => RunV.move rfl) ?_
        first | refine SatD.tk 14 rfl hD (fun _ hw => RunV.indexR (by assumption) rfl rfl rfl (by omega) (by omega) rfl) ?_ | refine SatD.tk 14 rfl hD (fun _ hw => RunV.indexS rfl rfl rfl (by omega) (by omega) rfl) ?_
        first | refine SatD.tk 15 rfl hD (fun _ hw => RunV.fieldAddrL rfl rfl rfl) ?_ | refine SatD.tk 15 rfl hD (fun _ hw => RunV.fieldAddr rfl rfl rfl) ?_
        first | refine SatD.tk 16 rfl hD (fun _ hw => RunV.loadR1f (RdC.st (by assumption) hw List.not_mem_nil) rfl rfl (by first | assumption | exact map_get (by assumption)) rfl) ?_ | refine SatD.tk 16 rfl hD (fun _ hw => RunV.loadR1f (Sl.rd (by assumption) hw (by repeat constructor)) rfl rfl (by first | assumption | exact map_get (by assumption)) rfl) ?_
        refine SatD.tk 17 rfl hD (fun _ hw => RunV.move rfl) ?_
        refine SatD.ef 18 rfl (OpW.enter rfl rfl rfl (rfl) (last_any (hS.ownT (A := (b, C 58 (tc 20 tv last)) :: B) (by repeat constructor)) (by decide)) ?_)
        rintro r6 w6 ⟨rfl, h⟩
        replace hS := St.callN hS h
        refine keepS (hS.sb (by repeat constructor)) (fun hD => ?_)
        refine SatD.tk 19 rfl hD (fun _ hw => RunV.gtr rfl rfl) ?_
        refine SatD.tk 20 rfl hD (fun _ hw => RunV.pick_f rfl rfl) ?_
        refine SatD.tk 21 rfl hD (fun _ hw => RunV.move rfl) ?_
        refine SatD.ways 83 rfl (fun h4 => ?_) (fun h4 => ?_)
        · (try simp only [cx, ne_eq] at h4)
          try (exfalso; (first | omega | exact h4 trivial | contradiction | exact h4 (hrise (by omega))); done)
          all_goals
          refine SatD.sk 22 rfl [] hD ?_
          refine SatD.sk 23 rfl [] hD ?_
          refine SatD.sk 24 rfl [] hD ?_
          refine SatD.sk 25 rfl [] hD ?_
          refine SatD.sk 26 rfl [] hD ?_
          refine SatD.sk 27 rfl [] hD ?_
          refine SatD.sk 28 rfl [] hD ?_
          refine SatD.sk 29 rfl [] hD ?_
          refine SatD.sk 30 rfl [] hD ?_
          refine SatD.sk 31 rfl [] hD ?_
          refine SatD.sk 32 rfl [] hD ?_
          refine SatD.sk 33 rfl [] hD ?_
          refine SatD.sk 34 rfl [] hD ?_
          refine SatD.sk 35 rfl [] hD ?_
          refine SatD.sk 36 rfl [] hD ?_
          refine SatD.sk 37 rfl [] hD ?_
          refine SatD.tk 38 rfl hD (fun _ hw => RunV.pick_t rfl rfl) ?_
          refine SatD.done 0 (by kernel_rfl) (SatE.thenC ?_)
          clear hD
          refine SatC.weak (e' := [(2, _), (3, _), (4, _), (6, _), (7, _), (100, _)]) (by repeat constructor) ?_
          refine SatC.cond_t rfl ?_
          refine SatC.seq ?_
          refine SatC.region ?_
          refine SatL.pu (RunV.assign rfl) rfl ?_
          refine SatL.nil (SatE.thenC ?_)
          refine SatC.ret (SatE.blk_ret (SatE.then_ret (SatE.then_ret (SatE.blk_ret (SatE.then_ret ?_)))))
          refine SatE.ret1 rfl rfl ?_
          exact ⟨rfl, hS.sub (List.nil_sublist _)⟩
        · (try simp only [cx, ne_eq] at h4)
          try (exfalso; (first | omega | exact h4 trivial | contradiction | exact h4 (hrise (by omega))); done)
          all_goals
          refine SatD.tk 22 rfl hD (fun _ hw => RunV.move rfl) ?_
          refine SatD.tk 23 rfl hD (fun _ hw => RunV.gtr rfl rfl) ?_
          refine SatD.tk 24 rfl hD (fun _ hw => RunV.move rfl) ?_
          refine SatD.ways 86 rfl (fun h5 => ?_) (fun h5 => ?_)
          · (try simp only [cx, ne_eq] at h5)
            try (exfalso; (first | omega | exact h5 trivial | contradiction | exact h5 (hrise (by omega))); done)
            all_goals
            refine SatD.tk 25 rfl hD (fun _ hw => RunV.move rfl) ?_
            refine SatD.tk 26 rfl hD (fun _ hw => RunV.move rfl) ?_
            first | refine SatD.tk 27 rfl hD (fun _ hw => RunV.indexR (by assumption) rfl rfl rfl (by omega) (by omega) rfl) ?_ | refine SatD.tk 27 rfl hD (fun _ hw => RunV.indexS rfl rfl rfl (by omega) (by omega) rfl) ?_
            first | refine SatD.tk 28 rfl hD (fun _ hw => RunV.fieldAddrL rfl rfl rfl) ?_ | refine SatD.tk 28 rfl hD (fun _ hw => RunV.fieldAddr rfl rfl rfl) ?_
            first | refine SatD.tk 29 rfl hD (fun _ hw => RunV.loadR1f (RdC.st (by assumption) hw List.not_mem_nil) rfl rfl (by first | assumption | exact map_get (by assumption)) rfl) ?_ | refine SatD.tk 29 rfl hD (fun _ hw => RunV.loadR1f (Sl.rd (by assumption) hw (by repeat constructor)) rfl rfl (by first | assumption | exact map_get (by assumption)) rfl) ?_
            refine SatD.tk 30 rfl hD (fun _ hw => RunV.move rfl) ?_
            refine SatD.tk 31 rfl hD (fun _ hw => RunV.move rfl) ?_
            refine SatD.tk 32 rfl hD (fun _ hw => RunV.sub rfl rfl (by first | exact wrapI64 (by omega) | rfl)) ?_
            first | refine SatD.tk 33 rfl hD (fun _ hw => RunV.indexR (by assumption) rfl rfl rfl (by omega) (by omega) rfl) ?_ | refine SatD.tk 33 rfl hD (fun _ hw => RunV.indexS rfl rfl rfl (by omega) (by omega) rfl) ?_
            first | refine SatD.tk 34 rfl hD (fun _ hw => RunV.fieldAddrL rfl rfl rfl) ?_ | refine SatD.tk 34 rfl hD (fun _ hw => RunV.fieldAddr rfl rfl rfl) ?_
            refine SatD.tk 35 rfl hD (fun _ hw => RunV.loadR1z (hsl3.rd hw (by repeat constructor)) rfl rfl (map_get (hp (by omega))) rfl) ?_
            refine SatD.tk 36 rfl hD (fun _ hw => RunV.sleq rfl rfl) ?_
            refine SatD.tk 37 rfl hD (fun _ hw => RunV.pick_t rfl rfl) ?_
            refine SatD.tk 38 rfl hD (fun _ hw => RunV.pick_f rfl rfl) ?_
            refine SatD.done 0 (by kernel_rfl) (SatE.thenC ?_)
            clear hD
            refine SatC.weak (e' := [(2, _), (3, _), (4, _), (6, _), (7, _), (100, _)]) (by repeat constructor) ?_
            refine SatC.cond rfl (fun h6 => ?_) (fun h6 => ?_)
            · (try simp only [cx, ne_eq] at h6)
              try (exfalso; (first | omega | exact h6 trivial | contradiction | exact h6 (hrise (by omega))); done)
              all_goals
              refine SatC.seq ?_
              refine SatC.region ?_
              refine SatL.pu (RunV.assign rfl) rfl ?_
              refine SatL.nil (SatE.thenC ?_)
              refine SatC.ret (SatE.blk_ret (SatE.then_ret (SatE.then_ret (SatE.blk_ret (SatE.then_ret ?_)))))
              refine SatE.ret1 rfl rfl ?_
              exact ⟨rfl, hS.sub (List.nil_sublist _)⟩
            · (try simp only [cx, ne_eq] at h6)
              try (exfalso; (first | omega | exact h6 trivial | contradiction | exact h6 (hrise (by omega))); done)
              all_goals
              refine SatC.skip (SatE.blk_normal (SatE.thenC ?_))
              refine SatC.region ?_
              refine SatL.pu (RunV.move rfl) rfl ?_
              refine SatL.pu (RunV.add rfl rfl (by first | exact wrapI64 (by omega) | rfl)) rfl ?_
              refine SatL.pu (RunV.assign rfl) rfl ?_
              refine SatL.nil ?_
              refine SatE.again (n + 1) ?_ (by first | omega | (dsimp only; omega)) (by repeat constructor)
              exact ⟨by omega, hS⟩
          · (try simp only [cx, ne_eq] at h5)
            try (exfalso; (first | omega | exact h5 trivial | contradiction | exact h5 (hrise (by omega))); done)
            all_goals
            refine SatD.sk 25 rfl [] hD ?_
            refine SatD.sk 26 rfl [] hD ?_
            refine SatD.sk 27 rfl [] hD ?_
            refine SatD.sk 28 rfl [] hD ?_
            refine SatD.sk 29 rfl [] hD ?_
            refine SatD.sk 30 rfl [] hD ?_
            refine SatD.sk 31 rfl [] hD ?_
            refine SatD.sk 32 rfl [] hD ?_
            refine SatD.sk 33 rfl [] hD ?_
            refine SatD.sk 34 rfl [] hD ?_
            refine SatD.sk 35 rfl [] hD ?_
            refine SatD.sk 36 rfl [] hD ?_
            refine SatD.tk 37 rfl hD (fun _ hw => RunV.pick_f rfl rfl) ?_
            refine SatD.tk 38 rfl hD (fun _ hw => RunV.pick_f rfl rfl) ?_
            refine SatD.done 0 (by kernel_rfl) (SatE.thenC ?_)
            clear hD
            refine SatC.weak (e' := [(2, _), (3, _), (4, _), (6, _), (7, _), (100, _)]) (by repeat constructor) ?_
            refine SatC.cond_f rfl ?_
            refine SatC.skip (SatE.blk_normal (SatE.thenC ?_))
            refine SatC.region ?_
            refine SatL.pu (RunV.move rfl) rfl ?_
            refine SatL.pu (RunV.add rfl rfl (by first | exact wrapI64 (by omega) | rfl)) rfl ?_
            refine SatL.pu (RunV.assign rfl) rfl ?_
            refine SatL.nil ?_
            refine SatE.again (n + 1) ?_ (by first | omega | (dsimp only; omega)) (by repeat constructor)
            exact ⟨by omega, hS⟩
    · (try simp only [cx, ne_eq] at h2)
      try (exfalso; (first | omega | exact h2 trivial | contradiction | exact h2 (hrise (by omega))); done)
      all_goals
      refine SatC.exit (SatE.then_exit (SatE.then_exit (SatE.blk_exit (SatE.thenC ?_))))
      refine SatC.seq ?_
      refine SatC.region ?_
      refine SatL.pu (RunV.move rfl) rfl ?_
      refine SatL.op rfl (OpW.enter rfl rfl rfl (rfl) (last_any (hS.ownT (A := (b, C 58 (tc 20 tv last)) :: B) (by repeat constructor)) (by decide)) ?_)
      rintro r5 w5 ⟨rfl, h⟩
      replace hS := St.callN hS h
      refine SatL.pu (RunV.move rfl) rfl ?_
      refine SatL.pu (RunV.leq rfl rfl) rfl ?_
      refine SatL.pu (RunV.move rfl) rfl ?_
      refine SatL.guard rfl rfl rfl (fun h3 => ?_) (fun h3 => ?_)
      · (try simp only [cx, ne_eq] at h3)
        try (exfalso; (first | omega | exact h3 trivial | contradiction | exact h3 (hrise (by omega))); done)
        all_goals
        refine SatL.op rfl (OpW.enter rfl rfl rfl (rfl) (works_any _) ?_)
        rintro r6 w6 ⟨rfl, h⟩
        replace hS := St.callN hS h
        refine SatL.pu (RunV.pick_t rfl rfl) rfl ?_
        refine SatL.pu (RunV.assign rfl) rfl ?_
        refine SatL.nil (SatE.thenC ?_)
        refine SatC.ret ?_
        refine SatE.ret1 rfl rfl ?_
        exact ⟨rfl, hS.sub (List.nil_sublist _)⟩
      · (try simp only [cx, ne_eq] at h3)
        try (exfalso; (first | omega | exact h3 trivial | contradiction | exact h3 (hrise (by omega))); done)
        all_goals
        refine SatL.pu (RunV.pick_f rfl rfl) rfl ?_
        refine SatL.pu (RunV.assign rfl) rfl ?_
        refine SatL.nil (SatE.thenC ?_)
        refine SatC.ret ?_
        refine SatE.ret1 rfl rfl ?_
        exact ⟨rfl, hS.sub (List.nil_sublist _)⟩
theorem tableRises_lifted (os : Os) (started : os.Started) (H : Type) (enc : TypeId × Value → H) :
    ReturnsInHanded {} Try.checked os 3 .any (Rows.tableRisesSpec.pre6 enc Try.prog Try.f3 Rows.tableRisesRow.domain false) (Rows.tableRisesSpec.post enc Try.prog Try.f3 false true false false) := by
  refine law_returns (C := Try.checked) (b := 4) (by kernel_rfl) started (by kernel_rfl) Try.func3
    (ChangeSpec.witness6 (enc := enc) (C := Try.checked) false ⟨#[], #[.slice none 0 0], []⟩ 8 (by kernel_rfl) (by kernel_rfl) (by kernel_rfl) (by kernel_rfl))
    rfl rfl (by kernel_rfl) (by kernel_rfl) (by kernel_rfl) (fun ds h => ?_) ?_
  · rw [Try.params3] at h
    match ds, h with
    | [_], _ => rfl
  intro W base args ds ps hval hA hsz
  rw [Try.params3] at hA hval
  obtain ⟨v0, d0, hargs, rfl, h0⟩ := trodAll_one hA
  subst hargs
  obtain ⟨xs0, hr0, hx0⟩ := open_rows (l := [3, 9, 3, 25]) 6 Try.underlying22 (by kernel_rfl) (by kernel_rfl) (by decide) (hval 0 22 v0 rfl rfl) h0
  obtain ⟨ys0, rfl, hy0⟩ := rows_map (enc' := sp) (q := fun y => 0 ≤ y.2.2.2 ∧ y.2.2.2 ≤ 18446744073709551615) (fun r hr => by
    obtain ⟨u0, u1, u2, u3, rfl, l0, l1, l2, l3⟩ := allLeaf_list4 hr
    obtain ⟨n0, rfl, e0⟩ := leaf_int Try.underlying3 l0
    obtain ⟨n1, rfl, e1⟩ := leaf_string Try.underlying9 l1
    obtain ⟨n2, rfl, e2⟩ := leaf_int Try.underlying3 l2
    obtain ⟨n3, rfl, e3⟩ := leaf_int Try.underlying25 l3
    exact ⟨⟨n0, n1.data.toList, n2, n3⟩, rfl, bnd_u64 e3⟩) xs0 hx0
  exact law_done (rises_any _ ys0 W hr0 hy0)
theorem tableRises_holds : Rows.TableRisesSaid :=
  OpenClaim.holds_of_wide 3 Try.f3 rfl rfl rfl rfl rfl rfl rfl ⟨rfl, rfl, rfl, rfl, rfl⟩ rfl rfl rfl rfl rfl (by kernel_rfl) Try.func3 (by kernel_rfl)
    (of_decide_eq_true (by kernel_rfl)) (by unfold Func.isWrapper; first | (rw [if_pos (by decide +kernel)]; kernel_rfl) | (rw [if_neg (by decide +kernel)]; exact ⟨rfl, rfl⟩))
    (fun os started H enc _ => tableRises_lifted os started H enc)
end Go.Proofs.Ytdoinfpkfbfjaaa
