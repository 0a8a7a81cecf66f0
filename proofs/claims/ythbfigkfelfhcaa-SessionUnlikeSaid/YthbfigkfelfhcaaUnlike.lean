/- SessionUnlike: no two sessions that are there have one number, and none has 0. -/
import Derived.Test.YthbfigkfelfhcaaW
import Derived.Test.YthbfigkfelfhcaaK7
import Derived.Test.YthbfigkfelfhcaaK16
import Derived.Test.YthbfigkfelfhcaaRows
set_option linter.unusedSimpArgs false
set_option linter.unusedVariables false
set_option maxRecDepth 100000
set_option maxHeartbeats 8000000
namespace Go.Proofs.Ythbfigkfelfhcaa
open Go.RowKit Go.ChangeShapes Go.WideShapes Go.ChangeAt
theorem unlike_any (v : Value) (ys : List Sp) (w : World) (hr : RdRow w v 4 (ys.map sr)) (hys : ∀ y ∈ ys, SpB y) : Ret Try.prog 3 #[v] w fun u w' => u = .bool true ∧ St w [] [] w' := by
  have hS := St.init0 w
  obtain ⟨bl, ol, cl, hvl, hmaxl, hcl, hltl⟩ := hr.open
  simp only [List.length_map] at hvl hmaxl hltl
  refine Ret.enter Try.func3 Try.ntmps3 rfl rfl ?_
  simp only [argEnv, Nat.reduceAdd]
  refine SatC.seq ?_
  refine SatC.region ?_
  refine SatL.pu (RunV.assign rfl) rfl ?_
  refine SatL.nil (SatE.thenC ?_)
  refine SatC.seq ?_
  refine SatC.region ?_
  refine SatL.op rfl (OpW.enter rfl rfl rfl (rfl) (new_any 64 _) ?_)
  rintro r1 w1 ⟨b0, b, rfl, h⟩
  replace hS := hS.callT (A := []) (by repeat constructor) h
  refine SatL.pu (RunV.assign rfl) rfl ?_
  refine SatL.nil (SatE.thenC ?_)
  refine SatC.seq ?_
  refine SatC.seq ?_
  refine SatC.region ?_
  refine SatL.pu (RunV.assign rfl) rfl ?_
  refine SatL.nil (SatE.thenC ?_)
  refine SatC.block ?_
  refine SatC.loopK (G := Nat × List Ses × Int × Value × List (Nat × Obj)) (V := fun ⟨i, ss, last, tv, B⟩ => [(4, .int .i64 (i : Int))]) (Cn := [(0, _), (2, _), (3, _)]) (I := fun ⟨i, ss, last, tv, B⟩ w' => i ≤ ys.length ∧ i ≤ 60 ∧ WfS ss ∧ (ss.length : Int) ≤ 64 ∧ Sl 73 7 tv ((ss.map rowOf).map tr) B ∧ St w [] (SO b0 b 64 last tv B) w') (μ := fun ⟨i, ss, last, tv, B⟩ => ys.length - i) (0, [], 0, .slice none 0 0, []) ?_ (by repeat constructor) ?_
  · exact ⟨Nat.zero_le _, by omega, wf_nil, by simp, .nil, hS.sel (by repeat constructor)⟩
  clear hS
  rintro ⟨i, ss, last, tv, B⟩ w2 ⟨hi, hi6, hw, hlen, hsl, hS⟩
  refine SatC.weak (e' := [(0, _), (2, _), (3, _), (4, _)]) (by repeat constructor) ?_
  refine SatC.seq ?_
  refine SatC.seq ?_
  refine SatC.region ?_
  refine SatL.pu (RunV.move rfl) rfl ?_
  refine SatL.pu (RunV.move rfl) rfl ?_
  first | refine SatL.pu (RunV.lenR (by assumption) rfl rfl) rfl ?_ | refine SatL.pu (RunV.lenS rfl rfl) rfl ?_
  refine SatL.pu (RunV.lss rfl rfl) rfl ?_
  refine SatL.pu (RunV.move rfl) rfl ?_
  refine SatL.guard rfl rfl rfl (fun h1 => ?_) (fun h1 => ?_)
  · (try simp only [cx, ne_eq] at h1)
    try (exfalso; (first | omega | exact h1 trivial | contradiction | (have := (hp (by omega)).2; omega)); done)
    all_goals
    refine SatL.pu (RunV.move rfl) rfl ?_
    refine SatL.guard_y rfl rfl ?_
    refine SatL.pu (RunV.lss rfl rfl) rfl ?_
    refine SatL.pu (RunV.pick_t rfl rfl) rfl ?_
    refine SatL.nil (SatE.thenC ?_)
    refine SatC.cond rfl (fun h2 => ?_) (fun h2 => ?_)
    · (try simp only [cx, ne_eq] at h2)
      try (exfalso; (first | omega | exact h2 trivial | contradiction | (have := (hp (by omega)).2; omega)); done)
      all_goals
      refine SatC.skip (SatE.thenC ?_)
      refine SatC.seq ?_
      refine SatC.block ?_
      refine SatC.seq ?_
      obtain ⟨y, hy⟩ := get_some ys i (by omega)
      obtain ⟨hyb1, hyb2⟩ := hys y (List.mem_of_getElem? hy)
      refine SatC.region ?_
      refine SatL.pu (RunV.move rfl) rfl ?_
      refine SatL.pu (RunV.move rfl) rfl ?_
      first | refine SatL.pu (RunV.indexR (by assumption) rfl rfl rfl (by omega) (by omega) rfl) rfl ?_ | refine SatL.pu (RunV.indexS rfl rfl rfl (by omega) (by omega) rfl) rfl ?_
      first | refine SatL.pu (RunV.fieldAddrL rfl rfl rfl) rfl ?_ | refine SatL.pu (RunV.fieldAddr rfl rfl rfl) rfl ?_
      first | refine SatL.pu (RunV.loadR1f (RdC.st (by assumption) hS List.not_mem_nil) rfl rfl (by first | assumption | exact map_get (by assumption)) rfl) rfl ?_ | refine SatL.pu (RunV.loadR1f (Sl.rd (by assumption) hS (by repeat constructor)) rfl rfl (by first | assumption | exact map_get (by assumption)) rfl) rfl ?_
      refine SatL.pu (RunV.eql rfl rfl) rfl ?_
      refine SatL.nil (SatE.thenC ?_)
      refine SatC.weak (e' := [(0, _), (2, _), (3, _), (4, _), (23, _)]) (by repeat constructor) ?_
      refine SatC.cond rfl (fun h3 => ?_) (fun h3 => ?_)
      · (try simp only [cx, ne_eq] at h3)
        try (exfalso; (first | omega | exact h3 trivial | contradiction | (have := (hp (by omega)).2; omega)); done)
        all_goals
        refine SatC.drawnT 11 hS (hS) (by kernel_rfl) ?_
        clear hS
        intro w3 hh hS hD
        refine SatD.tk 0 rfl hD (fun _ hw => RunV.move rfl) ?_
        refine SatD.tkp 1 rfl [5, 4, 3] hD (fun _ hw => RunV.move rfl) ?_
        refine SatD.tkp 2 rfl [5, 4, 3] hD (fun _ hw => RunV.move rfl) ?_
        first | refine SatD.tkp 3 rfl [5, 4] hD (fun _ hw => RunV.indexR (by assumption) rfl rfl rfl (by omega) (by omega) rfl) ?_ | refine SatD.tkp 3 rfl [5, 4] hD (fun _ hw => RunV.indexS rfl rfl rfl (by omega) (by omega) rfl) ?_
        first | refine SatD.tkp 4 rfl [5] hD (fun _ hw => RunV.fieldAddrL rfl rfl rfl) ?_ | refine SatD.tkp 4 rfl [5] hD (fun _ hw => RunV.fieldAddr rfl rfl rfl) ?_
        first | refine SatD.tk 5 rfl hD (fun _ hw => RunV.loadR1f (RdC.st (by assumption) hw List.not_mem_nil) rfl rfl (by first | assumption | exact map_get (by assumption)) rfl) ?_ | refine SatD.tk 5 rfl hD (fun _ hw => RunV.loadR1f (Sl.rd (by assumption) hw (by repeat constructor)) rfl rfl (by first | assumption | exact map_get (by assumption)) rfl) ?_
        refine SatD.tkp 6 rfl [10, 9, 8] hD (fun _ hw => RunV.move rfl) ?_
        refine SatD.tkp 7 rfl [10, 9, 8] hD (fun _ hw => RunV.move rfl) ?_
        first | refine SatD.tkp 8 rfl [10, 9] hD (fun _ hw => RunV.indexR (by assumption) rfl rfl rfl (by omega) (by omega) rfl) ?_ | refine SatD.tkp 8 rfl [10, 9] hD (fun _ hw => RunV.indexS rfl rfl rfl (by omega) (by omega) rfl) ?_
        first | refine SatD.tkp 9 rfl [10] hD (fun _ hw => RunV.fieldAddrL rfl rfl rfl) ?_ | refine SatD.tkp 9 rfl [10] hD (fun _ hw => RunV.fieldAddr rfl rfl rfl) ?_
        first | refine SatD.tk 10 rfl hD (fun _ hw => RunV.loadR1f (RdC.st (by assumption) hw List.not_mem_nil) rfl rfl (by first | assumption | exact map_get (by assumption)) rfl) ?_ | refine SatD.tk 10 rfl hD (fun _ hw => RunV.loadR1f (Sl.rd (by assumption) hw (by repeat constructor)) rfl rfl (by first | assumption | exact map_get (by assumption)) rfl) ?_
        refine SatD.effF (by kernel_rfl) rfl rfl (OpW.enter rfl rfl rfl (rfl) (close_any y.2.2.1 y.2.2.2 ⟨hyb1.1, by omega⟩ hw (by decide) hsl (by omega) (hS.ownT (A := SO b0 b 64 last tv B) (by repeat constructor))) ?_)
        rintro r4 w4 ⟨rfl, v2, B2, hsl2, h⟩
        replace hS := hS.callT (A := SO b0 b 64 last tv B) (by repeat constructor) h
        refine SatD.done 0 (by kernel_rfl) (SatE.blk_normal (SatE.thenC ?_))
        clear hD
        refine SatC.weak (e' := [(0, _), (2, _), (3, _), (4, _)]) (by repeat constructor) ?_
        refine SatC.region ?_
        refine SatL.pu (RunV.move rfl) rfl ?_
        refine SatL.pu (RunV.add rfl rfl (by first | exact wrapI64 (by omega) | rfl)) rfl ?_
        refine SatL.pu (RunV.assign rfl) rfl ?_
        refine SatL.nil ?_
        first
        | (refine SatE.again (i + 1, (closeS last ss y.2.2.1 y.2.2.2).2.1, (closeS last ss y.2.2.1 y.2.2.2).2.2, v2, B2) ⟨by omega, by omega, (close_wf hw).1, ?_, hsl2, hS.sel (by repeat constructor)⟩ (by dsimp only; omega) (by repeat constructor)
           have := (close_wf (last := last) (id := y.2.2.1) (ix := y.2.2.2) hw).2
           omega)
        | (exact SatE.again (i + 1, (openS 64 last ss y.2.1 y.2.2.2).2.1, (openS 64 last ss y.2.1 y.2.2.2).2.2, v2, B2) ⟨by omega, by omega, (open_wf hw ⟨hyb2.1, by omega⟩ hlen).1, (open_wf hw ⟨hyb2.1, by omega⟩ hlen).2, hsl2, hS.sel (by repeat constructor)⟩ (by dsimp only; omega) (by repeat constructor))
      · (try simp only [cx, ne_eq] at h3)
        try (exfalso; (first | omega | exact h3 trivial | contradiction | (have := (hp (by omega)).2; omega)); done)
        all_goals
        refine SatC.drawnT 11 hS (hS) (by kernel_rfl) ?_
        clear hS
        intro w3 hh hS hD
        refine SatD.tk 0 rfl hD (fun _ hw => RunV.move rfl) ?_
        refine SatD.tkp 1 rfl [5, 4, 3] hD (fun _ hw => RunV.move rfl) ?_
        refine SatD.tkp 2 rfl [5, 4, 3] hD (fun _ hw => RunV.move rfl) ?_
        first | refine SatD.tkp 3 rfl [5, 4] hD (fun _ hw => RunV.indexR (by assumption) rfl rfl rfl (by omega) (by omega) rfl) ?_ | refine SatD.tkp 3 rfl [5, 4] hD (fun _ hw => RunV.indexS rfl rfl rfl (by omega) (by omega) rfl) ?_
        first | refine SatD.tkp 4 rfl [5] hD (fun _ hw => RunV.fieldAddrL rfl rfl rfl) ?_ | refine SatD.tkp 4 rfl [5] hD (fun _ hw => RunV.fieldAddr rfl rfl rfl) ?_
        first | refine SatD.tk 5 rfl hD (fun _ hw => RunV.loadR1f (RdC.st (by assumption) hw List.not_mem_nil) rfl rfl (by first | assumption | exact map_get (by assumption)) rfl) ?_ | refine SatD.tk 5 rfl hD (fun _ hw => RunV.loadR1f (Sl.rd (by assumption) hw (by repeat constructor)) rfl rfl (by first | assumption | exact map_get (by assumption)) rfl) ?_
        refine SatD.tkp 6 rfl [10, 9, 8] hD (fun _ hw => RunV.move rfl) ?_
        refine SatD.tkp 7 rfl [10, 9, 8] hD (fun _ hw => RunV.move rfl) ?_
        first | refine SatD.tkp 8 rfl [10, 9] hD (fun _ hw => RunV.indexR (by assumption) rfl rfl rfl (by omega) (by omega) rfl) ?_ | refine SatD.tkp 8 rfl [10, 9] hD (fun _ hw => RunV.indexS rfl rfl rfl (by omega) (by omega) rfl) ?_
        first | refine SatD.tkp 9 rfl [10] hD (fun _ hw => RunV.fieldAddrL rfl rfl rfl) ?_ | refine SatD.tkp 9 rfl [10] hD (fun _ hw => RunV.fieldAddr rfl rfl rfl) ?_
        first | refine SatD.tk 10 rfl hD (fun _ hw => RunV.loadR1f (RdC.st (by assumption) hw List.not_mem_nil) rfl rfl (by first | assumption | exact map_get (by assumption)) rfl) ?_ | refine SatD.tk 10 rfl hD (fun _ hw => RunV.loadR1f (Sl.rd (by assumption) hw (by repeat constructor)) rfl rfl (by first | assumption | exact map_get (by assumption)) rfl) ?_
        refine SatD.effF (by kernel_rfl) rfl rfl (OpW.enter rfl rfl rfl (rfl) (open_any y.2.1 y.2.2.2 ⟨hyb2.1, by omega⟩ hw (by decide) hsl (by omega) (hS.ownT (A := SO b0 b 64 last tv B) (by repeat constructor))) ?_)
        rintro r4 w4 ⟨rfl, v2, B2, hsl2, h⟩
        replace hS := hS.callT (A := SO b0 b 64 last tv B) (by repeat constructor) h
        refine SatD.done 0 (by kernel_rfl) (SatE.blk_normal (SatE.thenC ?_))
        clear hD
        refine SatC.weak (e' := [(0, _), (2, _), (3, _), (4, _)]) (by repeat constructor) ?_
        refine SatC.region ?_
        refine SatL.pu (RunV.move rfl) rfl ?_
        refine SatL.pu (RunV.add rfl rfl (by first | exact wrapI64 (by omega) | rfl)) rfl ?_
        refine SatL.pu (RunV.assign rfl) rfl ?_
        refine SatL.nil ?_
        first
        | (refine SatE.again (i + 1, (closeS last ss y.2.2.1 y.2.2.2).2.1, (closeS last ss y.2.2.1 y.2.2.2).2.2, v2, B2) ⟨by omega, by omega, (close_wf hw).1, ?_, hsl2, hS.sel (by repeat constructor)⟩ (by dsimp only; omega) (by repeat constructor)
           have := (close_wf (last := last) (id := y.2.2.1) (ix := y.2.2.2) hw).2
           omega)
        | (exact SatE.again (i + 1, (openS 64 last ss y.2.1 y.2.2.2).2.1, (openS 64 last ss y.2.1 y.2.2.2).2.2, v2, B2) ⟨by omega, by omega, (open_wf hw ⟨hyb2.1, by omega⟩ hlen).1, (open_wf hw ⟨hyb2.1, by omega⟩ hlen).2, hsl2, hS.sel (by repeat constructor)⟩ (by dsimp only; omega) (by repeat constructor))
    · (try simp only [cx, ne_eq] at h2)
      try (exfalso; (first | omega | exact h2 trivial | contradiction | (have := (hp (by omega)).2; omega)); done)
      all_goals
      refine SatC.exit (SatE.then_exit (SatE.then_exit (SatE.blk_exit (SatE.thenC ?_))))
      refine SatC.seq ?_
      refine SatC.region ?_
      refine SatL.pu (RunV.move rfl) rfl ?_
      refine SatL.op rfl (OpW.enter rfl rfl rfl (rfl) (listS_any hw (by decide) hsl (by omega) (hS.ownT (A := SO b0 b 64 last tv B) (by repeat constructor))) ?_)
      rintro r3 w3 ⟨LB, hsL, h⟩
      replace hS := hS.call0 h
      obtain ⟨cL, hvL⟩ := hsL.slv
      simp only [List.length_map] at hvL
      refine SatL.pu (RunV.assign rfl) rfl ?_
      refine SatL.nil (SatE.thenC ?_)
      refine SatC.seq ?_
      refine SatC.seq ?_
      refine SatC.weak (e' := [(2, _), (5, _)]) (by repeat constructor) ?_
      refine SatC.region ?_
      refine SatL.pu (RunV.assign rfl) rfl ?_
      refine SatL.nil (SatE.thenC ?_)
      refine SatC.block ?_
      refine SatC.loopK (G := Nat) (V := fun n => [(6, .int .i64 (n : Int))]) (Cn := [(5, _), (2, _)]) (I := fun n w' => n ≤ ss.length ∧ St w [] (LB ++ SO b0 b 64 last tv B) w') (μ := fun n => ss.length - n) 0 ?_ (by repeat constructor) ?_
      · exact ⟨Nat.zero_le _, hS⟩
      clear hS
      rintro n w4 ⟨hn, hS⟩
      refine SatC.weak (e' := [(2, _), (5, _), (6, _)]) (by repeat constructor) ?_
      refine SatC.seq ?_
      refine SatC.seq ?_
      refine SatC.region ?_
      refine SatL.pu (RunV.move rfl) rfl ?_
      refine SatL.pu (RunV.move rfl) rfl ?_
      first | refine SatL.pu (RunV.lenR (by assumption) rfl rfl) rfl ?_ | refine SatL.pu (RunV.lenS rfl rfl) rfl ?_
      refine SatL.pu (RunV.lss rfl rfl) rfl ?_
      refine SatL.nil (SatE.thenC ?_)
      refine SatC.cond rfl (fun h3 => ?_) (fun h3 => ?_)
      · (try simp only [cx, ne_eq] at h3)
        try (exfalso; (first | omega | exact h3 trivial | contradiction | (have := (hp (by omega)).2; omega)); done)
        all_goals
        refine SatC.skip (SatE.thenC ?_)
        refine SatC.seq ?_
        refine SatC.block ?_
        refine SatC.seq ?_
        obtain ⟨z, hz⟩ := get_some ss n (by omega)
        have hzb := hw.2 z (List.mem_of_getElem? hz)
        have hpv : ∃ p, 0 < n → ss[((n : Int) - 1).toNat]? = some p ∧ p.id < z.id := by
          by_cases h : 0 < n
          · obtain ⟨p, hp⟩ := get_some ss (n - 1) (by omega)
            refine ⟨p, fun _ => ⟨by rw [show ((n : Int) - 1).toNat = n - 1 by omega]; exact hp, ?_⟩⟩
            obtain ⟨h1, e1⟩ := List.getElem?_eq_some_iff.1 hp
            obtain ⟨h2, e2⟩ := List.getElem?_eq_some_iff.1 hz
            have := List.pairwise_iff_getElem.1 hw.1 (n - 1) n h1 h2 (by omega)
            rw [e1, e2] at this
            exact this
          · exact ⟨z, fun h' => absurd h' h⟩
        obtain ⟨p, hp⟩ := hpv
        refine SatC.drawnT 24 hS (hS) (by kernel_rfl) ?_
        clear hS
        intro w5 hh hS hD
        refine SatD.tk 0 rfl hD (fun _ hw => RunV.move rfl) ?_
        refine SatD.tk 1 rfl hD (fun _ hw => RunV.move rfl) ?_
        refine SatD.tk 2 rfl hD (fun _ hw => RunV.indexR hvL rfl rfl rfl (by omega) (by omega) rfl) ?_
        first | refine SatD.tk 3 rfl hD (fun _ hw => RunV.fieldAddrL rfl rfl rfl) ?_ | refine SatD.tk 3 rfl hD (fun _ hw => RunV.fieldAddr rfl rfl rfl) ?_
        first | refine SatD.tk 4 rfl hD (fun _ hw => RunV.loadR1f (RdC.st (by assumption) hw List.not_mem_nil) rfl rfl (by first | assumption | exact map_get (by assumption)) rfl) ?_ | refine SatD.tk 4 rfl hD (fun _ hw => RunV.loadR1f (Sl.rd (by assumption) hw (by repeat constructor)) rfl rfl (by first | assumption | exact map_get (by assumption)) rfl) ?_
        refine SatD.tk 5 rfl hD (fun _ hw => RunV.eql rfl rfl) ?_
        refine SatD.tk 6 rfl hD (fun _ hw => RunV.move rfl) ?_
        refine SatD.ways 62 rfl (fun h4 => ?_) (fun h4 => ?_)
        · (try simp only [cx, ne_eq] at h4)
          try (exfalso; (first | omega | exact h4 trivial | contradiction | (have := (hp (by omega)).2; omega)); done)
          all_goals
          refine SatD.sk 7 rfl [] hD ?_
          refine SatD.sk 8 rfl [] hD ?_
          refine SatD.sk 9 rfl [] hD ?_
          refine SatD.sk 10 rfl [] hD ?_
          refine SatD.sk 11 rfl [] hD ?_
          refine SatD.sk 12 rfl [] hD ?_
          refine SatD.sk 13 rfl [] hD ?_
          refine SatD.sk 14 rfl [] hD ?_
          refine SatD.sk 15 rfl [] hD ?_
          refine SatD.sk 16 rfl [] hD ?_
          refine SatD.sk 17 rfl [] hD ?_
          refine SatD.sk 18 rfl [] hD ?_
          refine SatD.sk 19 rfl [] hD ?_
          refine SatD.sk 20 rfl [] hD ?_
          refine SatD.sk 21 rfl [] hD ?_
          refine SatD.sk 22 rfl [] hD ?_
          refine SatD.tk 23 rfl hD (fun _ hw => RunV.pick_t rfl rfl) ?_
          refine SatD.done 0 (by kernel_rfl) (SatE.thenC ?_)
          clear hD
          refine SatC.weak (e' := [(2, _), (5, _), (6, _), (79, _)]) (by repeat constructor) ?_
          refine SatC.cond_t rfl ?_
          refine SatC.seq ?_
          refine SatC.region ?_
          refine SatL.pu (RunV.assign rfl) rfl ?_
          refine SatL.nil (SatE.thenC ?_)
          refine SatC.ret (SatE.blk_ret (SatE.then_ret (SatE.then_ret (SatE.blk_ret (SatE.then_ret ?_)))))
          refine SatE.ret1 rfl rfl ?_
          exact ⟨rfl, hS.sel (by repeat constructor)⟩
        · (try simp only [cx, ne_eq] at h4)
          try (exfalso; (first | omega | exact h4 trivial | contradiction | (have := (hp (by omega)).2; omega)); done)
          all_goals
          refine SatD.tk 7 rfl hD (fun _ hw => RunV.move rfl) ?_
          refine SatD.tk 8 rfl hD (fun _ hw => RunV.gtr rfl rfl) ?_
          refine SatD.tk 9 rfl hD (fun _ hw => RunV.move rfl) ?_
          refine SatD.ways 65 rfl (fun h5 => ?_) (fun h5 => ?_)
          · (try simp only [cx, ne_eq] at h5)
            try (exfalso; (first | omega | exact h5 trivial | contradiction | (have := (hp (by omega)).2; omega)); done)
            all_goals
            refine SatD.tk 10 rfl hD (fun _ hw => RunV.move rfl) ?_
            refine SatD.tk 11 rfl hD (fun _ hw => RunV.move rfl) ?_
            refine SatD.tk 12 rfl hD (fun _ hw => RunV.indexR hvL rfl rfl rfl (by omega) (by omega) rfl) ?_
            first | refine SatD.tk 13 rfl hD (fun _ hw => RunV.fieldAddrL rfl rfl rfl) ?_ | refine SatD.tk 13 rfl hD (fun _ hw => RunV.fieldAddr rfl rfl rfl) ?_
            first | refine SatD.tk 14 rfl hD (fun _ hw => RunV.loadR1f (RdC.st (by assumption) hw List.not_mem_nil) rfl rfl (by first | assumption | exact map_get (by assumption)) rfl) ?_ | refine SatD.tk 14 rfl hD (fun _ hw => RunV.loadR1f (Sl.rd (by assumption) hw (by repeat constructor)) rfl rfl (by first | assumption | exact map_get (by assumption)) rfl) ?_
            refine SatD.tk 15 rfl hD (fun _ hw => RunV.move rfl) ?_
            refine SatD.tk 16 rfl hD (fun _ hw => RunV.move rfl) ?_
            refine SatD.tk 17 rfl hD (fun _ hw => RunV.sub rfl rfl (by first | exact wrapI64 (by omega) | rfl)) ?_
            refine SatD.tk 18 rfl hD (fun _ hw => RunV.indexR hvL rfl rfl rfl (by omega) (by omega) rfl) ?_
            first | refine SatD.tk 19 rfl hD (fun _ hw => RunV.fieldAddrL rfl rfl rfl) ?_ | refine SatD.tk 19 rfl hD (fun _ hw => RunV.fieldAddr rfl rfl rfl) ?_
            refine SatD.tk 20 rfl hD (fun _ hw => RunV.loadR1f (hsL.rd hw (by repeat constructor)) rfl rfl (map_get (hp (by omega)).1) rfl) ?_
            refine SatD.tk 21 rfl hD (fun _ hw => RunV.leq rfl rfl) ?_
            refine SatD.tk 22 rfl hD (fun _ hw => RunV.pick_t rfl rfl) ?_
            refine SatD.tk 23 rfl hD (fun _ hw => RunV.pick_f rfl rfl) ?_
            refine SatD.done 0 (by kernel_rfl) (SatE.thenC ?_)
            clear hD
            refine SatC.weak (e' := [(2, _), (5, _), (6, _), (79, _)]) (by repeat constructor) ?_
            refine SatC.cond rfl (fun h6 => ?_) (fun h6 => ?_)
            · (try simp only [cx, ne_eq] at h6)
              try (exfalso; (first | omega | exact h6 trivial | contradiction | (have := (hp (by omega)).2; omega)); done)
              all_goals
              refine SatC.seq ?_
              refine SatC.region ?_
              refine SatL.pu (RunV.assign rfl) rfl ?_
              refine SatL.nil (SatE.thenC ?_)
              refine SatC.ret (SatE.blk_ret (SatE.then_ret (SatE.then_ret (SatE.blk_ret (SatE.then_ret ?_)))))
              refine SatE.ret1 rfl rfl ?_
              exact ⟨rfl, hS.sel (by repeat constructor)⟩
            · (try simp only [cx, ne_eq] at h6)
              try (exfalso; (first | omega | exact h6 trivial | contradiction | (have := (hp (by omega)).2; omega)); done)
              all_goals
              refine SatC.skip (SatE.blk_normal (SatE.thenC ?_))
              refine SatC.region ?_
              refine SatL.pu (RunV.move rfl) rfl ?_
              refine SatL.pu (RunV.add rfl rfl (by first | exact wrapI64 (by omega) | rfl)) rfl ?_
              refine SatL.pu (RunV.assign rfl) rfl ?_
              refine SatL.nil ?_
              refine SatE.again (n + 1) ?_ (by first | omega | (dsimp only; omega)) (by repeat constructor)
              exact ⟨by omega, hS.sel (by repeat constructor)⟩
          · (try simp only [cx, ne_eq] at h5)
            try (exfalso; (first | omega | exact h5 trivial | contradiction | (have := (hp (by omega)).2; omega)); done)
            all_goals
            refine SatD.sk 10 rfl [] hD ?_
            refine SatD.sk 11 rfl [] hD ?_
            refine SatD.sk 12 rfl [] hD ?_
            refine SatD.sk 13 rfl [] hD ?_
            refine SatD.sk 14 rfl [] hD ?_
            refine SatD.sk 15 rfl [] hD ?_
            refine SatD.sk 16 rfl [] hD ?_
            refine SatD.sk 17 rfl [] hD ?_
            refine SatD.sk 18 rfl [] hD ?_
            refine SatD.sk 19 rfl [] hD ?_
            refine SatD.sk 20 rfl [] hD ?_
            refine SatD.sk 21 rfl [] hD ?_
            refine SatD.tk 22 rfl hD (fun _ hw => RunV.pick_f rfl rfl) ?_
            refine SatD.tk 23 rfl hD (fun _ hw => RunV.pick_f rfl rfl) ?_
            refine SatD.done 0 (by kernel_rfl) (SatE.thenC ?_)
            clear hD
            refine SatC.weak (e' := [(2, _), (5, _), (6, _), (79, _)]) (by repeat constructor) ?_
            refine SatC.cond_f rfl ?_
            refine SatC.skip (SatE.blk_normal (SatE.thenC ?_))
            refine SatC.region ?_
            refine SatL.pu (RunV.move rfl) rfl ?_
            refine SatL.pu (RunV.add rfl rfl (by first | exact wrapI64 (by omega) | rfl)) rfl ?_
            refine SatL.pu (RunV.assign rfl) rfl ?_
            refine SatL.nil ?_
            refine SatE.again (n + 1) ?_ (by first | omega | (dsimp only; omega)) (by repeat constructor)
            exact ⟨by omega, hS.sel (by repeat constructor)⟩
      · (try simp only [cx, ne_eq] at h3)
        try (exfalso; (first | omega | exact h3 trivial | contradiction | (have := (hp (by omega)).2; omega)); done)
        all_goals
        refine SatC.exit (SatE.then_exit (SatE.then_exit (SatE.blk_exit (SatE.thenC ?_))))
        refine SatC.seq ?_
        refine SatC.region ?_
        refine SatL.op rfl (OpW.enter rfl rfl rfl (rfl) (works_any _) ?_)
        rintro r5 w5 ⟨rfl, h⟩
        replace hS := St.callN hS h
        refine SatL.pu (RunV.assign rfl) rfl ?_
        refine SatL.nil (SatE.thenC ?_)
        refine SatC.ret ?_
        refine SatE.ret1 rfl rfl ?_
        exact ⟨rfl, hS.sel (by repeat constructor)⟩
  · (try simp only [cx, ne_eq] at h1)
    try (exfalso; (first | omega | exact h1 trivial | contradiction | (have := (hp (by omega)).2; omega)); done)
    all_goals
    refine SatL.guard_n rfl rfl rfl rfl ?_
    refine SatL.pu (RunV.pick_f rfl rfl) rfl ?_
    refine SatL.nil (SatE.thenC ?_)
    refine SatC.cond_f rfl ?_
    refine SatC.exit (SatE.then_exit (SatE.then_exit (SatE.blk_exit (SatE.thenC ?_))))
    refine SatC.seq ?_
    refine SatC.region ?_
    refine SatL.pu (RunV.move rfl) rfl ?_
    refine SatL.op rfl (OpW.enter rfl rfl rfl (rfl) (listS_any hw (by decide) hsl (by omega) (hS.ownT (A := SO b0 b 64 last tv B) (by repeat constructor))) ?_)
    rintro r3 w3 ⟨LB, hsL, h⟩
    replace hS := hS.call0 h
    obtain ⟨cL, hvL⟩ := hsL.slv
    simp only [List.length_map] at hvL
    refine SatL.pu (RunV.assign rfl) rfl ?_
    refine SatL.nil (SatE.thenC ?_)
    refine SatC.seq ?_
    refine SatC.seq ?_
    refine SatC.weak (e' := [(2, _), (5, _)]) (by repeat constructor) ?_
    refine SatC.region ?_
    refine SatL.pu (RunV.assign rfl) rfl ?_
    refine SatL.nil (SatE.thenC ?_)
    refine SatC.block ?_
    refine SatC.loopK (G := Nat) (V := fun n => [(6, .int .i64 (n : Int))]) (Cn := [(5, _), (2, _)]) (I := fun n w' => n ≤ ss.length ∧ St w [] (LB ++ SO b0 b 64 last tv B) w') (μ := fun n => ss.length - n) 0 ?_ (by repeat constructor) ?_
    · exact ⟨Nat.zero_le _, hS⟩
    clear hS
    rintro n w4 ⟨hn, hS⟩
    refine SatC.weak (e' := [(2, _), (5, _), (6, _)]) (by repeat constructor) ?_
    refine SatC.seq ?_
    refine SatC.seq ?_
    refine SatC.region ?_
    refine SatL.pu (RunV.move rfl) rfl ?_
    refine SatL.pu (RunV.move rfl) rfl ?_
    first | refine SatL.pu (RunV.lenR (by assumption) rfl rfl) rfl ?_ | refine SatL.pu (RunV.lenS rfl rfl) rfl ?_
    refine SatL.pu (RunV.lss rfl rfl) rfl ?_
    refine SatL.nil (SatE.thenC ?_)
    refine SatC.cond rfl (fun h2 => ?_) (fun h2 => ?_)
    · (try simp only [cx, ne_eq] at h2)
      try (exfalso; (first | omega | exact h2 trivial | contradiction | (have := (hp (by omega)).2; omega)); done)
      all_goals
      refine SatC.skip (SatE.thenC ?_)
      refine SatC.seq ?_
      refine SatC.block ?_
      refine SatC.seq ?_
      obtain ⟨z, hz⟩ := get_some ss n (by omega)
      have hzb := hw.2 z (List.mem_of_getElem? hz)
      have hpv : ∃ p, 0 < n → ss[((n : Int) - 1).toNat]? = some p ∧ p.id < z.id := by
        by_cases h : 0 < n
        · obtain ⟨p, hp⟩ := get_some ss (n - 1) (by omega)
          refine ⟨p, fun _ => ⟨by rw [show ((n : Int) - 1).toNat = n - 1 by omega]; exact hp, ?_⟩⟩
          obtain ⟨h1, e1⟩ := List.getElem?_eq_some_iff.1 hp
          obtain ⟨h2, e2⟩ := List.getElem?_eq_some_iff.1 hz
          have := List.pairwise_iff_getElem.1 hw.1 (n - 1) n h1 h2 (by omega)
          rw [e1, e2] at this
          exact this
        · exact ⟨z, fun h' => absurd h' h⟩
      obtain ⟨p, hp⟩ := hpv
      refine SatC.drawnT 24 hS (hS) (by kernel_rfl) ?_
      clear hS
      intro w5 hh hS hD
      refine SatD.tk 0 rfl hD (fun _ hw => RunV.move rfl) ?_
      refine SatD.tk 1 rfl hD (fun _ hw => RunV.move rfl) ?_
      refine SatD.tk 2 rfl hD (fun _ hw => RunV.indexR hvL rfl rfl rfl (by omega) (by omega) rfl) ?_
      first | refine SatD.tk 3 rfl hD (fun _ hw => RunV.fieldAddrL rfl rfl rfl) ?_ | refine SatD.tk 3 rfl hD (fun _ hw => RunV.fieldAddr rfl rfl rfl) ?_
      first | refine SatD.tk 4 rfl hD (fun _ hw => RunV.loadR1f (RdC.st (by assumption) hw List.not_mem_nil) rfl rfl (by first | assumption | exact map_get (by assumption)) rfl) ?_ | refine SatD.tk 4 rfl hD (fun _ hw => RunV.loadR1f (Sl.rd (by assumption) hw (by repeat constructor)) rfl rfl (by first | assumption | exact map_get (by assumption)) rfl) ?_
      refine SatD.tk 5 rfl hD (fun _ hw => RunV.eql rfl rfl) ?_
      refine SatD.tk 6 rfl hD (fun _ hw => RunV.move rfl) ?_
      refine SatD.ways 62 rfl (fun h3 => ?_) (fun h3 => ?_)
      · (try simp only [cx, ne_eq] at h3)
        try (exfalso; (first | omega | exact h3 trivial | contradiction | (have := (hp (by omega)).2; omega)); done)
        all_goals
        refine SatD.sk 7 rfl [] hD ?_
        refine SatD.sk 8 rfl [] hD ?_
        refine SatD.sk 9 rfl [] hD ?_
        refine SatD.sk 10 rfl [] hD ?_
        refine SatD.sk 11 rfl [] hD ?_
        refine SatD.sk 12 rfl [] hD ?_
        refine SatD.sk 13 rfl [] hD ?_
        refine SatD.sk 14 rfl [] hD ?_
        refine SatD.sk 15 rfl [] hD ?_
        refine SatD.sk 16 rfl [] hD ?_
        refine SatD.sk 17 rfl [] hD ?_
        refine SatD.sk 18 rfl [] hD ?_
        refine SatD.sk 19 rfl [] hD ?_
        refine SatD.sk 20 rfl [] hD ?_
        refine SatD.sk 21 rfl [] hD ?_
        refine SatD.sk 22 rfl [] hD ?_
        refine SatD.tk 23 rfl hD (fun _ hw => RunV.pick_t rfl rfl) ?_
        refine SatD.done 0 (by kernel_rfl) (SatE.thenC ?_)
        clear hD
        refine SatC.weak (e' := [(2, _), (5, _), (6, _), (79, _)]) (by repeat constructor) ?_
        refine SatC.cond_t rfl ?_
        refine SatC.seq ?_
        refine SatC.region ?_
        refine SatL.pu (RunV.assign rfl) rfl ?_
        refine SatL.nil (SatE.thenC ?_)
        refine SatC.ret (SatE.blk_ret (SatE.then_ret (SatE.then_ret (SatE.blk_ret (SatE.then_ret ?_)))))
        refine SatE.ret1 rfl rfl ?_
        exact ⟨rfl, hS.sel (by repeat constructor)⟩
      · (try simp only [cx, ne_eq] at h3)
        try (exfalso; (first | omega | exact h3 trivial | contradiction | (have := (hp (by omega)).2; omega)); done)
        all_goals
        refine SatD.tk 7 rfl hD (fun _ hw => RunV.move rfl) ?_
        refine SatD.tk 8 rfl hD (fun _ hw => RunV.gtr rfl rfl) ?_
        refine SatD.tk 9 rfl hD (fun _ hw => RunV.move rfl) ?_
        refine SatD.ways 65 rfl (fun h4 => ?_) (fun h4 => ?_)
        · (try simp only [cx, ne_eq] at h4)
          try (exfalso; (first | omega | exact h4 trivial | contradiction | (have := (hp (by omega)).2; omega)); done)
          all_goals
          refine SatD.tk 10 rfl hD (fun _ hw => RunV.move rfl) ?_
          refine SatD.tk 11 rfl hD (fun _ hw => RunV.move rfl) ?_
          refine SatD.tk 12 rfl hD (fun _ hw => RunV.indexR hvL rfl rfl rfl (by omega) (by omega) rfl) ?_
          first | refine SatD.tk 13 rfl hD (fun _ hw => RunV.fieldAddrL rfl rfl rfl) ?_ | refine SatD.tk 13 rfl hD (fun _ hw => RunV.fieldAddr rfl rfl rfl) ?_
          first | refine SatD.tk 14 rfl hD (fun _ hw => RunV.loadR1f (RdC.st (by assumption) hw List.not_mem_nil) rfl rfl (by first | assumption | exact map_get (by assumption)) rfl) ?_ | refine SatD.tk 14 rfl hD (fun _ hw => RunV.loadR1f (Sl.rd (by assumption) hw (by repeat constructor)) rfl rfl (by first | assumption | exact map_get (by assumption)) rfl) ?_
          refine SatD.tk 15 rfl hD (fun _ hw => RunV.move rfl) ?_
          refine SatD.tk 16 rfl hD (fun _ hw => RunV.move rfl) ?_
          refine SatD.tk 17 rfl hD (fun _ hw => RunV.sub rfl rfl (by first | exact wrapI64 (by omega) | rfl)) ?_
          refine SatD.tk 18 rfl hD (fun _ hw => RunV.indexR hvL rfl rfl rfl (by omega) (by omega) rfl) ?_
          first | refine SatD.tk 19 rfl hD (fun _ hw => RunV.fieldAddrL rfl rfl rfl) ?_ | refine SatD.tk 19 rfl hD (fun _ hw => RunV.fieldAddr rfl rfl rfl) ?_
          refine SatD.tk 20 rfl hD (fun _ hw => RunV.loadR1f (hsL.rd hw (by repeat constructor)) rfl rfl (map_get (hp (by omega)).1) rfl) ?_
          refine SatD.tk 21 rfl hD (fun _ hw => RunV.leq rfl rfl) ?_
          refine SatD.tk 22 rfl hD (fun _ hw => RunV.pick_t rfl rfl) ?_
          refine SatD.tk 23 rfl hD (fun _ hw => RunV.pick_f rfl rfl) ?_
          refine SatD.done 0 (by kernel_rfl) (SatE.thenC ?_)
          clear hD
          refine SatC.weak (e' := [(2, _), (5, _), (6, _), (79, _)]) (by repeat constructor) ?_
          refine SatC.cond rfl (fun h5 => ?_) (fun h5 => ?_)
          · (try simp only [cx, ne_eq] at h5)
            try (exfalso; (first | omega | exact h5 trivial | contradiction | (have := (hp (by omega)).2; omega)); done)
            all_goals
            refine SatC.seq ?_
            refine SatC.region ?_
            refine SatL.pu (RunV.assign rfl) rfl ?_
            refine SatL.nil (SatE.thenC ?_)
            refine SatC.ret (SatE.blk_ret (SatE.then_ret (SatE.then_ret (SatE.blk_ret (SatE.then_ret ?_)))))
            refine SatE.ret1 rfl rfl ?_
            exact ⟨rfl, hS.sel (by repeat constructor)⟩
          · (try simp only [cx, ne_eq] at h5)
            try (exfalso; (first | omega | exact h5 trivial | contradiction | (have := (hp (by omega)).2; omega)); done)
            all_goals
            refine SatC.skip (SatE.blk_normal (SatE.thenC ?_))
            refine SatC.region ?_
            refine SatL.pu (RunV.move rfl) rfl ?_
            refine SatL.pu (RunV.add rfl rfl (by first | exact wrapI64 (by omega) | rfl)) rfl ?_
            refine SatL.pu (RunV.assign rfl) rfl ?_
            refine SatL.nil ?_
            refine SatE.again (n + 1) ?_ (by first | omega | (dsimp only; omega)) (by repeat constructor)
            exact ⟨by omega, hS.sel (by repeat constructor)⟩
        · (try simp only [cx, ne_eq] at h4)
          try (exfalso; (first | omega | exact h4 trivial | contradiction | (have := (hp (by omega)).2; omega)); done)
          all_goals
          refine SatD.sk 10 rfl [] hD ?_
          refine SatD.sk 11 rfl [] hD ?_
          refine SatD.sk 12 rfl [] hD ?_
          refine SatD.sk 13 rfl [] hD ?_
          refine SatD.sk 14 rfl [] hD ?_
          refine SatD.sk 15 rfl [] hD ?_
          refine SatD.sk 16 rfl [] hD ?_
          refine SatD.sk 17 rfl [] hD ?_
          refine SatD.sk 18 rfl [] hD ?_
          refine SatD.sk 19 rfl [] hD ?_
          refine SatD.sk 20 rfl [] hD ?_
          refine SatD.sk 21 rfl [] hD ?_
          refine SatD.tk 22 rfl hD (fun _ hw => RunV.pick_f rfl rfl) ?_
          refine SatD.tk 23 rfl hD (fun _ hw => RunV.pick_f rfl rfl) ?_
          refine SatD.done 0 (by kernel_rfl) (SatE.thenC ?_)
          clear hD
          refine SatC.weak (e' := [(2, _), (5, _), (6, _), (79, _)]) (by repeat constructor) ?_
          refine SatC.cond_f rfl ?_
          refine SatC.skip (SatE.blk_normal (SatE.thenC ?_))
          refine SatC.region ?_
          refine SatL.pu (RunV.move rfl) rfl ?_
          refine SatL.pu (RunV.add rfl rfl (by first | exact wrapI64 (by omega) | rfl)) rfl ?_
          refine SatL.pu (RunV.assign rfl) rfl ?_
          refine SatL.nil ?_
          refine SatE.again (n + 1) ?_ (by first | omega | (dsimp only; omega)) (by repeat constructor)
          exact ⟨by omega, hS.sel (by repeat constructor)⟩
    · (try simp only [cx, ne_eq] at h2)
      try (exfalso; (first | omega | exact h2 trivial | contradiction | (have := (hp (by omega)).2; omega)); done)
      all_goals
      refine SatC.exit (SatE.then_exit (SatE.then_exit (SatE.blk_exit (SatE.thenC ?_))))
      refine SatC.seq ?_
      refine SatC.region ?_
      refine SatL.op rfl (OpW.enter rfl rfl rfl (rfl) (works_any _) ?_)
      rintro r5 w5 ⟨rfl, h⟩
      replace hS := St.callN hS h
      refine SatL.pu (RunV.assign rfl) rfl ?_
      refine SatL.nil (SatE.thenC ?_)
      refine SatC.ret ?_
      refine SatE.ret1 rfl rfl ?_
      exact ⟨rfl, hS.sel (by repeat constructor)⟩
theorem sessionUnlike_lifted (os : Os) (started : os.Started) (H : Type) (enc : TypeId × Value → H) :
    ReturnsInHanded {} Try.checked os 3 .any (Rows.sessionUnlikeSpec.pre6 enc Try.prog Try.f3 Rows.sessionUnlikeRow.domain false) (Rows.sessionUnlikeSpec.post enc Try.prog Try.f3 false true false false) := by
  refine law_returns (C := Try.checked) (b := 4) (by kernel_rfl) started (by kernel_rfl) Try.func3
    (ChangeSpec.witness6 (enc := enc) (C := Try.checked) false ⟨#[], #[.slice none 0 0], []⟩ 8 (by kernel_rfl) (by kernel_rfl) (by kernel_rfl) (by kernel_rfl))
    rfl rfl (by kernel_rfl) (by kernel_rfl) (by kernel_rfl) (fun ds h => ?_) ?_
  · rw [Try.params3] at h
    match ds, h with
    | [_], _ => rfl
  intro W base args ds ps hval hA hsz
  rw [Try.params3] at hA hval
  obtain ⟨v0, d0, hargs, rfl, h0⟩ := trodAll_one hA
  subst hargs
  obtain ⟨xs0, hr0, hx0⟩ := open_rows (l := [3, 3, 25, 25]) 6 Try.underlying22 (by kernel_rfl) (by kernel_rfl) (by decide) (hval 0 22 v0 rfl rfl) h0
  obtain ⟨ys0, rfl, hy0⟩ := rows_map (enc' := sr) (q := SpB) (fun r hr => by
    obtain ⟨u0, u1, u2, u3, rfl, l0, l1, l2, l3⟩ := allLeaf_list4 hr
    obtain ⟨n0, rfl, e0⟩ := leaf_int Try.underlying3 l0
    obtain ⟨n1, rfl, e1⟩ := leaf_int Try.underlying3 l1
    obtain ⟨n2, rfl, e2⟩ := leaf_int Try.underlying25 l2
    obtain ⟨n3, rfl, e3⟩ := leaf_int Try.underlying25 l3
    exact ⟨⟨n0, n1, n2, n3⟩, rfl, bnd_u64 e2, bnd_u64 e3⟩) xs0 hx0
  exact law_done (unlike_any _ ys0 W hr0 hy0)
theorem sessionUnlike_holds : Rows.SessionUnlikeSaid :=
  OpenClaim.holds_of_wide 3 Try.f3 rfl rfl rfl rfl rfl rfl rfl ⟨rfl, rfl, rfl, rfl, rfl⟩ rfl rfl rfl rfl rfl (by kernel_rfl) Try.func3 (by kernel_rfl)
    (of_decide_eq_true (by kernel_rfl)) (by unfold Func.isWrapper; first | (rw [if_pos (by decide +kernel)]; kernel_rfl) | (rw [if_neg (by decide +kernel)]; exact ⟨rfl, rfl⟩))
    (fun os started H enc _ => sessionUnlike_lifted os started H enc)
end Go.Proofs.Ythbfigkfelfhcaa
