/- DiskPlays: whatever is written, and whenever the power goes, the files have, and each call answers, what the document says. -/
import Derived.Test.YtahholhggohbnaaDs
import Derived.Test.YtahholhggohbnaaK7
import Derived.Test.YtahholhggohbnaaK16
import Derived.Test.YtahholhggohbnaaK25
import Derived.Test.YtahholhggohbnaaRows
set_option linter.unusedSimpArgs false
set_option linter.unusedVariables false
set_option maxRecDepth 100000
set_option maxHeartbeats 16000000
namespace Go.Proofs.Ytahholhggohbnaa
open Go.RowKit Go.ChangeShapes Go.WideShapes Go.ChangeAt
theorem file_eq {d : Dk} {fs : List Rf} {fv : Value} {FB D : List (Nat × Obj)} {x : Rf} {k : Nat} (hr : RRep d fs fv FB D) (hk : k < 4) (hx : fs[k]? = some x) : aFile d (k : Int) = (x.b, x.s) := by
  obtain ⟨room, fuse, down, fa⟩ := d
  have := hr.ab
  dsimp only at this
  subst this
  exact rfile_at (by rw [Int.toNat_natCast]; exact hx) (by omega)
theorem plays_any (n : Int) (v : Value) (ys : List Stp) (w : World) (hr : RdRow w v 4 (ys.map sr)) (hys : ∀ y ∈ ys, StB w y) : Ret Try.prog 5 #[.int .i64 n, v] w fun u w' => u = .bool true ∧ St w [] [] w' := by
  have hS := St.init0 w
  obtain ⟨bl, ol, cl, hvl, hmaxl, hcl, hltl⟩ := hr.open
  simp only [List.length_map] at hvl hmaxl hltl
  refine Ret.enter Try.func5 Try.ntmps5 rfl rfl ?_
  simp only [argEnv, Nat.reduceAdd]
  refine SatC.seq ?_
  refine SatC.region ?_
  refine SatL.pu (RunV.assign rfl) rfl ?_
  refine SatL.nil (SatE.thenC ?_)
  refine SatC.seq ?_
  refine SatC.region ?_
  refine SatL.pu (RunV.move rfl) rfl ?_
  refine SatL.op rfl (OpW.enter rfl rfl rfl (rfl) (new_d n _) ?_)
  rintro r1 w1 ⟨b, L0, rfl, hd0, h⟩
  replace hS := hS.call0 h
  refine SatL.pu (RunV.assign rfl) rfl ?_
  refine SatL.nil (SatE.thenC ?_)
  refine SatC.seq ?_
  refine SatC.region ?_
  refine SatL.pu (RunV.move rfl) rfl ?_
  refine SatL.op rfl (OpW.enter rfl rfl rfl (rfl) (rnew_any n _) ?_)
  rintro r2 w2 ⟨rb, fs0, fv, FB0, rfl, hr0, h⟩
  replace hS := hS.call0 h
  simp only [RO, List.append_assoc, List.cons_append, List.nil_append, List.append_nil] at hS
  refine SatL.pu (RunV.assign rfl) rfl ?_
  refine SatL.nil (SatE.thenC ?_)
  refine SatC.seq ?_
  refine SatC.seq ?_
  refine SatC.region ?_
  refine SatL.pu (RunV.assign rfl) rfl ?_
  refine SatL.nil (SatE.thenC ?_)
  refine SatC.block ?_
  refine SatC.loopK (G := Nat × Dk × List (Nat × Obj) × List Rf × List (Nat × Obj) × List (Nat × Obj)) (V := fun ⟨i, d, L, fs, FB, D⟩ => [(7, .int .i64 (i : Int))]) (Cn := [(1, _), (5, _), (6, _), (4, _)]) (I := fun ⟨i, d, L, fs, FB, D⟩ w' => i ≤ ys.length ∧ Dsk b d L ∧ RRep d fs fv FB D ∧ St w [] (L ++ RO rb d fv FB D) w') (μ := fun ⟨i, d, L, fs, FB, D⟩ => ys.length - i) (0, newD n, L0, fs0, FB0, []) ?_ (by repeat constructor) ?_
  · exact ⟨Nat.zero_le _, hd0, hr0, by simp only [RO, List.append_nil]; exact hS.sel (by repeat constructor)⟩
  clear hS
  rintro ⟨i, d, L, fs, FB, D⟩ w3 ⟨hi, hd, hrr, hS⟩
  have hown := hS.toOwn
  refine SatC.weak (e' := [(1, _), (4, _), (5, _), (6, _), (7, _)]) (by repeat constructor) ?_
  refine SatC.seq ?_
  refine SatC.seq ?_
  refine SatC.region ?_
  refine SatL.pu (RunV.move rfl) rfl ?_
  refine SatL.pu (RunV.move rfl) rfl ?_
  first | refine SatL.pu (RunV.lenR (by assumption) rfl rfl) rfl ?_ | refine SatL.pu (RunV.lenS rfl rfl) rfl ?_
  refine SatL.pu (RunV.lss rfl rfl) rfl ?_
  refine SatL.pu (RunV.move rfl) rfl ?_
  refine SatL.guard rfl rfl rfl (fun h1 => ?_) (fun h1 => ?_)
  · (try simp only [cx, ne_eq] at h1)
    try (exfalso; (first | omega | exact h1 trivial | contradiction | (simp at h1; done)); done)
    all_goals
    refine SatL.pu (RunV.move rfl) rfl ?_
    refine SatL.guard_y rfl rfl ?_
    refine SatL.pu (RunV.lss rfl rfl) rfl ?_
    refine SatL.pu (RunV.pick_t rfl rfl) rfl ?_
    refine SatL.nil (SatE.thenC ?_)
    refine SatC.cond rfl (fun h2 => ?_) (fun h2 => ?_)
    · (try simp only [cx, ne_eq] at h2)
      try (exfalso; (first | omega | exact h2 trivial | contradiction | (simp at h2; done)); done)
      all_goals
      refine SatC.skip (SatE.thenC ?_)
      refine SatC.seq ?_
      refine SatC.block ?_
      refine SatC.seq ?_
      refine SatC.seq ?_
      obtain ⟨y, hy⟩ := get_some ys i (by omega)
      have hyb := hys y (List.mem_of_getElem? hy)
      have hcom : ∀ {W wq}, St w [] (L ++ RO rb d fv FB D) wq → St wq ((L ++ RO rb d fv FB D).map Prod.fst) [] W → St w [] [] W := fun h1 h => (St.call (B := []) (by rw [List.append_nil]; exact h1) h).sel .nil
      refine SatC.drawnT 24 hS (hS.sel (R := []) .nil) (by kernel_rfl) ?_
      clear hS
      intro w4 hh hS hD
      refine SatD.tk 0 rfl hD (fun _ hw => RunV.move rfl) ?_
      refine SatD.tk 1 rfl hD (fun _ hw => RunV.move rfl) ?_
      refine SatD.tk 2 rfl hD (fun _ hw => RunV.move rfl) ?_
      refine SatD.tk 3 rfl hD (fun _ hw => RunV.move rfl) ?_
      first | refine SatD.tk 4 rfl hD (fun _ hw => RunV.indexR (by assumption) rfl rfl rfl (by omega) (by omega) rfl) ?_ | refine SatD.tk 4 rfl hD (fun _ hw => RunV.indexS rfl rfl rfl (by omega) (by omega) rfl) ?_
      first | refine SatD.tk 5 rfl hD (fun _ hw => RunV.loadRNz (RdC.st (by assumption) hw List.not_mem_nil) rfl rfl (by first | assumption | exact map_get (by assumption))) ?_ | refine SatD.tk 5 rfl hD (fun _ hw => RunV.loadRNz (Sl.rd (by assumption) hw (by repeat constructor)) rfl rfl (by first | assumption | exact map_get (by assumption))) ?_
      refine SatD.ef 6 rfl (OpW.enter rfl rfl rfl (rfl) (step_any y hyb.1 hd hrr (fun W' h => RdRow.st hyb.2 (hcom hS h)) hS.toOwn) ?_)
      rintro r5 w5 ⟨rfl, L2, fs2, FB2, D2, hd2, hr2, h⟩
      replace hS := (St.call (B := []) (by rw [List.append_nil]; exact hS) h)
      simp only [RO, List.append_assoc, List.cons_append, List.nil_append, List.append_nil] at hS
      refine keepS (hS.sel (by repeat constructor)) (fun hD => ?_)
      refine SatD.tk 7 rfl hD (fun _ hw => RunV.not rfl) ?_
      refine SatD.tk 8 rfl hD (fun _ hw => RunV.move rfl) ?_
      refine SatD.ways 31 rfl (fun h3 => ?_) (fun h3 => ?_)
      · (try simp only [cx, ne_eq] at h3)
        try (exfalso; (first | omega | exact h3 trivial | contradiction | (simp at h3; done)); done)
        all_goals
        refine SatD.sk 9 rfl [] hD ?_
        refine SatD.sk 10 rfl [] hD ?_
        refine SatD.sk 11 rfl [] hD ?_
        refine SatD.sk 12 rfl [] hD ?_
        refine SatD.sk 13 rfl [] hD ?_
        refine SatD.ef 14 rfl (OpW.pure (RunV.load1 hS rfl rfl (by repeat constructor) rfl) rfl ?_)
        refine keepS (hS.sel (by repeat constructor)) (fun hD => ?_)
        refine SatD.sk 15 rfl [] hD ?_
        refine SatD.tk 16 rfl hD (fun _ hw => RunV.pick_t rfl rfl) ?_
        refine SatD.tk 17 rfl hD (fun _ hw => RunV.move rfl) ?_
        refine SatD.sk 18 rfl [] hD ?_
        refine SatD.sk 19 rfl [] hD ?_
        refine SatD.sk 20 rfl [] hD ?_
        refine SatD.sk 21 rfl [] hD ?_
        refine SatD.sk 22 rfl [] hD ?_
        refine SatD.tk 23 rfl hD (fun _ hw => RunV.pick_t rfl rfl) ?_
        refine SatD.done 0 (by kernel_rfl) (SatE.thenC ?_)
        clear hD
        refine SatC.weak (e' := [(1, _), (4, _), (5, _), (6, _), (7, _), (46, _)]) (by repeat constructor) ?_
        refine SatC.cond_t rfl ?_
        refine SatC.seq ?_
        refine SatC.region ?_
        refine SatL.pu (RunV.assign rfl) rfl ?_
        refine SatL.nil (SatE.thenC ?_)
        refine SatC.ret (SatE.then_ret (SatE.blk_ret (SatE.then_ret (SatE.then_ret (SatE.blk_ret (SatE.then_ret ?_))))))
        refine SatE.ret1 rfl rfl ?_
        first
        | exact ⟨rfl, hS.sel .nil⟩
        | (exfalso; simp_all; done)
      · (try simp only [cx, ne_eq] at h3)
        try (exfalso; (first | omega | exact h3 trivial | contradiction | (simp at h3; done)); done)
        all_goals
        refine SatD.tk 9 rfl hD (fun _ hw => RunV.move rfl) ?_
        refine SatD.tk 11 rfl hD (fun _ hw => RunV.move rfl) ?_
        first | refine SatD.tk 12 rfl hD (fun _ hw => RunV.nil_ptr rfl) ?_ | refine SatD.tk 12 rfl hD (fun _ hw => RunV.nil_func rfl) ?_ | refine SatD.tk 12 rfl hD (fun _ hw => RunV.nil_yield rfl) ?_
        first | refine SatD.tk 13 rfl hD (fun _ hw => RunV.fieldAddrL rfl rfl rfl) ?_ | refine SatD.tk 13 rfl hD (fun _ hw => RunV.fieldAddr rfl rfl rfl) ?_
        refine SatD.effs [10, 14] (by kernel_rfl) ⟨⟨_, rfl, rfl, OpW.enter rfl rfl rfl (rfl) (down_d hd2 (hS.ownT (A := L2) (by repeat constructor))) ?_⟩, ⟨_, rfl, rfl, OpW.pure (RunV.load1 hS rfl rfl (by repeat constructor) rfl) rfl ?_⟩, trivial⟩
        · skip
          rintro r6 w6 ⟨rfl, h⟩
          replace hS := St.callN hS h
          refine keepS (hS.sel (by repeat constructor)) (fun hD => ?_)
          refine SatD.ef 14 rfl (OpW.pure (RunV.load1 hS rfl rfl (by repeat constructor) rfl) rfl ?_)
          refine keepS (hS.sel (by repeat constructor)) (fun hD => ?_)
          refine SatD.tk 15 rfl hD (fun _ hw => RunV.bneq rfl rfl rfl) ?_
          refine SatD.tk 16 rfl hD (fun _ hw => RunV.pick_f rfl rfl) ?_
          refine SatD.tk 17 rfl hD (fun _ hw => RunV.move rfl) ?_
          refine SatD.ways 40 rfl (fun h4 => ?_) (fun h4 => ?_)
          · (try simp only [cx, ne_eq] at h4)
            try (exfalso; (first | omega | exact h4 trivial | contradiction | (simp at h4; done)); done)
            all_goals
            refine SatD.sk 18 rfl [] hD ?_
            refine SatD.sk 19 rfl [] hD ?_
            refine SatD.sk 20 rfl [] hD ?_
            refine SatD.sk 21 rfl [] hD ?_
            refine SatD.sk 22 rfl [] hD ?_
            refine SatD.tk 23 rfl hD (fun _ hw => RunV.pick_t rfl rfl) ?_
            refine SatD.done 0 (by kernel_rfl) (SatE.thenC ?_)
            clear hD
            refine SatC.weak (e' := [(1, _), (4, _), (5, _), (6, _), (7, _), (46, _)]) (by repeat constructor) ?_
            refine SatC.cond_t rfl ?_
            refine SatC.seq ?_
            refine SatC.region ?_
            refine SatL.pu (RunV.assign rfl) rfl ?_
            refine SatL.nil (SatE.thenC ?_)
            refine SatC.ret (SatE.then_ret (SatE.blk_ret (SatE.then_ret (SatE.then_ret (SatE.blk_ret (SatE.then_ret ?_))))))
            refine SatE.ret1 rfl rfl ?_
            first
            | exact ⟨rfl, hS.sel .nil⟩
            | (exfalso; simp_all; done)
          · (try simp only [cx, ne_eq] at h4)
            try (exfalso; (first | omega | exact h4 trivial | contradiction | (simp at h4; done)); done)
            all_goals
            refine SatD.tk 18 rfl hD (fun _ hw => RunV.move rfl) ?_
            refine SatD.tk 20 rfl hD (fun _ hw => RunV.move rfl) ?_
            refine SatD.ef 19 rfl (OpW.enter rfl rfl rfl (rfl) (used_d hd2 (hS.ownT (A := L2) (by repeat constructor))) ?_)
            rintro r8 w8 ⟨rfl, h⟩
            replace hS := St.callN hS h
            refine keepS (hS.sel (by repeat constructor)) (fun hD => ?_)
            refine SatD.ef 21 rfl (OpW.enter rfl rfl rfl (rfl) (rused_any hd2.ok hr2 (hS.ownT (A := RO rb (stepD d y) fv FB2 D2) (by repeat constructor))) ?_)
            rintro r9 w9 ⟨rfl, h⟩
            replace hS := St.callN hS h
            refine keepS (hS.sel (by repeat constructor)) (fun hD => ?_)
            refine SatD.tk 22 rfl hD (fun _ hw => RunV.neq rfl rfl) ?_
            refine SatD.tk 23 rfl hD (fun _ hw => RunV.pick_f rfl rfl) ?_
            refine SatD.done 0 (by kernel_rfl) (SatE.thenC ?_)
            clear hD
            refine SatC.weak (e' := [(1, _), (4, _), (5, _), (6, _), (7, _), (46, _)]) (by repeat constructor) ?_
            refine SatC.cond rfl (fun h5 => ?_) (fun h5 => ?_)
            · (try simp only [cx, ne_eq] at h5)
              try (exfalso; (first | omega | exact h5 trivial | contradiction | (simp at h5; done)); done)
              all_goals
              refine SatC.seq ?_
              refine SatC.region ?_
              refine SatL.pu (RunV.assign rfl) rfl ?_
              refine SatL.nil (SatE.thenC ?_)
              refine SatC.ret (SatE.then_ret (SatE.blk_ret (SatE.then_ret (SatE.then_ret (SatE.blk_ret (SatE.then_ret ?_))))))
              refine SatE.ret1 rfl rfl ?_
              first
              | exact ⟨rfl, hS.sel .nil⟩
              | (exfalso; simp_all; done)
            · (try simp only [cx, ne_eq] at h5)
              try (exfalso; (first | omega | exact h5 trivial | contradiction | (simp at h5; done)); done)
              all_goals
              refine SatC.skip (SatE.thenC ?_)
              refine SatC.seq ?_
              refine SatC.region ?_
              refine SatL.pu (RunV.assign rfl) rfl ?_
              refine SatL.nil (SatE.thenC ?_)
              refine SatC.block ?_
              refine SatC.loopK (G := Nat) (V := fun j => [(8, .int .i64 (j : Int))]) (Cn := [(1, _), (5, _), (6, _), (7, _), (4, _)]) (I := fun j w' => j ≤ 4 ∧ St w [] (L2 ++ ((rb, C 44 [.int .i64 (stepD d y).room, fv, .int .i64 (stepD d y).fuse, .bool (stepD d y).down]) :: (FB2 ++ D2))) w') (μ := fun j => 4 - j) 0 ?_ (by repeat constructor) ?_
              · exact ⟨Nat.zero_le _, hS.sel (by repeat constructor)⟩
              clear hS
              rintro j w10 ⟨hj, hS⟩
              refine SatC.weak (e' := [(1, _), (4, _), (5, _), (6, _), (7, _), (8, _)]) (by repeat constructor) ?_
              refine SatC.seq ?_
              refine SatC.seq ?_
              refine SatC.region ?_
              refine SatL.pu (RunV.move rfl) rfl ?_
              refine SatL.pu (RunV.lss rfl rfl) rfl ?_
              refine SatL.nil (SatE.thenC ?_)
              refine SatC.cond rfl (fun h6 => ?_) (fun h6 => ?_)
              · (try simp only [cx, ne_eq] at h6)
                try (exfalso; (first | omega | exact h6 trivial | contradiction | (simp at h6; done)); done)
                all_goals
                refine SatC.skip (SatE.thenC ?_)
                refine SatC.seq ?_
                refine SatC.block ?_
                refine SatC.seq ?_
                obtain ⟨x, hx⟩ := get_some fs2 j (by have := hr2.four hd2.ok; omega)
                obtain ⟨⟨xb, xo, xc, hxv⟩, hxr⟩ := hr2.rd x (List.mem_of_getElem? hx)
                have hfe := file_eq hr2 (by omega) hx
                have hsl2 := hr2.sl
                obtain ⟨fc2, hfv2⟩ := hsl2.slv
                rw [List.length_map, hr2.four hd2.ok] at hfv2
                refine SatC.drawnT 43 hS (hS) (by kernel_rfl) ?_
                clear hS
                intro w11 hh hS hD
                refine SatD.tk 0 rfl hD (fun _ hw => RunV.move rfl) ?_
                refine SatD.tk 1 rfl hD (fun _ hw => RunV.move rfl) ?_
                refine SatD.tk 4 rfl hD (fun _ hw => RunV.move rfl) ?_
                first | refine SatD.tk 5 rfl hD (fun _ hw => RunV.nil_ptr rfl) ?_ | refine SatD.tk 5 rfl hD (fun _ hw => RunV.nil_func rfl) ?_ | refine SatD.tk 5 rfl hD (fun _ hw => RunV.nil_yield rfl) ?_
                first | refine SatD.tk 6 rfl hD (fun _ hw => RunV.fieldAddrL rfl rfl rfl) ?_ | refine SatD.tk 6 rfl hD (fun _ hw => RunV.fieldAddr rfl rfl rfl) ?_
                refine SatD.tk 7 rfl hD (fun _ hw => RunV.load1 hw rfl rfl (by repeat constructor) rfl) ?_
                refine SatD.tk 8 rfl hD (fun _ hw => RunV.move rfl) ?_
                first | refine SatD.tk 9 rfl hD (fun _ hw => RunV.indexR (by assumption) rfl rfl rfl (by omega) (by omega) rfl) ?_ | refine SatD.tk 9 rfl hD (fun _ hw => RunV.indexS rfl rfl rfl (by omega) (by omega) rfl) ?_
                first | refine SatD.tk 10 rfl hD (fun _ hw => RunV.fieldAddrL rfl rfl rfl) ?_ | refine SatD.tk 10 rfl hD (fun _ hw => RunV.fieldAddr rfl rfl rfl) ?_
                refine SatD.tk 11 rfl hD (fun _ hw => RunV.loadR1g j 0 (Sl.rd hsl2 hw (by repeat constructor)) rfl rfl (by omega) (map_get hx) rfl) ?_
                refine SatD.tk 12 rfl hD (fun _ hw => RunV.b2s (cs := x.b) hxv (by obtain ⟨b1, o1, c1, h1, _, h2, _⟩ := (hxr _ (fun c hc => (hw.sel (R := D2) (by repeat constructor)).own c hc)).open; exact RdC.same h1 hxv h2 (List.length_map _)) rfl rfl rfl rfl rfl) ?_
                refine SatD.ef 2 rfl (OpW.enter rfl rfl rfl (rfl) (read_d (j : Int) hd2 (hS.ownT (A := L2) (by repeat constructor))) ?_)
                rintro r12 w12 ⟨B53, hsl53, h⟩
                replace hS := hS.call0 h
                rw [hfe] at hsl53
                obtain ⟨c53, hv53⟩ := hsl53.slv
                rw [List.length_map] at hv53
                refine keepS (hS.sel (by repeat constructor)) (fun hD => ?_)
                refine SatD.ef 3 rfl (OpW.pure (RunV.b2s (cs := x.b) hv53 (hsl53.rd hS (by repeat constructor)) rfl rfl rfl rfl rfl) rfl ?_)
                refine keepS (hS.sel (by repeat constructor)) (fun hD => ?_)
                refine SatD.tk 13 rfl hD (fun _ hw => RunV.sneq rfl rfl) ?_
                refine SatD.tk 14 rfl hD (fun _ hw => RunV.move rfl) ?_
                refine SatD.ways 65 rfl (fun h7 => ?_) (fun h7 => ?_)
                · (try simp only [cx, ne_eq] at h7)
                  try (exfalso; (first | omega | exact h7 trivial | contradiction | (simp at h7; done)); done)
                  all_goals
                  refine SatD.sk 15 rfl [] hD ?_
                  refine SatD.sk 16 rfl [] hD ?_
                  refine SatD.sk 17 rfl [] hD ?_
                  refine SatD.sk 18 rfl [] hD ?_
                  refine SatD.sk 19 rfl [] hD ?_
                  refine SatD.sk 20 rfl [] hD ?_
                  refine SatD.sk 21 rfl [] hD ?_
                  refine SatD.sk 22 rfl [] hD ?_
                  refine SatD.sk 23 rfl [] hD ?_
                  refine SatD.sk 24 rfl [] hD ?_
                  refine SatD.sk 25 rfl [] hD ?_
                  refine SatD.sk 26 rfl [] hD ?_
                  refine SatD.sk 27 rfl [] hD ?_
                  refine SatD.tk 28 rfl hD (fun _ hw => RunV.pick_t rfl rfl) ?_
                  refine SatD.tk 29 rfl hD (fun _ hw => RunV.move rfl) ?_
                  refine SatD.sk 30 rfl [] hD ?_
                  refine SatD.sk 31 rfl [] hD ?_
                  refine SatD.sk 32 rfl [] hD ?_
                  refine SatD.sk 33 rfl [] hD ?_
                  refine SatD.sk 34 rfl [] hD ?_
                  refine SatD.sk 35 rfl [] hD ?_
                  refine SatD.sk 36 rfl [] hD ?_
                  refine SatD.sk 37 rfl [] hD ?_
                  refine SatD.sk 38 rfl [] hD ?_
                  refine SatD.sk 39 rfl [] hD ?_
                  refine SatD.sk 40 rfl [] hD ?_
                  refine SatD.sk 41 rfl [] hD ?_
                  refine SatD.tk 42 rfl hD (fun _ hw => RunV.pick_t rfl rfl) ?_
                  refine SatD.done 0 (by kernel_rfl) (SatE.thenC ?_)
                  clear hD
                  refine SatC.weak (e' := [(1, _), (4, _), (5, _), (6, _), (7, _), (8, _), (93, _)]) (by repeat constructor) ?_
                  refine SatC.cond_t rfl ?_
                  refine SatC.seq ?_
                  refine SatC.region ?_
                  refine SatL.pu (RunV.assign rfl) rfl ?_
                  refine SatL.nil (SatE.thenC ?_)
                  refine SatC.ret (SatE.blk_ret (SatE.then_ret (SatE.then_ret (SatE.blk_ret (SatE.blk_ret (SatE.then_ret (SatE.then_ret (SatE.blk_ret (SatE.then_ret ?_)))))))))
                  refine SatE.ret1 rfl rfl ?_
                  first
                  | exact ⟨rfl, hS.sel .nil⟩
                  | (exfalso; simp_all; done)
                · (try simp only [cx, ne_eq] at h7)
                  try (exfalso; (first | omega | exact h7 trivial | contradiction | (simp at h7; done)); done)
                  all_goals
                  refine SatD.tk 15 rfl hD (fun _ hw => RunV.move rfl) ?_
                  refine SatD.tk 16 rfl hD (fun _ hw => RunV.move rfl) ?_
                  refine SatD.tk 18 rfl hD (fun _ hw => RunV.move rfl) ?_
                  first | refine SatD.tk 19 rfl hD (fun _ hw => RunV.nil_ptr rfl) ?_ | refine SatD.tk 19 rfl hD (fun _ hw => RunV.nil_func rfl) ?_ | refine SatD.tk 19 rfl hD (fun _ hw => RunV.nil_yield rfl) ?_
                  first | refine SatD.tk 20 rfl hD (fun _ hw => RunV.fieldAddrL rfl rfl rfl) ?_ | refine SatD.tk 20 rfl hD (fun _ hw => RunV.fieldAddr rfl rfl rfl) ?_
                  refine SatD.tk 21 rfl hD (fun _ hw => RunV.load1 hw rfl rfl (by repeat constructor) rfl) ?_
                  refine SatD.tk 22 rfl hD (fun _ hw => RunV.move rfl) ?_
                  first | refine SatD.tk 23 rfl hD (fun _ hw => RunV.indexR (by assumption) rfl rfl rfl (by omega) (by omega) rfl) ?_ | refine SatD.tk 23 rfl hD (fun _ hw => RunV.indexS rfl rfl rfl (by omega) (by omega) rfl) ?_
                  first | refine SatD.tk 24 rfl hD (fun _ hw => RunV.fieldAddrL rfl rfl rfl) ?_ | refine SatD.tk 24 rfl hD (fun _ hw => RunV.fieldAddr rfl rfl rfl) ?_
                  refine SatD.tk 25 rfl hD (fun _ hw => RunV.loadR1g j 0 (Sl.rd hsl2 hw (by repeat constructor)) rfl rfl (by omega) (map_get hx) rfl) ?_
                  first | refine SatD.tk 26 rfl hD (fun _ hw => RunV.lenR (by assumption) rfl rfl) ?_ | refine SatD.tk 26 rfl hD (fun _ hw => RunV.lenS rfl rfl) ?_
                  refine SatD.ef 17 rfl (OpW.enter rfl rfl rfl (rfl) (size_d (j : Int) hd2 (hS.ownT (A := L2) (by repeat constructor))) ?_)
                  rintro r14 w14 ⟨rfl, h⟩
                  replace hS := St.callN hS h
                  rw [hfe]
                  refine keepS (hS.sel (by repeat constructor)) (fun hD => ?_)
                  refine SatD.tk 27 rfl hD (fun _ hw => RunV.neq rfl rfl) ?_
                  refine SatD.tk 28 rfl hD (fun _ hw => RunV.pick_f rfl rfl) ?_
                  refine SatD.tk 29 rfl hD (fun _ hw => RunV.move rfl) ?_
                  refine SatD.ways 80 rfl (fun h8 => ?_) (fun h8 => ?_)
                  · (try simp only [cx, ne_eq] at h8)
                    try (exfalso; (first | omega | exact h8 trivial | contradiction | (simp at h8; done)); done)
                    all_goals
                    refine SatD.sk 30 rfl [] hD ?_
                    refine SatD.sk 31 rfl [] hD ?_
                    refine SatD.sk 32 rfl [] hD ?_
                    refine SatD.sk 33 rfl [] hD ?_
                    refine SatD.sk 34 rfl [] hD ?_
                    refine SatD.sk 35 rfl [] hD ?_
                    refine SatD.sk 36 rfl [] hD ?_
                    refine SatD.sk 37 rfl [] hD ?_
                    refine SatD.sk 38 rfl [] hD ?_
                    refine SatD.sk 39 rfl [] hD ?_
                    refine SatD.sk 40 rfl [] hD ?_
                    refine SatD.sk 41 rfl [] hD ?_
                    refine SatD.tk 42 rfl hD (fun _ hw => RunV.pick_t rfl rfl) ?_
                    refine SatD.done 0 (by kernel_rfl) (SatE.thenC ?_)
                    clear hD
                    refine SatC.weak (e' := [(1, _), (4, _), (5, _), (6, _), (7, _), (8, _), (93, _)]) (by repeat constructor) ?_
                    refine SatC.cond_t rfl ?_
                    refine SatC.seq ?_
                    refine SatC.region ?_
                    refine SatL.pu (RunV.assign rfl) rfl ?_
                    refine SatL.nil (SatE.thenC ?_)
                    refine SatC.ret (SatE.blk_ret (SatE.then_ret (SatE.then_ret (SatE.blk_ret (SatE.blk_ret (SatE.then_ret (SatE.then_ret (SatE.blk_ret (SatE.then_ret ?_)))))))))
                    refine SatE.ret1 rfl rfl ?_
                    first
                    | exact ⟨rfl, hS.sel .nil⟩
                    | (exfalso; simp_all; done)
                  · (try simp only [cx, ne_eq] at h8)
                    try (exfalso; (first | omega | exact h8 trivial | contradiction | (simp at h8; done)); done)
                    all_goals
                    refine SatD.tk 30 rfl hD (fun _ hw => RunV.move rfl) ?_
                    refine SatD.tk 31 rfl hD (fun _ hw => RunV.move rfl) ?_
                    refine SatD.tk 33 rfl hD (fun _ hw => RunV.move rfl) ?_
                    first | refine SatD.tk 34 rfl hD (fun _ hw => RunV.nil_ptr rfl) ?_ | refine SatD.tk 34 rfl hD (fun _ hw => RunV.nil_func rfl) ?_ | refine SatD.tk 34 rfl hD (fun _ hw => RunV.nil_yield rfl) ?_
                    first | refine SatD.tk 35 rfl hD (fun _ hw => RunV.fieldAddrL rfl rfl rfl) ?_ | refine SatD.tk 35 rfl hD (fun _ hw => RunV.fieldAddr rfl rfl rfl) ?_
                    refine SatD.tk 36 rfl hD (fun _ hw => RunV.load1 hw rfl rfl (by repeat constructor) rfl) ?_
                    refine SatD.tk 37 rfl hD (fun _ hw => RunV.move rfl) ?_
                    first | refine SatD.tk 38 rfl hD (fun _ hw => RunV.indexR (by assumption) rfl rfl rfl (by omega) (by omega) rfl) ?_ | refine SatD.tk 38 rfl hD (fun _ hw => RunV.indexS rfl rfl rfl (by omega) (by omega) rfl) ?_
                    first | refine SatD.tk 39 rfl hD (fun _ hw => RunV.fieldAddrL rfl rfl rfl) ?_ | refine SatD.tk 39 rfl hD (fun _ hw => RunV.fieldAddr rfl rfl rfl) ?_
                    refine SatD.tk 40 rfl hD (fun _ hw => RunV.loadR1g j 1 (Sl.rd hsl2 hw (by repeat constructor)) rfl rfl (by omega) (map_get hx) rfl) ?_
                    refine SatD.ef 32 rfl (OpW.enter rfl rfl rfl (rfl) (synced_d (j : Int) hd2 (hS.ownT (A := L2) (by repeat constructor))) ?_)
                    rintro r15 w15 ⟨rfl, h⟩
                    replace hS := St.callN hS h
                    rw [hfe]
                    refine keepS (hS.sel (by repeat constructor)) (fun hD => ?_)
                    refine SatD.tk 41 rfl hD (fun _ hw => RunV.neq rfl rfl) ?_
                    refine SatD.tk 42 rfl hD (fun _ hw => RunV.pick_f rfl rfl) ?_
                    refine SatD.done 0 (by kernel_rfl) (SatE.thenC ?_)
                    clear hD
                    refine SatC.weak (e' := [(1, _), (4, _), (5, _), (6, _), (7, _), (8, _), (93, _)]) (by repeat constructor) ?_
                    refine SatC.cond rfl (fun h9 => ?_) (fun h9 => ?_)
                    · (try simp only [cx, ne_eq] at h9)
                      try (exfalso; (first | omega | exact h9 trivial | contradiction | (simp at h9; done)); done)
                      all_goals
                      refine SatC.seq ?_
                      refine SatC.region ?_
                      refine SatL.pu (RunV.assign rfl) rfl ?_
                      refine SatL.nil (SatE.thenC ?_)
                      refine SatC.ret (SatE.blk_ret (SatE.then_ret (SatE.then_ret (SatE.blk_ret (SatE.blk_ret (SatE.then_ret (SatE.then_ret (SatE.blk_ret (SatE.then_ret ?_)))))))))
                      refine SatE.ret1 rfl rfl ?_
                      first
                      | exact ⟨rfl, hS.sel .nil⟩
                      | (exfalso; simp_all; done)
                    · (try simp only [cx, ne_eq] at h9)
                      try (exfalso; (first | omega | exact h9 trivial | contradiction | (simp at h9; done)); done)
                      all_goals
                      refine SatC.skip (SatE.blk_normal (SatE.thenC ?_))
                      refine SatC.region ?_
                      refine SatL.pu (RunV.move rfl) rfl ?_
                      refine SatL.pu (RunV.add rfl rfl (by first | exact wrapI64 (by omega) | rfl)) rfl ?_
                      refine SatL.pu (RunV.assign rfl) rfl ?_
                      refine SatL.nil ?_
                      refine SatE.again (j + 1) ?_ (by first | omega | (dsimp only; omega)) (by repeat constructor)
                      exact ⟨by omega, hS.sel (by repeat constructor)⟩
              · (try simp only [cx, ne_eq] at h6)
                try (exfalso; (first | omega | exact h6 trivial | contradiction | (simp at h6; done)); done)
                all_goals
                refine SatC.exit (SatE.then_exit (SatE.then_exit (SatE.blk_exit (SatE.blk_normal (SatE.thenC ?_)))))
                refine SatC.region ?_
                refine SatL.pu (RunV.move rfl) rfl ?_
                refine SatL.pu (RunV.add rfl rfl (by first | exact wrapI64 (by omega) | rfl)) rfl ?_
                refine SatL.pu (RunV.assign rfl) rfl ?_
                refine SatL.nil ?_
                refine SatE.again ((i + 1, stepD d y, L2, fs2, FB2, D2)) ?_ (by first | omega | (dsimp only; omega)) (by repeat constructor)
                exact ⟨by omega, hd2, hr2, hS.sel (by repeat constructor)⟩
        · skip
          refine keepS (hS.sel (by repeat constructor)) (fun hD => ?_)
          refine SatD.ef 10 rfl (OpW.enter rfl rfl rfl (rfl) (down_d hd2 (hS.ownT (A := L2) (by repeat constructor))) ?_)
          rintro r7 w7 ⟨rfl, h⟩
          replace hS := St.callN hS h
          refine keepS (hS.sel (by repeat constructor)) (fun hD => ?_)
          refine SatD.tk 15 rfl hD (fun _ hw => RunV.bneq rfl rfl rfl) ?_
          refine SatD.tk 16 rfl hD (fun _ hw => RunV.pick_f rfl rfl) ?_
          refine SatD.tk 17 rfl hD (fun _ hw => RunV.move rfl) ?_
          refine SatD.ways 40 rfl (fun h4 => ?_) (fun h4 => ?_)
          · (try simp only [cx, ne_eq] at h4)
            try (exfalso; (first | omega | exact h4 trivial | contradiction | (simp at h4; done)); done)
            all_goals
            refine SatD.sk 18 rfl [] hD ?_
            refine SatD.sk 19 rfl [] hD ?_
            refine SatD.sk 20 rfl [] hD ?_
            refine SatD.sk 21 rfl [] hD ?_
            refine SatD.sk 22 rfl [] hD ?_
            refine SatD.tk 23 rfl hD (fun _ hw => RunV.pick_t rfl rfl) ?_
            refine SatD.done 0 (by kernel_rfl) (SatE.thenC ?_)
            clear hD
            refine SatC.weak (e' := [(1, _), (4, _), (5, _), (6, _), (7, _), (46, _)]) (by repeat constructor) ?_
            refine SatC.cond_t rfl ?_
            refine SatC.seq ?_
            refine SatC.region ?_
            refine SatL.pu (RunV.assign rfl) rfl ?_
            refine SatL.nil (SatE.thenC ?_)
            refine SatC.ret (SatE.then_ret (SatE.blk_ret (SatE.then_ret (SatE.then_ret (SatE.blk_ret (SatE.then_ret ?_))))))
            refine SatE.ret1 rfl rfl ?_
            first
            | exact ⟨rfl, hS.sel .nil⟩
            | (exfalso; simp_all; done)
          · (try simp only [cx, ne_eq] at h4)
            try (exfalso; (first | omega | exact h4 trivial | contradiction | (simp at h4; done)); done)
            all_goals
            refine SatD.tk 18 rfl hD (fun _ hw => RunV.move rfl) ?_
            refine SatD.tk 20 rfl hD (fun _ hw => RunV.move rfl) ?_
            refine SatD.ef 19 rfl (OpW.enter rfl rfl rfl (rfl) (used_d hd2 (hS.ownT (A := L2) (by repeat constructor))) ?_)
            rintro r8 w8 ⟨rfl, h⟩
            replace hS := St.callN hS h
            refine keepS (hS.sel (by repeat constructor)) (fun hD => ?_)
            refine SatD.ef 21 rfl (OpW.enter rfl rfl rfl (rfl) (rused_any hd2.ok hr2 (hS.ownT (A := RO rb (stepD d y) fv FB2 D2) (by repeat constructor))) ?_)
            rintro r9 w9 ⟨rfl, h⟩
            replace hS := St.callN hS h
            refine keepS (hS.sel (by repeat constructor)) (fun hD => ?_)
            refine SatD.tk 22 rfl hD (fun _ hw => RunV.neq rfl rfl) ?_
            refine SatD.tk 23 rfl hD (fun _ hw => RunV.pick_f rfl rfl) ?_
            refine SatD.done 0 (by kernel_rfl) (SatE.thenC ?_)
            clear hD
            refine SatC.weak (e' := [(1, _), (4, _), (5, _), (6, _), (7, _), (46, _)]) (by repeat constructor) ?_
            refine SatC.cond rfl (fun h5 => ?_) (fun h5 => ?_)
            · (try simp only [cx, ne_eq] at h5)
              try (exfalso; (first | omega | exact h5 trivial | contradiction | (simp at h5; done)); done)
              all_goals
              refine SatC.seq ?_
              refine SatC.region ?_
              refine SatL.pu (RunV.assign rfl) rfl ?_
              refine SatL.nil (SatE.thenC ?_)
              refine SatC.ret (SatE.then_ret (SatE.blk_ret (SatE.then_ret (SatE.then_ret (SatE.blk_ret (SatE.then_ret ?_))))))
              refine SatE.ret1 rfl rfl ?_
              first
              | exact ⟨rfl, hS.sel .nil⟩
              | (exfalso; simp_all; done)
            · (try simp only [cx, ne_eq] at h5)
              try (exfalso; (first | omega | exact h5 trivial | contradiction | (simp at h5; done)); done)
              all_goals
              refine SatC.skip (SatE.thenC ?_)
              refine SatC.seq ?_
              refine SatC.region ?_
              refine SatL.pu (RunV.assign rfl) rfl ?_
              refine SatL.nil (SatE.thenC ?_)
              refine SatC.block ?_
              refine SatC.loopK (G := Nat) (V := fun j => [(8, .int .i64 (j : Int))]) (Cn := [(1, _), (5, _), (6, _), (7, _), (4, _)]) (I := fun j w' => j ≤ 4 ∧ St w [] (L2 ++ ((rb, C 44 [.int .i64 (stepD d y).room, fv, .int .i64 (stepD d y).fuse, .bool (stepD d y).down]) :: (FB2 ++ D2))) w') (μ := fun j => 4 - j) 0 ?_ (by repeat constructor) ?_
              · exact ⟨Nat.zero_le _, hS.sel (by repeat constructor)⟩
              clear hS
              rintro j w10 ⟨hj, hS⟩
              refine SatC.weak (e' := [(1, _), (4, _), (5, _), (6, _), (7, _), (8, _)]) (by repeat constructor) ?_
              refine SatC.seq ?_
              refine SatC.seq ?_
              refine SatC.region ?_
              refine SatL.pu (RunV.move rfl) rfl ?_
              refine SatL.pu (RunV.lss rfl rfl) rfl ?_
              refine SatL.nil (SatE.thenC ?_)
              refine SatC.cond rfl (fun h6 => ?_) (fun h6 => ?_)
              · (try simp only [cx, ne_eq] at h6)
                try (exfalso; (first | omega | exact h6 trivial | contradiction | (simp at h6; done)); done)
                all_goals
                refine SatC.skip (SatE.thenC ?_)
                refine SatC.seq ?_
                refine SatC.block ?_
                refine SatC.seq ?_
                obtain ⟨x, hx⟩ := get_some fs2 j (by have := hr2.four hd2.ok; omega)
                obtain ⟨⟨xb, xo, xc, hxv⟩, hxr⟩ := hr2.rd x (List.mem_of_getElem? hx)
                have hfe := file_eq hr2 (by omega) hx
                have hsl2 := hr2.sl
                obtain ⟨fc2, hfv2⟩ := hsl2.slv
                rw [List.length_map, hr2.four hd2.ok] at hfv2
                refine SatC.drawnT 43 hS (hS) (by kernel_rfl) ?_
                clear hS
                intro w11 hh hS hD
                refine SatD.tk 0 rfl hD (fun _ hw => RunV.move rfl) ?_
                refine SatD.tk 1 rfl hD (fun _ hw => RunV.move rfl) ?_
                refine SatD.tk 4 rfl hD (fun _ hw => RunV.move rfl) ?_
                first | refine SatD.tk 5 rfl hD (fun _ hw => RunV.nil_ptr rfl) ?_ | refine SatD.tk 5 rfl hD (fun _ hw => RunV.nil_func rfl) ?_ | refine SatD.tk 5 rfl hD (fun _ hw => RunV.nil_yield rfl) ?_
                first | refine SatD.tk 6 rfl hD (fun _ hw => RunV.fieldAddrL rfl rfl rfl) ?_ | refine SatD.tk 6 rfl hD (fun _ hw => RunV.fieldAddr rfl rfl rfl) ?_
                refine SatD.tk 7 rfl hD (fun _ hw => RunV.load1 hw rfl rfl (by repeat constructor) rfl) ?_
                refine SatD.tk 8 rfl hD (fun _ hw => RunV.move rfl) ?_
                first | refine SatD.tk 9 rfl hD (fun _ hw => RunV.indexR (by assumption) rfl rfl rfl (by omega) (by omega) rfl) ?_ | refine SatD.tk 9 rfl hD (fun _ hw => RunV.indexS rfl rfl rfl (by omega) (by omega) rfl) ?_
                first | refine SatD.tk 10 rfl hD (fun _ hw => RunV.fieldAddrL rfl rfl rfl) ?_ | refine SatD.tk 10 rfl hD (fun _ hw => RunV.fieldAddr rfl rfl rfl) ?_
                refine SatD.tk 11 rfl hD (fun _ hw => RunV.loadR1g j 0 (Sl.rd hsl2 hw (by repeat constructor)) rfl rfl (by omega) (map_get hx) rfl) ?_
                refine SatD.tk 12 rfl hD (fun _ hw => RunV.b2s (cs := x.b) hxv (by obtain ⟨b1, o1, c1, h1, _, h2, _⟩ := (hxr _ (fun c hc => (hw.sel (R := D2) (by repeat constructor)).own c hc)).open; exact RdC.same h1 hxv h2 (List.length_map _)) rfl rfl rfl rfl rfl) ?_
                refine SatD.ef 2 rfl (OpW.enter rfl rfl rfl (rfl) (read_d (j : Int) hd2 (hS.ownT (A := L2) (by repeat constructor))) ?_)
                rintro r12 w12 ⟨B53, hsl53, h⟩
                replace hS := hS.call0 h
                rw [hfe] at hsl53
                obtain ⟨c53, hv53⟩ := hsl53.slv
                rw [List.length_map] at hv53
                refine keepS (hS.sel (by repeat constructor)) (fun hD => ?_)
                refine SatD.ef 3 rfl (OpW.pure (RunV.b2s (cs := x.b) hv53 (hsl53.rd hS (by repeat constructor)) rfl rfl rfl rfl rfl) rfl ?_)
                refine keepS (hS.sel (by repeat constructor)) (fun hD => ?_)
                refine SatD.tk 13 rfl hD (fun _ hw => RunV.sneq rfl rfl) ?_
                refine SatD.tk 14 rfl hD (fun _ hw => RunV.move rfl) ?_
                refine SatD.ways 65 rfl (fun h7 => ?_) (fun h7 => ?_)
                · (try simp only [cx, ne_eq] at h7)
                  try (exfalso; (first | omega | exact h7 trivial | contradiction | (simp at h7; done)); done)
                  all_goals
                  refine SatD.sk 15 rfl [] hD ?_
                  refine SatD.sk 16 rfl [] hD ?_
                  refine SatD.sk 17 rfl [] hD ?_
                  refine SatD.sk 18 rfl [] hD ?_
                  refine SatD.sk 19 rfl [] hD ?_
                  refine SatD.sk 20 rfl [] hD ?_
                  refine SatD.sk 21 rfl [] hD ?_
                  refine SatD.sk 22 rfl [] hD ?_
                  refine SatD.sk 23 rfl [] hD ?_
                  refine SatD.sk 24 rfl [] hD ?_
                  refine SatD.sk 25 rfl [] hD ?_
                  refine SatD.sk 26 rfl [] hD ?_
                  refine SatD.sk 27 rfl [] hD ?_
                  refine SatD.tk 28 rfl hD (fun _ hw => RunV.pick_t rfl rfl) ?_
                  refine SatD.tk 29 rfl hD (fun _ hw => RunV.move rfl) ?_
                  refine SatD.sk 30 rfl [] hD ?_
                  refine SatD.sk 31 rfl [] hD ?_
                  refine SatD.sk 32 rfl [] hD ?_
                  refine SatD.sk 33 rfl [] hD ?_
                  refine SatD.sk 34 rfl [] hD ?_
                  refine SatD.sk 35 rfl [] hD ?_
                  refine SatD.sk 36 rfl [] hD ?_
                  refine SatD.sk 37 rfl [] hD ?_
                  refine SatD.sk 38 rfl [] hD ?_
                  refine SatD.sk 39 rfl [] hD ?_
                  refine SatD.sk 40 rfl [] hD ?_
                  refine SatD.sk 41 rfl [] hD ?_
                  refine SatD.tk 42 rfl hD (fun _ hw => RunV.pick_t rfl rfl) ?_
                  refine SatD.done 0 (by kernel_rfl) (SatE.thenC ?_)
                  clear hD
                  refine SatC.weak (e' := [(1, _), (4, _), (5, _), (6, _), (7, _), (8, _), (93, _)]) (by repeat constructor) ?_
                  refine SatC.cond_t rfl ?_
                  refine SatC.seq ?_
                  refine SatC.region ?_
                  refine SatL.pu (RunV.assign rfl) rfl ?_
                  refine SatL.nil (SatE.thenC ?_)
                  refine SatC.ret (SatE.blk_ret (SatE.then_ret (SatE.then_ret (SatE.blk_ret (SatE.blk_ret (SatE.then_ret (SatE.then_ret (SatE.blk_ret (SatE.then_ret ?_)))))))))
                  refine SatE.ret1 rfl rfl ?_
                  first
                  | exact ⟨rfl, hS.sel .nil⟩
                  | (exfalso; simp_all; done)
                · (try simp only [cx, ne_eq] at h7)
                  try (exfalso; (first | omega | exact h7 trivial | contradiction | (simp at h7; done)); done)
                  all_goals
                  refine SatD.tk 15 rfl hD (fun _ hw => RunV.move rfl) ?_
                  refine SatD.tk 16 rfl hD (fun _ hw => RunV.move rfl) ?_
                  refine SatD.tk 18 rfl hD (fun _ hw => RunV.move rfl) ?_
                  first | refine SatD.tk 19 rfl hD (fun _ hw => RunV.nil_ptr rfl) ?_ | refine SatD.tk 19 rfl hD (fun _ hw => RunV.nil_func rfl) ?_ | refine SatD.tk 19 rfl hD (fun _ hw => RunV.nil_yield rfl) ?_
                  first | refine SatD.tk 20 rfl hD (fun _ hw => RunV.fieldAddrL rfl rfl rfl) ?_ | refine SatD.tk 20 rfl hD (fun _ hw => RunV.fieldAddr rfl rfl rfl) ?_
                  refine SatD.tk 21 rfl hD (fun _ hw => RunV.load1 hw rfl rfl (by repeat constructor) rfl) ?_
                  refine SatD.tk 22 rfl hD (fun _ hw => RunV.move rfl) ?_
                  first | refine SatD.tk 23 rfl hD (fun _ hw => RunV.indexR (by assumption) rfl rfl rfl (by omega) (by omega) rfl) ?_ | refine SatD.tk 23 rfl hD (fun _ hw => RunV.indexS rfl rfl rfl (by omega) (by omega) rfl) ?_
                  first | refine SatD.tk 24 rfl hD (fun _ hw => RunV.fieldAddrL rfl rfl rfl) ?_ | refine SatD.tk 24 rfl hD (fun _ hw => RunV.fieldAddr rfl rfl rfl) ?_
                  refine SatD.tk 25 rfl hD (fun _ hw => RunV.loadR1g j 0 (Sl.rd hsl2 hw (by repeat constructor)) rfl rfl (by omega) (map_get hx) rfl) ?_
                  first | refine SatD.tk 26 rfl hD (fun _ hw => RunV.lenR (by assumption) rfl rfl) ?_ | refine SatD.tk 26 rfl hD (fun _ hw => RunV.lenS rfl rfl) ?_
                  refine SatD.ef 17 rfl (OpW.enter rfl rfl rfl (rfl) (size_d (j : Int) hd2 (hS.ownT (A := L2) (by repeat constructor))) ?_)
                  rintro r14 w14 ⟨rfl, h⟩
                  replace hS := St.callN hS h
                  rw [hfe]
                  refine keepS (hS.sel (by repeat constructor)) (fun hD => ?_)
                  refine SatD.tk 27 rfl hD (fun _ hw => RunV.neq rfl rfl) ?_
                  refine SatD.tk 28 rfl hD (fun _ hw => RunV.pick_f rfl rfl) ?_
                  refine SatD.tk 29 rfl hD (fun _ hw => RunV.move rfl) ?_
                  refine SatD.ways 80 rfl (fun h8 => ?_) (fun h8 => ?_)
                  · (try simp only [cx, ne_eq] at h8)
                    try (exfalso; (first | omega | exact h8 trivial | contradiction | (simp at h8; done)); done)
                    all_goals
                    refine SatD.sk 30 rfl [] hD ?_
                    refine SatD.sk 31 rfl [] hD ?_
                    refine SatD.sk 32 rfl [] hD ?_
                    refine SatD.sk 33 rfl [] hD ?_
                    refine SatD.sk 34 rfl [] hD ?_
                    refine SatD.sk 35 rfl [] hD ?_
                    refine SatD.sk 36 rfl [] hD ?_
                    refine SatD.sk 37 rfl [] hD ?_
                    refine SatD.sk 38 rfl [] hD ?_
                    refine SatD.sk 39 rfl [] hD ?_
                    refine SatD.sk 40 rfl [] hD ?_
                    refine SatD.sk 41 rfl [] hD ?_
                    refine SatD.tk 42 rfl hD (fun _ hw => RunV.pick_t rfl rfl) ?_
                    refine SatD.done 0 (by kernel_rfl) (SatE.thenC ?_)
                    clear hD
                    refine SatC.weak (e' := [(1, _), (4, _), (5, _), (6, _), (7, _), (8, _), (93, _)]) (by repeat constructor) ?_
                    refine SatC.cond_t rfl ?_
                    refine SatC.seq ?_
                    refine SatC.region ?_
                    refine SatL.pu (RunV.assign rfl) rfl ?_
                    refine SatL.nil (SatE.thenC ?_)
                    refine SatC.ret (SatE.blk_ret (SatE.then_ret (SatE.then_ret (SatE.blk_ret (SatE.blk_ret (SatE.then_ret (SatE.then_ret (SatE.blk_ret (SatE.then_ret ?_)))))))))
                    refine SatE.ret1 rfl rfl ?_
                    first
                    | exact ⟨rfl, hS.sel .nil⟩
                    | (exfalso; simp_all; done)
                  · (try simp only [cx, ne_eq] at h8)
                    try (exfalso; (first | omega | exact h8 trivial | contradiction | (simp at h8; done)); done)
                    all_goals
                    refine SatD.tk 30 rfl hD (fun _ hw => RunV.move rfl) ?_
                    refine SatD.tk 31 rfl hD (fun _ hw => RunV.move rfl) ?_
                    refine SatD.tk 33 rfl hD (fun _ hw => RunV.move rfl) ?_
                    first | refine SatD.tk 34 rfl hD (fun _ hw => RunV.nil_ptr rfl) ?_ | refine SatD.tk 34 rfl hD (fun _ hw => RunV.nil_func rfl) ?_ | refine SatD.tk 34 rfl hD (fun _ hw => RunV.nil_yield rfl) ?_
                    first | refine SatD.tk 35 rfl hD (fun _ hw => RunV.fieldAddrL rfl rfl rfl) ?_ | refine SatD.tk 35 rfl hD (fun _ hw => RunV.fieldAddr rfl rfl rfl) ?_
                    refine SatD.tk 36 rfl hD (fun _ hw => RunV.load1 hw rfl rfl (by repeat constructor) rfl) ?_
                    refine SatD.tk 37 rfl hD (fun _ hw => RunV.move rfl) ?_
                    first | refine SatD.tk 38 rfl hD (fun _ hw => RunV.indexR (by assumption) rfl rfl rfl (by omega) (by omega) rfl) ?_ | refine SatD.tk 38 rfl hD (fun _ hw => RunV.indexS rfl rfl rfl (by omega) (by omega) rfl) ?_
                    first | refine SatD.tk 39 rfl hD (fun _ hw => RunV.fieldAddrL rfl rfl rfl) ?_ | refine SatD.tk 39 rfl hD (fun _ hw => RunV.fieldAddr rfl rfl rfl) ?_
                    refine SatD.tk 40 rfl hD (fun _ hw => RunV.loadR1g j 1 (Sl.rd hsl2 hw (by repeat constructor)) rfl rfl (by omega) (map_get hx) rfl) ?_
                    refine SatD.ef 32 rfl (OpW.enter rfl rfl rfl (rfl) (synced_d (j : Int) hd2 (hS.ownT (A := L2) (by repeat constructor))) ?_)
                    rintro r15 w15 ⟨rfl, h⟩
                    replace hS := St.callN hS h
                    rw [hfe]
                    refine keepS (hS.sel (by repeat constructor)) (fun hD => ?_)
                    refine SatD.tk 41 rfl hD (fun _ hw => RunV.neq rfl rfl) ?_
                    refine SatD.tk 42 rfl hD (fun _ hw => RunV.pick_f rfl rfl) ?_
                    refine SatD.done 0 (by kernel_rfl) (SatE.thenC ?_)
                    clear hD
                    refine SatC.weak (e' := [(1, _), (4, _), (5, _), (6, _), (7, _), (8, _), (93, _)]) (by repeat constructor) ?_
                    refine SatC.cond rfl (fun h9 => ?_) (fun h9 => ?_)
                    · (try simp only [cx, ne_eq] at h9)
                      try (exfalso; (first | omega | exact h9 trivial | contradiction | (simp at h9; done)); done)
                      all_goals
                      refine SatC.seq ?_
                      refine SatC.region ?_
                      refine SatL.pu (RunV.assign rfl) rfl ?_
                      refine SatL.nil (SatE.thenC ?_)
                      refine SatC.ret (SatE.blk_ret (SatE.then_ret (SatE.then_ret (SatE.blk_ret (SatE.blk_ret (SatE.then_ret (SatE.then_ret (SatE.blk_ret (SatE.then_ret ?_)))))))))
                      refine SatE.ret1 rfl rfl ?_
                      first
                      | exact ⟨rfl, hS.sel .nil⟩
                      | (exfalso; simp_all; done)
                    · (try simp only [cx, ne_eq] at h9)
                      try (exfalso; (first | omega | exact h9 trivial | contradiction | (simp at h9; done)); done)
                      all_goals
                      refine SatC.skip (SatE.blk_normal (SatE.thenC ?_))
                      refine SatC.region ?_
                      refine SatL.pu (RunV.move rfl) rfl ?_
                      refine SatL.pu (RunV.add rfl rfl (by first | exact wrapI64 (by omega) | rfl)) rfl ?_
                      refine SatL.pu (RunV.assign rfl) rfl ?_
                      refine SatL.nil ?_
                      refine SatE.again (j + 1) ?_ (by first | omega | (dsimp only; omega)) (by repeat constructor)
                      exact ⟨by omega, hS.sel (by repeat constructor)⟩
              · (try simp only [cx, ne_eq] at h6)
                try (exfalso; (first | omega | exact h6 trivial | contradiction | (simp at h6; done)); done)
                all_goals
                refine SatC.exit (SatE.then_exit (SatE.then_exit (SatE.blk_exit (SatE.blk_normal (SatE.thenC ?_)))))
                refine SatC.region ?_
                refine SatL.pu (RunV.move rfl) rfl ?_
                refine SatL.pu (RunV.add rfl rfl (by first | exact wrapI64 (by omega) | rfl)) rfl ?_
                refine SatL.pu (RunV.assign rfl) rfl ?_
                refine SatL.nil ?_
                refine SatE.again ((i + 1, stepD d y, L2, fs2, FB2, D2)) ?_ (by first | omega | (dsimp only; omega)) (by repeat constructor)
                exact ⟨by omega, hd2, hr2, hS.sel (by repeat constructor)⟩
    · (try simp only [cx, ne_eq] at h2)
      try (exfalso; (first | omega | exact h2 trivial | contradiction | (simp at h2; done)); done)
      all_goals
      refine SatC.exit (SatE.then_exit (SatE.then_exit (SatE.blk_exit (SatE.thenC ?_))))
      refine SatC.seq ?_
      refine SatC.region ?_
      refine SatL.pu (RunV.move rfl) rfl ?_
      refine SatL.op rfl (OpW.enter rfl rfl rfl (rfl) (read_d 4 hd (hS.ownT (A := L) (by repeat constructor))) ?_)
      rintro r4 w4 ⟨B95, hsl95, h⟩
      replace hS := hS.call0 h
      rw [show (aFile d 4).1 = [] from by rw [file_no (by omega)]] at hsl95
      obtain ⟨c95, hv95⟩ := hsl95.slv
      first | refine SatL.pu (RunV.lenR (by assumption) rfl rfl) rfl ?_ | refine SatL.pu (RunV.lenS rfl rfl) rfl ?_
      refine SatL.pu (RunV.eql rfl rfl) rfl ?_
      refine SatL.pu (RunV.move rfl) rfl ?_
      refine SatL.guard rfl rfl rfl (fun h3 => ?_) (fun h3 => ?_)
      · (try simp only [cx, ne_eq] at h3)
        try (exfalso; (first | omega | exact h3 trivial | contradiction | (simp at h3; done)); done)
        all_goals
        refine SatL.pu (RunV.move rfl) rfl ?_
        refine SatL.guard_y rfl rfl ?_
        refine SatL.op rfl (OpW.enter rfl rfl rfl (rfl) (size_d (-1) hd (hS.ownT (A := L) (by repeat constructor))) ?_)
        rintro r5 w5 ⟨rfl, h⟩
        replace hS := St.callN hS h
        rw [show (aFile d (-1)).1 = [] from by rw [file_no (by omega)]]
        refine SatL.guard_y rfl rfl ?_
        refine SatL.pu (RunV.eql rfl rfl) rfl ?_
        refine SatL.pu (RunV.pick_t rfl rfl) rfl ?_
        refine SatL.pu (RunV.move rfl) rfl ?_
        refine SatL.guard rfl rfl rfl (fun h4 => ?_) (fun h4 => ?_)
        · (try simp only [cx, ne_eq] at h4)
          try (exfalso; (first | omega | exact h4 trivial | contradiction | (simp at h4; done)); done)
          all_goals
          refine SatL.op rfl (OpW.enter rfl rfl rfl (rfl) (works_any _) ?_)
          rintro r6 w6 ⟨rfl, h⟩
          replace hS := St.callN hS h
          refine SatL.pu (RunV.pick_t rfl rfl) rfl ?_
          refine SatL.pu (RunV.assign rfl) rfl ?_
          refine SatL.nil (SatE.thenC ?_)
          refine SatC.ret ?_
          refine SatE.ret1 rfl rfl ?_
          first
          | exact ⟨rfl, hS.sel .nil⟩
          | (exfalso; simp_all; done)
        · (try simp only [cx, ne_eq] at h4)
          try (exfalso; (first | omega | exact h4 trivial | contradiction | (simp at h4; done)); done)
          all_goals
          refine SatL.pu (RunV.pick_f rfl rfl) rfl ?_
          refine SatL.pu (RunV.assign rfl) rfl ?_
          refine SatL.nil (SatE.thenC ?_)
          refine SatC.ret ?_
          refine SatE.ret1 rfl rfl ?_
          first
          | exact ⟨rfl, hS.sel .nil⟩
          | (exfalso; simp_all; done)
      · (try simp only [cx, ne_eq] at h3)
        try (exfalso; (first | omega | exact h3 trivial | contradiction | (simp at h3; done)); done)
        all_goals
        refine SatL.guard_n rfl rfl rfl rfl ?_
        refine SatL.guard_n rfl rfl rfl rfl ?_
        refine SatL.pu (RunV.pick_f rfl rfl) rfl ?_
        refine SatL.pu (RunV.move rfl) rfl ?_
        refine SatL.guard_n rfl rfl rfl rfl ?_
        refine SatL.pu (RunV.pick_f rfl rfl) rfl ?_
        refine SatL.pu (RunV.assign rfl) rfl ?_
        refine SatL.nil (SatE.thenC ?_)
        refine SatC.ret ?_
        refine SatE.ret1 rfl rfl ?_
        first
        | exact ⟨rfl, hS.sel .nil⟩
        | (exfalso; simp_all; done)
  · (try simp only [cx, ne_eq] at h1)
    try (exfalso; (first | omega | exact h1 trivial | contradiction | (simp at h1; done)); done)
    all_goals
    refine SatL.guard_n rfl rfl rfl rfl ?_
    refine SatL.pu (RunV.pick_f rfl rfl) rfl ?_
    refine SatL.nil (SatE.thenC ?_)
    refine SatC.cond_f rfl ?_
    refine SatC.exit (SatE.then_exit (SatE.then_exit (SatE.blk_exit (SatE.thenC ?_))))
    refine SatC.seq ?_
    refine SatC.region ?_
    refine SatL.pu (RunV.move rfl) rfl ?_
    refine SatL.op rfl (OpW.enter rfl rfl rfl (rfl) (read_d 4 hd (hS.ownT (A := L) (by repeat constructor))) ?_)
    rintro r4 w4 ⟨B95, hsl95, h⟩
    replace hS := hS.call0 h
    rw [show (aFile d 4).1 = [] from by rw [file_no (by omega)]] at hsl95
    obtain ⟨c95, hv95⟩ := hsl95.slv
    first | refine SatL.pu (RunV.lenR (by assumption) rfl rfl) rfl ?_ | refine SatL.pu (RunV.lenS rfl rfl) rfl ?_
    refine SatL.pu (RunV.eql rfl rfl) rfl ?_
    refine SatL.pu (RunV.move rfl) rfl ?_
    refine SatL.guard rfl rfl rfl (fun h2 => ?_) (fun h2 => ?_)
    · (try simp only [cx, ne_eq] at h2)
      try (exfalso; (first | omega | exact h2 trivial | contradiction | (simp at h2; done)); done)
      all_goals
      refine SatL.pu (RunV.move rfl) rfl ?_
      refine SatL.guard_y rfl rfl ?_
      refine SatL.op rfl (OpW.enter rfl rfl rfl (rfl) (size_d (-1) hd (hS.ownT (A := L) (by repeat constructor))) ?_)
      rintro r5 w5 ⟨rfl, h⟩
      replace hS := St.callN hS h
      rw [show (aFile d (-1)).1 = [] from by rw [file_no (by omega)]]
      refine SatL.guard_y rfl rfl ?_
      refine SatL.pu (RunV.eql rfl rfl) rfl ?_
      refine SatL.pu (RunV.pick_t rfl rfl) rfl ?_
      refine SatL.pu (RunV.move rfl) rfl ?_
      refine SatL.guard rfl rfl rfl (fun h3 => ?_) (fun h3 => ?_)
      · (try simp only [cx, ne_eq] at h3)
        try (exfalso; (first | omega | exact h3 trivial | contradiction | (simp at h3; done)); done)
        all_goals
        refine SatL.op rfl (OpW.enter rfl rfl rfl (rfl) (works_any _) ?_)
        rintro r6 w6 ⟨rfl, h⟩
        replace hS := St.callN hS h
        refine SatL.pu (RunV.pick_t rfl rfl) rfl ?_
        refine SatL.pu (RunV.assign rfl) rfl ?_
        refine SatL.nil (SatE.thenC ?_)
        refine SatC.ret ?_
        refine SatE.ret1 rfl rfl ?_
        first
        | exact ⟨rfl, hS.sel .nil⟩
        | (exfalso; simp_all; done)
      · (try simp only [cx, ne_eq] at h3)
        try (exfalso; (first | omega | exact h3 trivial | contradiction | (simp at h3; done)); done)
        all_goals
        refine SatL.pu (RunV.pick_f rfl rfl) rfl ?_
        refine SatL.pu (RunV.assign rfl) rfl ?_
        refine SatL.nil (SatE.thenC ?_)
        refine SatC.ret ?_
        refine SatE.ret1 rfl rfl ?_
        first
        | exact ⟨rfl, hS.sel .nil⟩
        | (exfalso; simp_all; done)
    · (try simp only [cx, ne_eq] at h2)
      try (exfalso; (first | omega | exact h2 trivial | contradiction | (simp at h2; done)); done)
      all_goals
      refine SatL.guard_n rfl rfl rfl rfl ?_
      refine SatL.guard_n rfl rfl rfl rfl ?_
      refine SatL.pu (RunV.pick_f rfl rfl) rfl ?_
      refine SatL.pu (RunV.move rfl) rfl ?_
      refine SatL.guard_n rfl rfl rfl rfl ?_
      refine SatL.pu (RunV.pick_f rfl rfl) rfl ?_
      refine SatL.pu (RunV.assign rfl) rfl ?_
      refine SatL.nil (SatE.thenC ?_)
      refine SatC.ret ?_
      refine SatE.ret1 rfl rfl ?_
      first
      | exact ⟨rfl, hS.sel .nil⟩
      | (exfalso; simp_all; done)
theorem diskPlays_lifted (os : Os) (started : os.Started) (H : Type) (enc : TypeId × Value → H) :
    ReturnsInHanded {} Try.checked os 5 .any (Rows.diskPlaysSpec.pre6 enc Try.prog Try.f5 Rows.diskPlaysRow.domain false) (Rows.diskPlaysSpec.post enc Try.prog Try.f5 false true false false) := by
  refine law_returns (C := Try.checked) (b := 4) (by kernel_rfl) started (by kernel_rfl) Try.func5
    (ChangeSpec.witness6 (enc := enc) (C := Try.checked) false ⟨#[], #[.int .i64 0, .slice none 0 0], []⟩ 8 (by kernel_rfl) (by kernel_rfl) (by kernel_rfl) (by kernel_rfl))
    rfl rfl (by kernel_rfl) (by kernel_rfl) (by kernel_rfl) (fun ds h => ?_) ?_
  · rw [Try.params5] at h
    match ds, h with
    | [_, _], _ => rfl
  intro W base args ds ps hval hA hsz
  rw [Try.params5] at hA hval
  obtain ⟨v0, v1, d0, d1, q0, q1, hargs, rfl, rfl, h0, h1⟩ := trodAll_two hA
  subst hargs
  obtain ⟨a0, rfl, rfl, rfl, b0⟩ := open_int Try.underlying3 (hval 0 3 v0 rfl rfl) h0
  replace b0 := bnd_i64 b0
  obtain ⟨xs1, hr1, hx1⟩ := open_rows (l := [3, 3, 3, 22]) 6 Try.underlying23 (by kernel_rfl) (by kernel_rfl) (by decide) (hval 1 23 v1 rfl rfl) h1
  obtain ⟨ys1, rfl, hy1⟩ := rows_map (enc' := sr) (q := StB W) (fun r hr => by
    obtain ⟨u0, u1, u2, u3, rfl, l0, l1, l2, l3⟩ := allLeaf_list4 hr
    obtain ⟨n0, rfl, e0⟩ := leaf_int Try.underlying3 l0
    obtain ⟨n1, rfl, e1⟩ := leaf_int Try.underlying3 l1
    obtain ⟨n2, rfl, e2⟩ := leaf_int Try.underlying3 l2
    obtain ⟨xb, hb, hxb⟩ := leaf_rows (l := [5]) 6 Try.underlying22 (by kernel_rfl) (by kernel_rfl) (by decide) l3
    obtain ⟨bs, rfl, _⟩ := rows_map (enc' := by1c) (q := fun _ => True) (fun r hr => by
      obtain ⟨u, rfl, lu⟩ := allLeaf_list1 hr
      obtain ⟨m, rfl, em⟩ := leaf_int Try.underlying5 lu
      obtain ⟨c, rfl⟩ : ∃ c : UInt8, m = (c.toNat : Int) := ⟨UInt8.ofNat m.toNat, by have := bnd_u8 em; simp; omega⟩
      exact ⟨c, rfl, trivial⟩) xb hxb
    exact ⟨⟨n0, n1, n2, u3, bs⟩, rfl, bnd_i64 e2, hb⟩) xs1 hx1
  exact law_done (plays_any a0 _ ys1 W hr1 hy1)
theorem diskPlays_holds : Rows.DiskPlaysSaid :=
  OpenClaim.holds_of_wide 5 Try.f5 rfl rfl rfl rfl rfl rfl rfl ⟨rfl, rfl, rfl, rfl, rfl⟩ rfl rfl rfl rfl rfl (by kernel_rfl) Try.func5 (by kernel_rfl)
    (of_decide_eq_true (by kernel_rfl)) (by unfold Func.isWrapper; first | (rw [if_pos (by decide +kernel)]; kernel_rfl) | (rw [if_neg (by decide +kernel)]; exact ⟨rfl, rfl⟩))
    (fun os started H enc _ => diskPlays_lifted os started H enc)
end Go.Proofs.Ytahholhggohbnaa
