/- SessionPlays: whatever is opened and closed, the sessions are, and each call answers, what the document says. -/
import Derived.Test.YthbfigkfelfhcaaW
import Derived.Test.YthbfigkfelfhcaaK7
import Derived.Test.YthbfigkfelfhcaaK16
import Derived.Test.YthbfigkfelfhcaaRows
set_option linter.unusedSimpArgs false
set_option linter.unusedVariables false
set_option maxRecDepth 100000
set_option maxHeartbeats 16000000
namespace Go.Proofs.Ythbfigkfelfhcaa
open Go.RowKit Go.ChangeShapes Go.WideShapes Go.ChangeAt
theorem rest_len (nd : Int) (ss : List Ses) : (restS nd ss).length ≤ ss.length := List.length_filter_le ..
theorem plays_any (n : Int) (v : Value) (ys : List Sp) (w : World) (hr : RdRow w v 4 (ys.map sr)) (hys : ∀ y ∈ ys, SpB y) : Ret Try.prog 5 #[.int .i64 n, v] w fun u w' => u = .bool true ∧ St w [] [] w' := by
  have hS := St.init0 w
  obtain ⟨bl, ol, cl, hvl, hmaxl, hcl, hltl⟩ := hr.open
  simp only [List.length_map] at hvl hmaxl hltl
  obtain ⟨most, hmost⟩ : ∃ m, min (max n 1) 64 = m := ⟨_, rfl⟩
  have hmb : 1 ≤ most ∧ most ≤ 64 := by omega
  have hm : ¬ most = 0 := by omega
  refine Ret.enter Try.func5 Try.ntmps5 rfl rfl ?_
  simp only [argEnv, Nat.reduceAdd]
  refine SatC.seq ?_
  refine SatC.region ?_
  refine SatL.pu (RunV.assign rfl) rfl ?_
  refine SatL.nil (SatE.thenC ?_)
  refine SatC.seq ?_
  refine SatC.region ?_
  refine SatL.pu (RunV.move rfl) rfl ?_
  refine SatL.op rfl (OpW.enter rfl rfl rfl (rfl) (new_any n _) ?_)
  rintro r1 w1 ⟨b0, b, rfl, h⟩
  replace hS := hS.callT (A := []) (by repeat constructor) h
  rw [hmost] at hS
  refine SatL.pu (RunV.assign rfl) rfl ?_
  refine SatL.nil (SatE.thenC ?_)
  refine SatC.seq ?_
  refine SatC.region ?_
  refine SatL.pu (RunV.move rfl) rfl ?_
  refine SatL.op rfl (OpW.enter rfl rfl rfl (rfl) (rnew_any n _) ?_)
  rintro r2 w2 ⟨rb, rfl, h⟩
  replace hS := hS.callT (A := []) (by repeat constructor) h
  rw [hmost] at hS
  refine SatL.pu (RunV.assign rfl) rfl ?_
  refine SatL.nil (SatE.thenC ?_)
  refine SatC.seq ?_
  refine SatC.seq ?_
  refine SatC.region ?_
  refine SatL.pu (RunV.assign rfl) rfl ?_
  refine SatL.nil (SatE.thenC ?_)
  refine SatC.block ?_
  refine SatC.loopK (G := Nat × List Ses × Int × Value × List (Nat × Obj) × Value × List (Nat × Obj)) (V := fun ⟨i, ss, last, tv, B, rv', RB⟩ => [(7, .int .i64 (i : Int))]) (Cn := [(1, _), (5, _), (6, _), (4, _)]) (I := fun ⟨i, ss, last, tv, B, rv', RB⟩ w' => i ≤ ys.length ∧ i ≤ 80 ∧ WfS ss ∧ (ss.length : Int) ≤ most ∧ Sl 73 7 tv ((ss.map rowOf).map tr) B ∧ Sl 35 4 rv' (ss.map sc) RB ∧ St w [] ((b0, C 59 (sn b)) :: (b, C 78 (tc most tv last)) :: (B ++ ((rb, C 53 (rt most rv' last)) :: RB))) w') (μ := fun ⟨i, ss, last, tv, B, rv', RB⟩ => ys.length - i) (0, [], 0, .slice none 0 0, [], .slice none 0 0, []) ?_ (by repeat constructor) ?_
  · exact ⟨Nat.zero_le _, by omega, wf_nil, by simp; omega, .nil, .nil, hS.sel (by repeat constructor)⟩
  clear hS
  rintro ⟨i, ss, last, tv, B, rv', RB⟩ w3 ⟨hi, hi8, hw, hlen, hsl, hsr, hS⟩
  refine SatC.weak (e' := [(1, _), (4, _), (5, _), (6, _), (7, _)]) (by repeat constructor) ?_
  refine SatC.seq ?_
  refine SatC.seq ?_
  refine SatC.region ?_
  refine SatL.pu (RunV.move rfl) rfl ?_
  refine SatL.pu (RunV.move rfl) rfl ?_
  first | refine SatL.pu (RunV.lenR (by assumption) rfl rfl) rfl ?_ | refine SatL.pu (RunV.lenS rfl rfl) rfl ?_
  refine SatL.pu (RunV.lss rfl rfl) rfl ?_
  refine SatL.pu (RunV.move rfl) rfl ?_
  refine SatL.guard rfl rfl rfl (fun h1 => ?_) (fun h1 => ?_)
  · (try simp only [cx, ne_eq] at h1)
    try (exfalso; (first | omega | exact h1 trivial | contradiction | (first | exact h1 rfl | cases h1)); done)
    all_goals
    refine SatL.pu (RunV.move rfl) rfl ?_
    refine SatL.guard_y rfl rfl ?_
    refine SatL.pu (RunV.lss rfl rfl) rfl ?_
    refine SatL.pu (RunV.pick_t rfl rfl) rfl ?_
    refine SatL.nil (SatE.thenC ?_)
    refine SatC.cond rfl (fun h2 => ?_) (fun h2 => ?_)
    · (try simp only [cx, ne_eq] at h2)
      try (exfalso; (first | omega | exact h2 trivial | contradiction | (first | exact h2 rfl | cases h2)); done)
      all_goals
      refine SatC.skip (SatE.thenC ?_)
      refine SatC.seq ?_
      refine SatC.block ?_
      refine SatC.seq ?_
      obtain ⟨y, hy⟩ := get_some ys i (by omega)
      obtain ⟨hyb1, hyb2⟩ := hys y (List.mem_of_getElem? hy)
      have hl1 : ss.length ≤ 100 := by omega
      have hln : (ss.map sc).length ≤ 9223372036854775807 := by rw [List.length_map]; omega
      have hid : 0 ≤ y.2.2.1 ∧ y.2.2.1 < 18446744073709551616 := ⟨hyb1.1, by omega⟩
      have hix : 0 ≤ y.2.2.2 ∧ y.2.2.2 < 18446744073709551616 := ⟨hyb2.1, by omega⟩
      have hids : ((idsS y.2.1 ss).map uR).length ≤ 9223372036854775807 := by rw [List.length_map]; unfold idsS; rw [List.length_map]; have := List.length_filter_le (fun (x : Ses) => decide (x.nd = y.2.1)) ss; omega
      refine SatC.region ?_
      refine SatL.pu (RunV.move rfl) rfl ?_
      refine SatL.pu (RunV.move rfl) rfl ?_
      first | refine SatL.pu (RunV.indexR (by assumption) rfl rfl rfl (by omega) (by omega) rfl) rfl ?_ | refine SatL.pu (RunV.indexS rfl rfl rfl (by omega) (by omega) rfl) rfl ?_
      first | refine SatL.pu (RunV.loadRNz (RdC.st (by assumption) hS List.not_mem_nil) rfl rfl (by first | assumption | exact map_get (by assumption))) rfl ?_ | refine SatL.pu (RunV.loadRNz (Sl.rd (by assumption) hS (by repeat constructor)) rfl rfl (by first | assumption | exact map_get (by assumption))) rfl ?_
      refine SatL.op rfl (OpW.alloc hS rfl rfl (by repeat constructor) ?_)
      clear hS
      intro b8 w4 _ hS
      refine SatL.op rfl (OpW.store hS rfl rfl (by repeat constructor) (by repeat constructor) (by repeat constructor) rfl rfl ?_)
      clear hS
      intro w5 hS
      refine SatL.nil (SatE.thenC ?_)
      refine SatC.seq ?_
      refine SatC.weak (e' := [(1, _), (4, _), (5, _), (6, _), (7, _), (8, _)]) (by repeat constructor) ?_
      refine SatC.region ?_
      refine SatL.pu (RunV.assign rfl) rfl ?_
      refine SatL.nil (SatE.thenC ?_)
      refine SatC.merge (G := Bool × List Ses × Int × Value × List (Nat × Obj) × Value × List (Nat × Obj)) (V := fun ⟨q, ss, last, tv, B, rv', RB⟩ => [(9, .bool q)]) (Cn := [(1, _), (4, _), (5, _), (6, _), (7, _), (8, _)]) (I := fun ⟨q, ss, last, tv, B, rv', RB⟩ w' => q = true ∧ WfS ss ∧ (ss.length : Int) ≤ most ∧ Sl 73 7 tv ((ss.map rowOf).map tr) B ∧ Sl 35 4 rv' (ss.map sc) RB ∧ St w [] ((b8, C 27 (sr y)) :: (b0, C 59 (sn b)) :: (b, C 78 (tc most tv last)) :: (B ++ ((rb, C 53 (rt most rv' last)) :: RB))) w') (by repeat constructor) ?_ ?_
      · skip
        refine SatC.seq ?_
        refine SatC.region ?_
        first | refine SatL.pu (RunV.fieldAddrL rfl rfl rfl) rfl ?_ | refine SatL.pu (RunV.fieldAddr rfl rfl rfl) rfl ?_
        refine SatL.pu (RunV.load1 hS rfl rfl (by repeat constructor) rfl) rfl ?_
        refine SatL.nil (SatE.thenC ?_)
        refine SatC.block ?_
        refine SatC.seq ?_
        refine SatC.region ?_
        refine SatL.pu (RunV.eql rfl rfl) rfl ?_
        refine SatL.pu (RunV.assign rfl) rfl ?_
        refine SatL.nil (SatE.thenC ?_)
        refine SatC.cond rfl (fun h3 => ?_) (fun h3 => ?_)
        · (try simp only [cx, ne_eq] at h3)
          try (exfalso; (first | omega | exact h3 trivial | contradiction | (first | exact h3 rfl | cases h3)); done)
          all_goals
          refine SatC.seq ?_
          refine SatC.region ?_
          refine SatL.pu (RunV.move rfl) rfl ?_
          first | refine SatL.pu (RunV.fieldAddrL rfl rfl rfl) rfl ?_ | refine SatL.pu (RunV.fieldAddr rfl rfl rfl) rfl ?_
          refine SatL.pu (RunV.load1 hS rfl rfl (by repeat constructor) rfl) rfl ?_
          first | refine SatL.pu (RunV.fieldAddrL rfl rfl rfl) rfl ?_ | refine SatL.pu (RunV.fieldAddr rfl rfl rfl) rfl ?_
          refine SatL.pu (RunV.load1 hS rfl rfl (by repeat constructor) rfl) rfl ?_
          refine SatL.op rfl (OpW.enter rfl rfl rfl (rfl) (open_any y.2.1 y.2.2.2 hix hw hm hsl (by omega) (hS.ownT (A := SO b0 b most last tv B) (by repeat constructor))) ?_)
          rintro r6 w6 ⟨rfl, v2, B2, hsl2, h⟩
          replace hS := hS.callT (A := SO b0 b most last tv B) (by repeat constructor) h
          refine SatL.pu (RunV.move rfl) rfl ?_
          refine SatL.pu (RunV.extract rfl rfl) rfl ?_
          refine SatL.pu (RunV.extract rfl rfl) rfl ?_
          refine SatL.pu (RunV.assign rfl) rfl ?_
          refine SatL.pu (RunV.assign rfl) rfl ?_
          refine SatL.nil (SatE.thenC ?_)
          refine SatC.seq ?_
          refine SatC.weak (e' := [(1, _), (4, _), (5, _), (6, _), (7, _), (8, _), (9, _), (10, _), (11, _)]) (by repeat constructor) ?_
          refine SatC.region ?_
          refine SatL.pu (RunV.move rfl) rfl ?_
          first | refine SatL.pu (RunV.fieldAddrL rfl rfl rfl) rfl ?_ | refine SatL.pu (RunV.fieldAddr rfl rfl rfl) rfl ?_
          refine SatL.pu (RunV.load1 hS rfl rfl (by repeat constructor) rfl) rfl ?_
          first | refine SatL.pu (RunV.fieldAddrL rfl rfl rfl) rfl ?_ | refine SatL.pu (RunV.fieldAddr rfl rfl rfl) rfl ?_
          refine SatL.pu (RunV.load1 hS rfl rfl (by repeat constructor) rfl) rfl ?_
          refine SatL.op rfl (OpW.enter rfl rfl rfl (rfl) (open_ref y.2.1 y.2.2.2 hix (hS.ownT (A := (rb, C 53 (rt most rv' last)) :: RB) (by repeat constructor)) hsr hl1) ?_)
          rintro r7 w7 ⟨rfl, rv2, RB2, hsr2, h⟩
          replace hS := hS.callT (A := (rb, C 53 (rt most rv' last)) :: RB) (by repeat constructor) h
          refine SatL.pu (RunV.move rfl) rfl ?_
          refine SatL.pu (RunV.extract rfl rfl) rfl ?_
          refine SatL.pu (RunV.extract rfl rfl) rfl ?_
          refine SatL.pu (RunV.assign rfl) rfl ?_
          refine SatL.pu (RunV.assign rfl) rfl ?_
          refine SatL.nil (SatE.thenC ?_)
          refine SatC.region ?_
          refine SatL.pu (RunV.move rfl) rfl ?_
          refine SatL.pu (RunV.move rfl) rfl ?_
          refine SatL.pu (RunV.eql rfl rfl) rfl ?_
          refine SatL.pu (RunV.move rfl) rfl ?_
          refine SatL.guard rfl rfl rfl (fun h4 => ?_) (fun h4 => ?_)
          · (try simp only [cx, ne_eq] at h4)
            try (exfalso; (first | omega | exact h4 trivial | contradiction | (first | exact h4 rfl | cases h4)); done)
            all_goals
            refine SatL.pu (RunV.move rfl) rfl ?_
            refine SatL.guard_y rfl rfl ?_
            refine SatL.pu (RunV.move rfl) rfl ?_
            refine SatL.guard_y rfl rfl ?_
            refine SatL.pu (RunV.eql rfl rfl) rfl ?_
            refine SatL.pu (RunV.pick_t rfl rfl) rfl ?_
            refine SatL.pu (RunV.assign rfl) rfl ?_
            refine SatL.nil (SatE.blk_normal ?_)
            refine SatE.met ((_, (openS most last ss y.2.1 y.2.2.2).2.1, (openS most last ss y.2.1 y.2.2.2).2.2, v2, B2, rv2, RB2)) ?_ (by repeat constructor)
            exact ⟨by simp, (open_wf hw hix hlen).1, (open_wf hw hix hlen).2, hsl2, hsr2, hS.sel (by repeat constructor)⟩
          · (try simp only [cx, ne_eq] at h4)
            try (exfalso; (first | omega | exact h4 trivial | contradiction | (first | exact h4 rfl | cases h4)); done)
            all_goals
            refine SatL.guard_n rfl rfl rfl rfl ?_
            refine SatL.guard_n rfl rfl rfl rfl ?_
            refine SatL.pu (RunV.pick_f rfl rfl) rfl ?_
            refine SatL.pu (RunV.assign rfl) rfl ?_
            refine SatL.nil (SatE.blk_normal ?_)
            refine SatE.met ((_, (openS most last ss y.2.1 y.2.2.2).2.1, (openS most last ss y.2.1 y.2.2.2).2.2, v2, B2, rv2, RB2)) ?_ (by repeat constructor)
            exact ⟨by simp, (open_wf hw hix hlen).1, (open_wf hw hix hlen).2, hsl2, hsr2, hS.sel (by repeat constructor)⟩
        · (try simp only [cx, ne_eq] at h3)
          try (exfalso; (first | omega | exact h3 trivial | contradiction | (first | exact h3 rfl | cases h3)); done)
          all_goals
          refine SatC.seq ?_
          refine SatC.region ?_
          refine SatL.pu (RunV.eql rfl rfl) rfl ?_
          refine SatL.pu (RunV.assign rfl) rfl ?_
          refine SatL.nil (SatE.thenC ?_)
          refine SatC.cond rfl (fun h4 => ?_) (fun h4 => ?_)
          · (try simp only [cx, ne_eq] at h4)
            try (exfalso; (first | omega | exact h4 trivial | contradiction | (first | exact h4 rfl | cases h4)); done)
            all_goals
            refine SatC.drawnT 14 hS (hS.sel (R := [(b8, C 27 (sr y))]) (by repeat constructor)) (by kernel_rfl) ?_
            clear hS
            intro w6 hh hS hD
            refine SatD.tk 0 rfl hD (fun _ hw => RunV.move rfl) ?_
            first | refine SatD.tk 1 rfl hD (fun _ hw => RunV.fieldAddrL rfl rfl rfl) ?_ | refine SatD.tk 1 rfl hD (fun _ hw => RunV.fieldAddr rfl rfl rfl) ?_
            refine SatD.tk 2 rfl hD (fun _ hw => RunV.load1 hw rfl rfl (by repeat constructor) rfl) ?_
            first | refine SatD.tk 3 rfl hD (fun _ hw => RunV.fieldAddrL rfl rfl rfl) ?_ | refine SatD.tk 3 rfl hD (fun _ hw => RunV.fieldAddr rfl rfl rfl) ?_
            refine SatD.tk 4 rfl hD (fun _ hw => RunV.load1 hw rfl rfl (by repeat constructor) rfl) ?_
            refine SatD.tk 6 rfl hD (fun _ hw => RunV.move rfl) ?_
            first | refine SatD.tk 7 rfl hD (fun _ hw => RunV.fieldAddrL rfl rfl rfl) ?_ | refine SatD.tk 7 rfl hD (fun _ hw => RunV.fieldAddr rfl rfl rfl) ?_
            refine SatD.tk 8 rfl hD (fun _ hw => RunV.load1 hw rfl rfl (by repeat constructor) rfl) ?_
            first | refine SatD.tk 9 rfl hD (fun _ hw => RunV.fieldAddrL rfl rfl rfl) ?_ | refine SatD.tk 9 rfl hD (fun _ hw => RunV.fieldAddr rfl rfl rfl) ?_
            refine SatD.tk 10 rfl hD (fun _ hw => RunV.load1 hw rfl rfl (by repeat constructor) rfl) ?_
            refine SatD.ef 5 rfl (OpW.enter rfl rfl rfl (rfl) (close_any y.2.2.1 y.2.2.2 hid hw hm hsl (by omega) (hS.ownT (A := SO b0 b most last tv B) (by repeat constructor))) ?_)
            rintro r7 w7 ⟨rfl, v2, B2, hsl2, h⟩
            replace hS := hS.callT (A := SO b0 b most last tv B) (by repeat constructor) h
            refine keepS (hS.sel (by repeat constructor)) (fun hD => ?_)
            refine SatD.ef 11 rfl (OpW.enter rfl rfl rfl (rfl) (close_ref y.2.2.1 y.2.2.2 (hS.ownT (A := (rb, C 53 (rt most rv' last)) :: RB) (by repeat constructor)) hsr hl1) ?_)
            rintro r8 w8 ⟨rfl, rv2, RB2, hsr2, h⟩
            replace hS := hS.callT (A := (rb, C 53 (rt most rv' last)) :: RB) (by repeat constructor) h
            refine keepS (hS.sel (by repeat constructor)) (fun hD => ?_)
            refine SatD.tk 12 rfl hD (fun _ hw => RunV.eql rfl rfl) ?_
            refine SatD.tk 13 rfl hD (fun _ hw => RunV.assign rfl) ?_
            refine SatD.done 0 (by kernel_rfl) (SatE.blk_normal ?_)
            clear hD
            refine SatE.met ((_, (closeS last ss y.2.2.1 y.2.2.2).2.1, (closeS last ss y.2.2.1 y.2.2.2).2.2, v2, B2, rv2, RB2)) ?_ (by repeat constructor)
            exact ⟨by simp, (close_wf hw).1, by have := (close_wf (last := last) (id := y.2.2.1) (ix := y.2.2.2) hw).2; omega, hsl2, hsr2, hS.sel (by repeat constructor)⟩
          · (try simp only [cx, ne_eq] at h4)
            try (exfalso; (first | omega | exact h4 trivial | contradiction | (first | exact h4 rfl | cases h4)); done)
            all_goals
            refine SatC.seq ?_
            refine SatC.region ?_
            refine SatL.pu (RunV.eql rfl rfl) rfl ?_
            refine SatL.pu (RunV.assign rfl) rfl ?_
            refine SatL.nil (SatE.thenC ?_)
            refine SatC.cond rfl (fun h5 => ?_) (fun h5 => ?_)
            · (try simp only [cx, ne_eq] at h5)
              try (exfalso; (first | omega | exact h5 trivial | contradiction | (first | exact h5 rfl | cases h5)); done)
              all_goals
              refine SatC.drawnT 14 hS (hS.sel (R := [(b8, C 27 (sr y))]) (by repeat constructor)) (by kernel_rfl) ?_
              clear hS
              intro w6 hh hS hD
              refine SatD.tk 0 rfl hD (fun _ hw => RunV.move rfl) ?_
              first | refine SatD.tk 1 rfl hD (fun _ hw => RunV.fieldAddrL rfl rfl rfl) ?_ | refine SatD.tk 1 rfl hD (fun _ hw => RunV.fieldAddr rfl rfl rfl) ?_
              refine SatD.tk 2 rfl hD (fun _ hw => RunV.load1 hw rfl rfl (by repeat constructor) rfl) ?_
              first | refine SatD.tk 3 rfl hD (fun _ hw => RunV.fieldAddrL rfl rfl rfl) ?_ | refine SatD.tk 3 rfl hD (fun _ hw => RunV.fieldAddr rfl rfl rfl) ?_
              refine SatD.tk 4 rfl hD (fun _ hw => RunV.load1 hw rfl rfl (by repeat constructor) rfl) ?_
              refine SatD.tk 6 rfl hD (fun _ hw => RunV.move rfl) ?_
              first | refine SatD.tk 7 rfl hD (fun _ hw => RunV.fieldAddrL rfl rfl rfl) ?_ | refine SatD.tk 7 rfl hD (fun _ hw => RunV.fieldAddr rfl rfl rfl) ?_
              refine SatD.tk 8 rfl hD (fun _ hw => RunV.load1 hw rfl rfl (by repeat constructor) rfl) ?_
              first | refine SatD.tk 9 rfl hD (fun _ hw => RunV.fieldAddrL rfl rfl rfl) ?_ | refine SatD.tk 9 rfl hD (fun _ hw => RunV.fieldAddr rfl rfl rfl) ?_
              refine SatD.tk 10 rfl hD (fun _ hw => RunV.load1 hw rfl rfl (by repeat constructor) rfl) ?_
              refine SatD.ef 5 rfl (OpW.enter rfl rfl rfl (rfl) (closeN_any y.2.1 y.2.2.2 hw hm hsl (by omega) (hS.ownT (A := SO b0 b most last tv B) (by repeat constructor))) ?_)
              rintro r7 w7 ⟨UB, hu, v2, B2, hsl2, h⟩
              replace hS := hS.callT (A := SO b0 b most last tv B) (by repeat constructor) h
              refine keepS (hS.sel (by repeat constructor)) (fun hD => ?_)
              refine SatD.ef 11 rfl (OpW.enter rfl rfl rfl (rfl) (closeN_ref y.2.1 y.2.2.2 hw (hS.ownT (A := (rb, C 53 (rt most rv' last)) :: RB) (by repeat constructor)) hsr hl1) ?_)
              rintro r8 w8 ⟨VB, hvb, rv2, RB2, hsr2, h⟩
              replace hS := hS.callT (A := (rb, C 53 (rt most rv' last)) :: RB) (by repeat constructor) h
              simp only [SO, List.append_assoc, List.cons_append, List.nil_append] at hS
              refine keepS (hS.sel (by repeat constructor)) (fun hD => ?_)
              refine SatD.ef 12 rfl (OpW.enter rfl rfl rfl (rfl) (nums_any _ _ (idsS y.2.1 ss) (idsS y.2.1 ss) _ (hu.row hS (by repeat constructor) hids) (hvb.row hS (by repeat constructor) hids)) ?_)
              rintro r9 w9 ⟨rfl, h⟩
              replace hS := St.callN hS h
              refine keepS (hS.sel (by repeat constructor)) (fun hD => ?_)
              refine SatD.tk 13 rfl hD (fun _ hw => RunV.assign rfl) ?_
              refine SatD.done 0 (by kernel_rfl) (SatE.blk_normal ?_)
              clear hD
              refine SatE.met ((_, restS y.2.1 ss, lastS last y.2.2.2 (idsS y.2.1 ss), v2, B2, rv2, RB2)) ?_ (by repeat constructor)
              exact ⟨by simp, filter_wf _ hw, by have := rest_len y.2.1 ss; omega, hsl2, hsr2, hS.sel (by repeat constructor)⟩
            · (try simp only [cx, ne_eq] at h5)
              try (exfalso; (first | omega | exact h5 trivial | contradiction | (first | exact h5 rfl | cases h5)); done)
              all_goals
              refine SatC.seq ?_
              refine SatC.region ?_
              refine SatL.pu (RunV.eql rfl rfl) rfl ?_
              refine SatL.pu (RunV.assign rfl) rfl ?_
              refine SatL.nil (SatE.thenC ?_)
              refine SatC.cond rfl (fun h6 => ?_) (fun h6 => ?_)
              · (try simp only [cx, ne_eq] at h6)
                try (exfalso; (first | omega | exact h6 trivial | contradiction | (first | exact h6 rfl | cases h6)); done)
                all_goals
                refine SatC.seq ?_
                refine SatC.region ?_
                refine SatL.pu (RunV.move rfl) rfl ?_
                refine SatL.op rfl (OpW.enter rfl rfl rfl (rfl) (copyS_any hm hsl (by omega) (hS.ownT (A := SO b0 b most last tv B) (by repeat constructor))) ?_)
                rintro r6 w6 ⟨c0, cb, cv, CB, rfl, hslc, h⟩
                replace hS := hS.call0 h
                refine SatL.pu (RunV.assign rfl) rfl ?_
                refine SatL.nil (SatE.thenC ?_)
                refine SatC.seq ?_
                refine SatC.weak (e' := [(1, _), (4, _), (5, _), (6, _), (7, _), (8, _), (9, _), (14, _)]) (by repeat constructor) ?_
                refine SatC.drawnT 17 hS (hS) (by kernel_rfl) ?_
                clear hS
                intro w7 hh hS hD
                refine SatD.tk 0 rfl hD (fun _ hw => RunV.move rfl) ?_
                refine SatD.tk 2 rfl hD (fun _ hw => RunV.move rfl) ?_
                first | refine SatD.tk 3 rfl hD (fun _ hw => RunV.nil_ptr rfl) ?_ | refine SatD.tk 3 rfl hD (fun _ hw => RunV.nil_func rfl) ?_ | refine SatD.tk 3 rfl hD (fun _ hw => RunV.nil_yield rfl) ?_
                first | refine SatD.tk 4 rfl hD (fun _ hw => RunV.fieldAddrL rfl rfl rfl) ?_ | refine SatD.tk 4 rfl hD (fun _ hw => RunV.fieldAddr rfl rfl rfl) ?_
                refine SatD.tk 5 rfl hD (fun _ hw => RunV.load1 hw rfl rfl (by repeat constructor) rfl) ?_
                refine SatD.ef 1 rfl (OpW.enter rfl rfl rfl (rfl) (listS_any hw hm hslc (by omega) (hS.ownT (A := SO c0 cb most last cv CB) (by repeat constructor))) ?_)
                rintro r8 w8 ⟨LB, hsL, h⟩
                replace hS := hS.call0 h
                refine keepS (hS.sel (by repeat constructor)) (fun hD => ?_)
                refine SatD.ef 6 rfl (OpW.enter rfl rfl rfl (rfl) (same_any _ _ ss ss _ (hsL.row hS (by repeat constructor) hln) (hsr.row hS (by repeat constructor) hln)) ?_)
                rintro r9 w9 ⟨rfl, h⟩
                replace hS := St.callN hS h
                refine keepS (hS.sel (by repeat constructor)) (fun hD => ?_)
                refine SatD.tk 7 rfl hD (fun _ hw => RunV.move rfl) ?_
                refine SatD.ways 108 rfl (fun h7 => ?_) (fun h7 => ?_)
                · (try simp only [cx, ne_eq] at h7)
                  try (exfalso; (first | omega | exact h7 trivial | contradiction | (first | exact h7 rfl | cases h7)); done)
                  all_goals
                  refine SatD.tk 8 rfl hD (fun _ hw => RunV.move rfl) ?_
                  refine SatD.tk 10 rfl hD (fun _ hw => RunV.move rfl) ?_
                  first | refine SatD.tk 11 rfl hD (fun _ hw => RunV.nil_ptr rfl) ?_ | refine SatD.tk 11 rfl hD (fun _ hw => RunV.nil_func rfl) ?_ | refine SatD.tk 11 rfl hD (fun _ hw => RunV.nil_yield rfl) ?_
                  first | refine SatD.tk 12 rfl hD (fun _ hw => RunV.fieldAddrL rfl rfl rfl) ?_ | refine SatD.tk 12 rfl hD (fun _ hw => RunV.fieldAddr rfl rfl rfl) ?_
                  refine SatD.tk 13 rfl hD (fun _ hw => RunV.load1 hw rfl rfl (by repeat constructor) rfl) ?_
                  refine SatD.ef 9 rfl (OpW.enter rfl rfl rfl (rfl) (last_any' hm (hS.ownT (A := SO c0 cb most last cv CB) (by repeat constructor))) ?_)
                  rintro r10 w10 ⟨rfl, h⟩
                  replace hS := St.callN hS h
                  refine keepS (hS.sel (by repeat constructor)) (fun hD => ?_)
                  refine SatD.tk 14 rfl hD (fun _ hw => RunV.eql rfl rfl) ?_
                  refine SatD.tk 15 rfl hD (fun _ hw => RunV.pick_t rfl rfl) ?_
                  refine SatD.tk 16 rfl hD (fun _ hw => RunV.assign rfl) ?_
                  refine SatD.done 0 (by kernel_rfl) (SatE.thenC ?_)
                  clear hD
                  refine SatC.seq ?_
                  refine SatC.weak (e' := [(1, _), (4, _), (5, _), (6, _), (7, _), (8, _), (9, _), (14, _)]) (by repeat constructor) ?_
                  refine SatC.region ?_
                  refine SatL.pu (RunV.move rfl) rfl ?_
                  first | refine SatL.pu (RunV.fieldAddrL rfl rfl rfl) rfl ?_ | refine SatL.pu (RunV.fieldAddr rfl rfl rfl) rfl ?_
                  refine SatL.pu (RunV.load1 hS rfl rfl (by repeat constructor) rfl) rfl ?_
                  first | refine SatL.pu (RunV.fieldAddrL rfl rfl rfl) rfl ?_ | refine SatL.pu (RunV.fieldAddr rfl rfl rfl) rfl ?_
                  refine SatL.pu (RunV.load1 hS rfl rfl (by repeat constructor) rfl) rfl ?_
                  refine SatL.op rfl (OpW.enter rfl rfl rfl (rfl) (open_any y.2.1 y.2.2.2 hix hw hm hslc (by omega) (hS.ownT (A := SO c0 cb most last cv CB) (by repeat constructor))) ?_)
                  rintro r11 w11 ⟨rfl, v4, B4, hsl4, h⟩
                  replace hS := hS.callT (A := SO c0 cb most last cv CB) (by repeat constructor) h
                  refine SatL.nil (SatE.thenC ?_)
                  refine SatC.region ?_
                  refine SatL.pu (RunV.move rfl) rfl ?_
                  first | refine SatL.pu (RunV.fieldAddrL rfl rfl rfl) rfl ?_ | refine SatL.pu (RunV.fieldAddr rfl rfl rfl) rfl ?_
                  refine SatL.pu (RunV.load1 hS rfl rfl (by repeat constructor) rfl) rfl ?_
                  refine SatL.op rfl (OpW.enter rfl rfl rfl (rfl) (closeN_any y.2.1 18446744073709551615 (open_wf hw hix hlen).1 hm hsl4 (by have := (open_wf (last := last) (nd := y.2.1) hw hix hlen).2; omega) (hS.ownT (A := SO c0 cb most (openS most last ss y.2.1 y.2.2.2).2.2 v4 B4) (by repeat constructor))) ?_)
                  rintro r12 w12 ⟨UB, hu, v2, B2, hsl2, h⟩
                  replace hS := hS.callT (A := SO c0 cb most (openS most last ss y.2.1 y.2.2.2).2.2 v4 B4) (by repeat constructor) h
                  refine SatL.nil (SatE.blk_normal ?_)
                  refine SatE.met ((_, ss, last, tv, B, rv', RB)) ?_ (by repeat constructor)
                  exact ⟨by simp, hw, hlen, hsl, hsr, hS.sel (by repeat constructor)⟩
                · (try simp only [cx, ne_eq] at h7)
                  try (exfalso; (first | omega | exact h7 trivial | contradiction | (first | exact h7 rfl | cases h7)); done)
                  all_goals
                  refine SatD.sk 8 rfl [] hD ?_
                  refine SatD.sk 9 rfl [] hD ?_
                  refine SatD.sk 10 rfl [] hD ?_
                  refine SatD.sk 11 rfl [] hD ?_
                  refine SatD.sk 12 rfl [] hD ?_
                  refine SatD.sk 13 rfl [] hD ?_
                  refine SatD.sk 14 rfl [] hD ?_
                  refine SatD.tk 15 rfl hD (fun _ hw => RunV.pick_f rfl rfl) ?_
                  refine SatD.tk 16 rfl hD (fun _ hw => RunV.assign rfl) ?_
                  refine SatD.done 0 (by kernel_rfl) (SatE.thenC ?_)
                  clear hD
                  refine SatC.seq ?_
                  refine SatC.weak (e' := [(1, _), (4, _), (5, _), (6, _), (7, _), (8, _), (9, _), (14, _)]) (by repeat constructor) ?_
                  refine SatC.region ?_
                  refine SatL.pu (RunV.move rfl) rfl ?_
                  first | refine SatL.pu (RunV.fieldAddrL rfl rfl rfl) rfl ?_ | refine SatL.pu (RunV.fieldAddr rfl rfl rfl) rfl ?_
                  refine SatL.pu (RunV.load1 hS rfl rfl (by repeat constructor) rfl) rfl ?_
                  first | refine SatL.pu (RunV.fieldAddrL rfl rfl rfl) rfl ?_ | refine SatL.pu (RunV.fieldAddr rfl rfl rfl) rfl ?_
                  refine SatL.pu (RunV.load1 hS rfl rfl (by repeat constructor) rfl) rfl ?_
                  refine SatL.op rfl (OpW.enter rfl rfl rfl (rfl) (open_any y.2.1 y.2.2.2 hix hw hm hslc (by omega) (hS.ownT (A := SO c0 cb most last cv CB) (by repeat constructor))) ?_)
                  rintro r10 w10 ⟨rfl, v4, B4, hsl4, h⟩
                  replace hS := hS.callT (A := SO c0 cb most last cv CB) (by repeat constructor) h
                  refine SatL.nil (SatE.thenC ?_)
                  refine SatC.region ?_
                  refine SatL.pu (RunV.move rfl) rfl ?_
                  first | refine SatL.pu (RunV.fieldAddrL rfl rfl rfl) rfl ?_ | refine SatL.pu (RunV.fieldAddr rfl rfl rfl) rfl ?_
                  refine SatL.pu (RunV.load1 hS rfl rfl (by repeat constructor) rfl) rfl ?_
                  refine SatL.op rfl (OpW.enter rfl rfl rfl (rfl) (closeN_any y.2.1 18446744073709551615 (open_wf hw hix hlen).1 hm hsl4 (by have := (open_wf (last := last) (nd := y.2.1) hw hix hlen).2; omega) (hS.ownT (A := SO c0 cb most (openS most last ss y.2.1 y.2.2.2).2.2 v4 B4) (by repeat constructor))) ?_)
                  rintro r11 w11 ⟨UB, hu, v2, B2, hsl2, h⟩
                  replace hS := hS.callT (A := SO c0 cb most (openS most last ss y.2.1 y.2.2.2).2.2 v4 B4) (by repeat constructor) h
                  refine SatL.nil (SatE.blk_normal ?_)
                  refine SatE.met ((_, ss, last, tv, B, rv', RB)) ?_ (by repeat constructor)
                  exact ⟨by simp, hw, hlen, hsl, hsr, hS.sel (by repeat constructor)⟩
              · (try simp only [cx, ne_eq] at h6)
                try (exfalso; (first | omega | exact h6 trivial | contradiction | (first | exact h6 rfl | cases h6)); done)
                all_goals
                refine SatC.region ?_
                refine SatL.pu (RunV.assign rfl) rfl ?_
                refine SatL.nil (SatE.blk_normal ?_)
                refine SatE.met ((_, ss, last, tv, B, rv', RB)) ?_ (by repeat constructor)
                exact ⟨by simp, hw, hlen, hsl, hsr, hS.sel (by repeat constructor)⟩
      · clear hS
        rintro ⟨q, ss, last, tv, B, rv', RB⟩ w66 ⟨hq, hw, hlen, hsl, hsr, hS⟩
        subst hq
        have hl1 : ss.length ≤ 100 := by omega
        refine SatC.weak (e' := [(1, _), (4, _), (5, _), (6, _), (7, _), (8, _), (9, _)]) (by repeat constructor) ?_
        refine SatC.seq ?_
        refine SatC.region ?_
        refine SatL.pu (RunV.move rfl) rfl ?_
        first | refine SatL.pu (RunV.fieldAddrL rfl rfl rfl) rfl ?_ | refine SatL.pu (RunV.fieldAddr rfl rfl rfl) rfl ?_
        refine SatL.pu (RunV.load1 hS rfl rfl (by repeat constructor) rfl) rfl ?_
        refine SatL.op rfl (OpW.enter rfl rfl rfl (rfl) (getS_any y.2.2.1 hid hw hm hsl (by omega) (hS.ownT (A := SO b0 b most last tv B) (by repeat constructor))) ?_)
        rintro r67 w67 ⟨rfl, h⟩
        replace hS := St.callN hS h
        refine SatL.pu (RunV.move rfl) rfl ?_
        refine SatL.pu (RunV.extract rfl rfl) rfl ?_
        refine SatL.pu (RunV.extract rfl rfl) rfl ?_
        refine SatL.op rfl (OpW.alloc hS rfl rfl (by repeat constructor) ?_)
        clear hS
        intro b15 w68 _ hS
        refine SatL.op rfl (OpW.store hS rfl rfl (by repeat constructor) (by repeat constructor) (by repeat constructor) rfl rfl ?_)
        clear hS
        intro w69 hS
        refine SatL.pu (RunV.assign rfl) rfl ?_
        refine SatL.nil (SatE.thenC ?_)
        refine SatC.seq ?_
        refine SatC.region ?_
        refine SatL.pu (RunV.move rfl) rfl ?_
        first | refine SatL.pu (RunV.fieldAddrL rfl rfl rfl) rfl ?_ | refine SatL.pu (RunV.fieldAddr rfl rfl rfl) rfl ?_
        refine SatL.pu (RunV.load1 hS rfl rfl (by repeat constructor) rfl) rfl ?_
        refine SatL.op rfl (OpW.enter rfl rfl rfl (rfl) (get_ref y.2.2.1 (hS.ownT (A := (rb, C 53 (rt most rv' last)) :: RB) (by repeat constructor)) hsr (by omega)) ?_)
        rintro r70 w70 ⟨rfl, h⟩
        replace hS := St.callN hS h
        refine SatL.pu (RunV.move rfl) rfl ?_
        refine SatL.pu (RunV.extract rfl rfl) rfl ?_
        refine SatL.pu (RunV.extract rfl rfl) rfl ?_
        refine SatL.op rfl (OpW.alloc hS rfl rfl (by repeat constructor) ?_)
        clear hS
        intro b17 w71 _ hS
        refine SatL.op rfl (OpW.store hS rfl rfl (by repeat constructor) (by repeat constructor) (by repeat constructor) rfl rfl ?_)
        clear hS
        intro w72 hS
        refine SatL.pu (RunV.assign rfl) rfl ?_
        refine SatL.nil (SatE.thenC ?_)
        refine SatC.seq ?_
        refine SatC.weak (e' := [(1, _), (4, _), (5, _), (6, _), (7, _), (9, _), (15, _), (16, _), (17, _), (18, _)]) (by repeat constructor) ?_
        refine SatC.drawnT 21 hS (hS) (by kernel_rfl) ?_
        clear hS
        intro w73 hh hS hD
        refine SatD.tk 0 rfl hD (fun _ hw => RunV.move rfl) ?_
        refine SatD.tk 1 rfl hD (fun _ hw => RunV.not rfl) ?_
        refine SatD.tk 2 rfl hD (fun _ hw => RunV.move rfl) ?_
        refine SatD.ways 143 rfl (fun h3 => ?_) (fun h3 => ?_)
        · (try simp only [cx, ne_eq] at h3)
          try (exfalso; (first | omega | exact h3 trivial | contradiction | (first | exact h3 rfl | cases h3)); done)
          all_goals
          refine SatD.sk 3 rfl [] hD ?_
          refine SatD.sk 4 rfl [] hD ?_
          refine SatD.sk 5 rfl [] hD ?_
          refine SatD.tk 6 rfl hD (fun _ hw => RunV.pick_t rfl rfl) ?_
          refine SatD.tk 7 rfl hD (fun _ hw => RunV.move rfl) ?_
          refine SatD.sk 8 rfl [] hD ?_
          refine SatD.sk 9 rfl [] hD ?_
          refine SatD.sk 10 rfl [] hD ?_
          refine SatD.tk 11 rfl hD (fun _ hw => RunV.pick_t rfl rfl) ?_
          refine SatD.tk 12 rfl hD (fun _ hw => RunV.move rfl) ?_
          refine SatD.sk 13 rfl [] hD ?_
          refine SatD.sk 14 rfl [] hD ?_
          refine SatD.sk 15 rfl [] hD ?_
          refine SatD.sk 16 rfl [] hD ?_
          refine SatD.sk 17 rfl [] hD ?_
          refine SatD.sk 18 rfl [] hD ?_
          refine SatD.sk 19 rfl [] hD ?_
          refine SatD.tk 20 rfl hD (fun _ hw => RunV.pick_t rfl rfl) ?_
          refine SatD.done 0 (by kernel_rfl) (SatE.thenC ?_)
          clear hD
          refine SatC.weak (e' := [(1, _), (4, _), (5, _), (6, _), (7, _), (161, _)]) (by repeat constructor) ?_
          refine SatC.cond_t rfl ?_
          refine SatC.seq ?_
          refine SatC.region ?_
          refine SatL.pu (RunV.assign rfl) rfl ?_
          refine SatL.nil (SatE.thenC ?_)
          refine SatC.ret (SatE.blk_ret (SatE.then_ret (SatE.then_ret (SatE.blk_ret (SatE.then_ret ?_)))))
          refine SatE.ret1 rfl rfl ?_
          exact ⟨rfl, hS.sel (by repeat constructor)⟩
        · (try simp only [cx, ne_eq] at h3)
          try (exfalso; (first | omega | exact h3 trivial | contradiction | (first | exact h3 rfl | cases h3)); done)
          all_goals
          refine SatD.tk 3 rfl hD (fun _ hw => RunV.loadN hw rfl rfl (by repeat constructor) (by repeat constructor)) ?_
          refine SatD.tk 4 rfl hD (fun _ hw => RunV.loadN hw rfl rfl (by repeat constructor) (by repeat constructor)) ?_
          refine SatD.tk 5 rfl hD (fun _ hw => RunV.bin rfl rfl (guard35 _ _ _ _ _ _ _ _ _ _ _ _) (run_neq35 _ _ _ _ _ _ _ _ _)) ?_
          refine SatD.tk 6 rfl hD (fun _ hw => RunV.pick_f rfl rfl) ?_
          refine SatD.tk 7 rfl hD (fun _ hw => RunV.move rfl) ?_
          refine SatD.ways 148 rfl (fun h4 => ?_) (fun h4 => ?_)
          · (try simp only [cx, ne_eq] at h4)
            try (exfalso; (first | omega | exact h4 trivial | contradiction | (first | exact h4 rfl | cases h4)); done)
            all_goals
            refine SatD.sk 8 rfl [] hD ?_
            refine SatD.sk 9 rfl [] hD ?_
            refine SatD.sk 10 rfl [] hD ?_
            refine SatD.tk 11 rfl hD (fun _ hw => RunV.pick_t rfl rfl) ?_
            refine SatD.tk 12 rfl hD (fun _ hw => RunV.move rfl) ?_
            refine SatD.sk 13 rfl [] hD ?_
            refine SatD.sk 14 rfl [] hD ?_
            refine SatD.sk 15 rfl [] hD ?_
            refine SatD.sk 16 rfl [] hD ?_
            refine SatD.sk 17 rfl [] hD ?_
            refine SatD.sk 18 rfl [] hD ?_
            refine SatD.sk 19 rfl [] hD ?_
            refine SatD.tk 20 rfl hD (fun _ hw => RunV.pick_t rfl rfl) ?_
            refine SatD.done 0 (by kernel_rfl) (SatE.thenC ?_)
            clear hD
            refine SatC.weak (e' := [(1, _), (4, _), (5, _), (6, _), (7, _), (161, _)]) (by repeat constructor) ?_
            refine SatC.cond_t rfl ?_
            refine SatC.seq ?_
            refine SatC.region ?_
            refine SatL.pu (RunV.assign rfl) rfl ?_
            refine SatL.nil (SatE.thenC ?_)
            refine SatC.ret (SatE.blk_ret (SatE.then_ret (SatE.then_ret (SatE.blk_ret (SatE.then_ret ?_)))))
            refine SatE.ret1 rfl rfl ?_
            exact ⟨rfl, hS.sel (by repeat constructor)⟩
          · (try simp only [cx, ne_eq] at h4)
            try (exfalso; (first | omega | exact h4 trivial | contradiction | (first | exact h4 rfl | cases h4)); done)
            all_goals
            refine SatD.tk 8 rfl hD (fun _ hw => RunV.move rfl) ?_
            refine SatD.tk 9 rfl hD (fun _ hw => RunV.move rfl) ?_
            refine SatD.tk 10 rfl hD (fun _ hw => RunV.bneq rfl rfl rfl) ?_
            refine SatD.tk 11 rfl hD (fun _ hw => RunV.pick_f rfl rfl) ?_
            refine SatD.tk 12 rfl hD (fun _ hw => RunV.move rfl) ?_
            refine SatD.ways 153 rfl (fun h5 => ?_) (fun h5 => ?_)
            · (try simp only [cx, ne_eq] at h5)
              try (exfalso; (first | omega | exact h5 trivial | contradiction | (first | exact h5 rfl | cases h5)); done)
              all_goals
              refine SatD.sk 13 rfl [] hD ?_
              refine SatD.sk 14 rfl [] hD ?_
              refine SatD.sk 15 rfl [] hD ?_
              refine SatD.sk 16 rfl [] hD ?_
              refine SatD.sk 17 rfl [] hD ?_
              refine SatD.sk 18 rfl [] hD ?_
              refine SatD.sk 19 rfl [] hD ?_
              refine SatD.tk 20 rfl hD (fun _ hw => RunV.pick_t rfl rfl) ?_
              refine SatD.done 0 (by kernel_rfl) (SatE.thenC ?_)
              clear hD
              refine SatC.weak (e' := [(1, _), (4, _), (5, _), (6, _), (7, _), (161, _)]) (by repeat constructor) ?_
              refine SatC.cond_t rfl ?_
              refine SatC.seq ?_
              refine SatC.region ?_
              refine SatL.pu (RunV.assign rfl) rfl ?_
              refine SatL.nil (SatE.thenC ?_)
              refine SatC.ret (SatE.blk_ret (SatE.then_ret (SatE.then_ret (SatE.blk_ret (SatE.then_ret ?_)))))
              refine SatE.ret1 rfl rfl ?_
              exact ⟨rfl, hS.sel (by repeat constructor)⟩
            · (try simp only [cx, ne_eq] at h5)
              try (exfalso; (first | omega | exact h5 trivial | contradiction | (first | exact h5 rfl | cases h5)); done)
              all_goals
              refine SatD.tk 13 rfl hD (fun _ hw => RunV.move rfl) ?_
              refine SatD.tk 15 rfl hD (fun _ hw => RunV.move rfl) ?_
              first | refine SatD.tk 16 rfl hD (fun _ hw => RunV.nil_ptr rfl) ?_ | refine SatD.tk 16 rfl hD (fun _ hw => RunV.nil_func rfl) ?_ | refine SatD.tk 16 rfl hD (fun _ hw => RunV.nil_yield rfl) ?_
              first | refine SatD.tk 17 rfl hD (fun _ hw => RunV.fieldAddrL rfl rfl rfl) ?_ | refine SatD.tk 17 rfl hD (fun _ hw => RunV.fieldAddr rfl rfl rfl) ?_
              refine SatD.tk 18 rfl hD (fun _ hw => RunV.load1 hw rfl rfl (by repeat constructor) rfl) ?_
              refine SatD.ef 14 rfl (OpW.enter rfl rfl rfl (rfl) (last_any' hm (hS.ownT (A := SO b0 b most last tv B) (by repeat constructor))) ?_)
              rintro r74 w74 ⟨rfl, h⟩
              replace hS := St.callN hS h
              refine keepS (hS.sel (by repeat constructor)) (fun hD => ?_)
              refine SatD.tk 19 rfl hD (fun _ hw => RunV.neq rfl rfl) ?_
              refine SatD.tk 20 rfl hD (fun _ hw => RunV.pick_f rfl rfl) ?_
              refine SatD.done 0 (by kernel_rfl) (SatE.thenC ?_)
              clear hD
              refine SatC.weak (e' := [(1, _), (4, _), (5, _), (6, _), (7, _), (161, _)]) (by repeat constructor) ?_
              refine SatC.cond rfl (fun h6 => ?_) (fun h6 => ?_)
              · (try simp only [cx, ne_eq] at h6)
                try (exfalso; (first | omega | exact h6 trivial | contradiction | (first | exact h6 rfl | cases h6)); done)
                all_goals
                refine SatC.seq ?_
                refine SatC.region ?_
                refine SatL.pu (RunV.assign rfl) rfl ?_
                refine SatL.nil (SatE.thenC ?_)
                refine SatC.ret (SatE.blk_ret (SatE.then_ret (SatE.then_ret (SatE.blk_ret (SatE.then_ret ?_)))))
                refine SatE.ret1 rfl rfl ?_
                exact ⟨rfl, hS.sel (by repeat constructor)⟩
              · (try simp only [cx, ne_eq] at h6)
                try (exfalso; (first | omega | exact h6 trivial | contradiction | (first | exact h6 rfl | cases h6)); done)
                all_goals
                refine SatC.skip (SatE.blk_normal (SatE.thenC ?_))
                refine SatC.region ?_
                refine SatL.pu (RunV.move rfl) rfl ?_
                refine SatL.pu (RunV.add rfl rfl (by first | exact wrapI64 (by omega) | rfl)) rfl ?_
                refine SatL.pu (RunV.assign rfl) rfl ?_
                refine SatL.nil ?_
                refine SatE.again ((i + 1, ss, last, tv, B, rv', RB)) ?_ (by first | omega | (dsimp only; omega)) (by repeat constructor)
                exact ⟨by omega, by omega, hw, hlen, hsl, hsr, hS.sel (by repeat constructor)⟩
    · (try simp only [cx, ne_eq] at h2)
      try (exfalso; (first | omega | exact h2 trivial | contradiction | (first | exact h2 rfl | cases h2)); done)
      all_goals
      refine SatC.exit (SatE.then_exit (SatE.then_exit (SatE.blk_exit (SatE.thenC ?_))))
      refine SatC.seq ?_
      have hln : (ss.map sc).length ≤ 9223372036854775807 := by rw [List.length_map]; omega
      refine SatC.drawnT 11 hS (hS) (by kernel_rfl) ?_
      clear hS
      intro w4 hh hS hD
      refine SatD.tk 0 rfl hD (fun _ hw => RunV.move rfl) ?_
      refine SatD.tk 2 rfl hD (fun _ hw => RunV.move rfl) ?_
      first | refine SatD.tk 3 rfl hD (fun _ hw => RunV.nil_ptr rfl) ?_ | refine SatD.tk 3 rfl hD (fun _ hw => RunV.nil_func rfl) ?_ | refine SatD.tk 3 rfl hD (fun _ hw => RunV.nil_yield rfl) ?_
      first | refine SatD.tk 4 rfl hD (fun _ hw => RunV.fieldAddrL rfl rfl rfl) ?_ | refine SatD.tk 4 rfl hD (fun _ hw => RunV.fieldAddr rfl rfl rfl) ?_
      refine SatD.tk 5 rfl hD (fun _ hw => RunV.load1 hw rfl rfl (by repeat constructor) rfl) ?_
      refine SatD.ef 1 rfl (OpW.enter rfl rfl rfl (rfl) (listS_any hw hm hsl (by omega) (hS.ownT (A := SO b0 b most last tv B) (by repeat constructor))) ?_)
      rintro r5 w5 ⟨LB, hsL, h⟩
      replace hS := hS.call0 h
      refine keepS (hS.sel (by repeat constructor)) (fun hD => ?_)
      refine SatD.ef 6 rfl (OpW.enter rfl rfl rfl (rfl) (same_any _ _ ss ss _ (hsL.row hS (by repeat constructor) hln) (hsr.row hS (by repeat constructor) hln)) ?_)
      rintro r6 w6 ⟨rfl, h⟩
      replace hS := St.callN hS h
      refine keepS (hS.sel (by repeat constructor)) (fun hD => ?_)
      refine SatD.tk 7 rfl hD (fun _ hw => RunV.move rfl) ?_
      refine SatD.ways 169 rfl (fun h3 => ?_) (fun h3 => ?_)
      · (try simp only [cx, ne_eq] at h3)
        try (exfalso; (first | omega | exact h3 trivial | contradiction | (first | exact h3 rfl | cases h3)); done)
        all_goals
        refine SatD.ef 8 rfl (OpW.enter rfl rfl rfl (rfl) (works_any _) ?_)
        rintro r7 w7 ⟨rfl, h⟩
        replace hS := St.callN hS h
        refine keepS (hS.sel (by repeat constructor)) (fun hD => ?_)
        refine SatD.tk 9 rfl hD (fun _ hw => RunV.pick_t rfl rfl) ?_
        refine SatD.tk 10 rfl hD (fun _ hw => RunV.assign rfl) ?_
        refine SatD.done 0 (by kernel_rfl) (SatE.thenC ?_)
        clear hD
        refine SatC.ret ?_
        refine SatE.ret1 rfl rfl ?_
        exact ⟨rfl, hS.sel (by repeat constructor)⟩
      · (try simp only [cx, ne_eq] at h3)
        try (exfalso; (first | omega | exact h3 trivial | contradiction | (first | exact h3 rfl | cases h3)); done)
        all_goals
        refine SatD.sk 8 rfl [] hD ?_
        refine SatD.tk 9 rfl hD (fun _ hw => RunV.pick_f rfl rfl) ?_
        refine SatD.tk 10 rfl hD (fun _ hw => RunV.assign rfl) ?_
        refine SatD.done 0 (by kernel_rfl) (SatE.thenC ?_)
        clear hD
        refine SatC.ret ?_
        refine SatE.ret1 rfl rfl ?_
        exact ⟨rfl, hS.sel (by repeat constructor)⟩
  · (try simp only [cx, ne_eq] at h1)
    try (exfalso; (first | omega | exact h1 trivial | contradiction | (first | exact h1 rfl | cases h1)); done)
    all_goals
    refine SatL.guard_n rfl rfl rfl rfl ?_
    refine SatL.pu (RunV.pick_f rfl rfl) rfl ?_
    refine SatL.nil (SatE.thenC ?_)
    refine SatC.cond_f rfl ?_
    refine SatC.exit (SatE.then_exit (SatE.then_exit (SatE.blk_exit (SatE.thenC ?_))))
    refine SatC.seq ?_
    have hln : (ss.map sc).length ≤ 9223372036854775807 := by rw [List.length_map]; omega
    refine SatC.drawnT 11 hS (hS) (by kernel_rfl) ?_
    clear hS
    intro w4 hh hS hD
    refine SatD.tk 0 rfl hD (fun _ hw => RunV.move rfl) ?_
    refine SatD.tk 2 rfl hD (fun _ hw => RunV.move rfl) ?_
    first | refine SatD.tk 3 rfl hD (fun _ hw => RunV.nil_ptr rfl) ?_ | refine SatD.tk 3 rfl hD (fun _ hw => RunV.nil_func rfl) ?_ | refine SatD.tk 3 rfl hD (fun _ hw => RunV.nil_yield rfl) ?_
    first | refine SatD.tk 4 rfl hD (fun _ hw => RunV.fieldAddrL rfl rfl rfl) ?_ | refine SatD.tk 4 rfl hD (fun _ hw => RunV.fieldAddr rfl rfl rfl) ?_
    refine SatD.tk 5 rfl hD (fun _ hw => RunV.load1 hw rfl rfl (by repeat constructor) rfl) ?_
    refine SatD.ef 1 rfl (OpW.enter rfl rfl rfl (rfl) (listS_any hw hm hsl (by omega) (hS.ownT (A := SO b0 b most last tv B) (by repeat constructor))) ?_)
    rintro r5 w5 ⟨LB, hsL, h⟩
    replace hS := hS.call0 h
    refine keepS (hS.sel (by repeat constructor)) (fun hD => ?_)
    refine SatD.ef 6 rfl (OpW.enter rfl rfl rfl (rfl) (same_any _ _ ss ss _ (hsL.row hS (by repeat constructor) hln) (hsr.row hS (by repeat constructor) hln)) ?_)
    rintro r6 w6 ⟨rfl, h⟩
    replace hS := St.callN hS h
    refine keepS (hS.sel (by repeat constructor)) (fun hD => ?_)
    refine SatD.tk 7 rfl hD (fun _ hw => RunV.move rfl) ?_
    refine SatD.ways 169 rfl (fun h2 => ?_) (fun h2 => ?_)
    · (try simp only [cx, ne_eq] at h2)
      try (exfalso; (first | omega | exact h2 trivial | contradiction | (first | exact h2 rfl | cases h2)); done)
      all_goals
      refine SatD.ef 8 rfl (OpW.enter rfl rfl rfl (rfl) (works_any _) ?_)
      rintro r7 w7 ⟨rfl, h⟩
      replace hS := St.callN hS h
      refine keepS (hS.sel (by repeat constructor)) (fun hD => ?_)
      refine SatD.tk 9 rfl hD (fun _ hw => RunV.pick_t rfl rfl) ?_
      refine SatD.tk 10 rfl hD (fun _ hw => RunV.assign rfl) ?_
      refine SatD.done 0 (by kernel_rfl) (SatE.thenC ?_)
      clear hD
      refine SatC.ret ?_
      refine SatE.ret1 rfl rfl ?_
      exact ⟨rfl, hS.sel (by repeat constructor)⟩
    · (try simp only [cx, ne_eq] at h2)
      try (exfalso; (first | omega | exact h2 trivial | contradiction | (first | exact h2 rfl | cases h2)); done)
      all_goals
      refine SatD.sk 8 rfl [] hD ?_
      refine SatD.tk 9 rfl hD (fun _ hw => RunV.pick_f rfl rfl) ?_
      refine SatD.tk 10 rfl hD (fun _ hw => RunV.assign rfl) ?_
      refine SatD.done 0 (by kernel_rfl) (SatE.thenC ?_)
      clear hD
      refine SatC.ret ?_
      refine SatE.ret1 rfl rfl ?_
      exact ⟨rfl, hS.sel (by repeat constructor)⟩
theorem sessionPlays_lifted (os : Os) (started : os.Started) (H : Type) (enc : TypeId × Value → H) :
    ReturnsInHanded {} Try.checked os 5 .any (Rows.sessionPlaysSpec.pre6 enc Try.prog Try.f5 Rows.sessionPlaysRow.domain false) (Rows.sessionPlaysSpec.post enc Try.prog Try.f5 false true false false) := by
  refine law_returns (C := Try.checked) (b := 4) (by kernel_rfl) started (by kernel_rfl) Try.func5
    (ChangeSpec.witness6 (enc := enc) (C := Try.checked) false ⟨#[], #[.int .i64 0, .slice none 0 0], []⟩ 8 (by kernel_rfl) (by kernel_rfl) (by kernel_rfl) (by kernel_rfl))
    rfl rfl (by kernel_rfl) (by kernel_rfl) (by kernel_rfl) (fun ds h => ?_) ?_
  · rw [Try.params5] at h
    match ds, h with
    | [_, _], _ => rfl
  intro W base args ds ps hval hA hsz
  rw [Try.params5] at hA hval
  obtain ⟨v0, v1, d0, d1, q0, q1, hargs, rfl, rfl, h0, h1⟩ := trodAll_two hA
  subst hargs
  obtain ⟨a0, rfl, rfl, rfl, b0⟩ := open_int Try.underlying3 (hval 0 3 v0 rfl rfl) h0
  replace b0 := bnd_i64 b0
  obtain ⟨xs1, hr1, hx1⟩ := open_rows (l := [3, 3, 25, 25]) 6 Try.underlying22 (by kernel_rfl) (by kernel_rfl) (by decide) (hval 1 22 v1 rfl rfl) h1
  obtain ⟨ys1, rfl, hy1⟩ := rows_map (enc' := sr) (q := SpB) (fun r hr => by
    obtain ⟨u0, u1, u2, u3, rfl, l0, l1, l2, l3⟩ := allLeaf_list4 hr
    obtain ⟨n0, rfl, e0⟩ := leaf_int Try.underlying3 l0
    obtain ⟨n1, rfl, e1⟩ := leaf_int Try.underlying3 l1
    obtain ⟨n2, rfl, e2⟩ := leaf_int Try.underlying25 l2
    obtain ⟨n3, rfl, e3⟩ := leaf_int Try.underlying25 l3
    exact ⟨⟨n0, n1, n2, n3⟩, rfl, bnd_u64 e2, bnd_u64 e3⟩) xs1 hx1
  exact law_done (plays_any a0 _ ys1 W hr1 hy1)
theorem sessionPlays_holds : Rows.SessionPlaysSaid :=
  OpenClaim.holds_of_wide 5 Try.f5 rfl rfl rfl rfl rfl rfl rfl ⟨rfl, rfl, rfl, rfl, rfl⟩ rfl rfl rfl rfl rfl (by kernel_rfl) Try.func5 (by kernel_rfl)
    (of_decide_eq_true (by kernel_rfl)) (by unfold Func.isWrapper; first | (rw [if_pos (by decide +kernel)]; kernel_rfl) | (rw [if_neg (by decide +kernel)]; exact ⟨rfl, rfl⟩))
    (fun os started H enc _ => sessionPlays_lifted os started H enc)
end Go.Proofs.Ythbfigkfelfhcaa
