/- RumorOne: there is one update of each node at most, and none below one that was pushed while it was there. -/
import Derived.Test.YtfkalbbdmlinlaaP
import Derived.Test.YtfkalbbdmlinlaaK7
import Derived.Test.YtfkalbbdmlinlaaK16
import Derived.Test.YtfkalbbdmlinlaaRows
set_option linter.unusedSimpArgs false
set_option linter.unusedVariables false
set_option maxRecDepth 100000
set_option maxHeartbeats 16000000
namespace Go.Proofs.Ytfkalbbdmlinlaa
open Go.RowKit Go.ChangeShapes Go.WideShapes Go.ChangeAt
/-- A step of a law. -/
structure Stp where
  k : Int
  n : Int
  i : Int
  s : Int
  most : Int
  m : Int
@[reducible] def sr (y : Stp) : List Value := [.int .i64 y.k, .int .i64 y.n, .int .u32 y.i, .int .i64 y.s, .int .i64 y.most, .int .i64 y.m]
def StB (y : Stp) : Prop := -9223372036854775808 ≤ y.m ∧ y.m ≤ 9223372036854775807
theorem one_any (n : Int) (v : Value) (ys : List Stp) (w : World) (hr : RdRow w v 6 (ys.map sr)) (hys : ∀ y ∈ ys, StB y) : Ret Try.prog 3 #[.int .i64 n, v] w fun u w' => u = .bool true ∧ St w [] [] w' := by
  have hS := St.init0 w
  obtain ⟨bl, ol, cl, hvl, hmaxl, hcl, hltl⟩ := hr.open
  simp only [List.length_map] at hvl hmaxl hltl
  obtain ⟨mult, hmult⟩ : ∃ m, min (max n 1) 8 = m := ⟨_, rfl⟩
  have hmu : 0 ≤ mult ∧ mult ≤ 8 := by omega
  have hlm : ∀ m, mult * dg (max m 1) ≤ 504 := fun m => by
    have hdb := dg_b (max m 1)
    have := Int.mul_le_mul hmu.2 hdb.2 hdb.1 (by decide)
    omega
  refine Ret.enter Try.func3 Try.ntmps3 rfl rfl ?_
  simp only [argEnv, Nat.reduceAdd]
  refine SatC.seq ?_
  refine SatC.region ?_
  refine SatL.pu (RunV.assign rfl) rfl ?_
  refine SatL.nil (SatE.thenC ?_)
  refine SatC.seq ?_
  refine SatC.region ?_
  refine SatL.pu (RunV.move rfl) rfl ?_
  refine SatL.op rfl (OpW.enter rfl rfl rfl (rfl) (qnew_any n _) ?_)
  rintro r1 w1 ⟨b, mb, o0, rfl, ho0, h⟩
  replace hS := hS.callT (A := []) (by repeat constructor) h
  rw [hmult] at hS
  refine SatL.pu (RunV.assign rfl) rfl ?_
  refine SatL.nil (SatE.thenC ?_)
  refine SatC.seq ?_
  refine SatC.seq ?_
  refine SatC.region ?_
  refine SatL.pu (RunV.assign rfl) rfl ?_
  refine SatL.nil (SatE.thenC ?_)
  refine SatC.block ?_
  refine SatC.loopK (G := Nat × Tab × Int × Obj) (V := fun ⟨k, t, wh, o⟩ => [(6, .int .i64 (k : Int))]) (Cn := [(1, _), (5, _), (4, _)]) (I := fun ⟨k, t, wh, o⟩ w' => k ≤ ys.length ∧ k ≤ 80 ∧ WfT t ∧ 0 ≤ wh ∧ wh ≤ k ∧ QM o t ∧ St w [] (QO b mb mult wh o) w') (μ := fun ⟨k, t, wh, o⟩ => ys.length - k) (0, fun _ => none, 0, o0) ?_ (by repeat constructor) ?_
  · exact ⟨Nat.zero_le _, by omega, wf_nT, by decide, by decide, ho0, hS.sel (by repeat constructor)⟩
  clear hS
  rintro ⟨k, t, wh, o⟩ w2 ⟨hk, hk8, hwf, hw0, hwk, ho, hS⟩
  refine SatC.weak (e' := [(1, _), (4, _), (5, _), (6, _)]) (by repeat constructor) ?_
  refine SatC.seq ?_
  refine SatC.seq ?_
  refine SatC.region ?_
  refine SatL.pu (RunV.move rfl) rfl ?_
  refine SatL.pu (RunV.move rfl) rfl ?_
  first | refine SatL.pu (RunV.lenR (by assumption) rfl rfl) rfl ?_ | refine SatL.pu (RunV.lenS rfl rfl) rfl ?_
  refine SatL.pu (RunV.lss rfl rfl) rfl ?_
  refine SatL.pu (RunV.move rfl) rfl ?_
  refine SatL.guard rfl rfl rfl (fun h1 => ?_) (fun h1 => ?_)
  · (try simp only [cx, ne_eq] at h1)
    try (exfalso; (first | omega | exact h1 trivial | contradiction | (first | exact h1 rfl | cases h1 | (simp at h1; done))); done)
    all_goals
    refine SatL.pu (RunV.move rfl) rfl ?_
    refine SatL.guard_y rfl rfl ?_
    refine SatL.pu (RunV.lss rfl rfl) rfl ?_
    refine SatL.pu (RunV.pick_t rfl rfl) rfl ?_
    refine SatL.nil (SatE.thenC ?_)
    refine SatC.cond rfl (fun h2 => ?_) (fun h2 => ?_)
    · (try simp only [cx, ne_eq] at h2)
      try (exfalso; (first | omega | exact h2 trivial | contradiction | (first | exact h2 rfl | cases h2 | (simp at h2; done))); done)
      all_goals
      refine SatC.skip (SatE.thenC ?_)
      refine SatC.seq ?_
      refine SatC.block ?_
      refine SatC.seq ?_
      obtain ⟨y, hy⟩ := get_some ys k (by omega)
      have hyb := hys y (List.mem_of_getElem? hy)
      refine SatC.region ?_
      refine SatL.pu (RunV.move rfl) rfl ?_
      refine SatL.op rfl (OpW.enter rfl rfl rfl (rfl) (list_any ho (hS.ownT (A := QO b mb mult wh o) (by repeat constructor))) ?_)
      rintro r3 w3 ⟨bs, B1, hper1, hsrt1, hb1, h⟩
      replace hS := hS.call0 h
      obtain ⟨c1, hv1⟩ := hb1.slv
      simp only [List.length_map] at hv1
      refine SatL.pu (RunV.assign rfl) rfl ?_
      refine SatL.nil (SatE.thenC ?_)
      refine SatC.merge (G := Tab × Int × Obj) (V := fun ⟨t', wh', o'⟩ => []) (Cn := [(1, _), (4, _), (5, _), (6, _), (7, _)]) (I := fun ⟨t', wh', o'⟩ w' => WfT t' ∧ Keeps t t' ∧ 0 ≤ wh' ∧ wh' ≤ k + 1 ∧ QM o' t' ∧ St w [] (B1 ++ QO b mb mult wh' o') w') (by repeat constructor) ?_ ?_
      · skip
        refine SatC.seq ?_
        refine SatC.region ?_
        refine SatL.pu (RunV.move rfl) rfl ?_
        refine SatL.pu (RunV.move rfl) rfl ?_
        first | refine SatL.pu (RunV.indexR (by assumption) rfl rfl rfl (by omega) (by omega) rfl) rfl ?_ | refine SatL.pu (RunV.indexS rfl rfl rfl (by omega) (by omega) rfl) rfl ?_
        first | refine SatL.pu (RunV.fieldAddrL rfl rfl rfl) rfl ?_ | refine SatL.pu (RunV.fieldAddr rfl rfl rfl) rfl ?_
        first | refine SatL.pu (RunV.loadR1f (RdC.st (by assumption) hS List.not_mem_nil) rfl rfl (by first | assumption | exact map_get (by assumption)) rfl) rfl ?_ | refine SatL.pu (RunV.loadR1f (Sl.rd (by assumption) hS (by repeat constructor)) rfl rfl (by first | assumption | exact map_get (by assumption)) rfl) rfl ?_
        refine SatL.pu (RunV.eql rfl rfl) rfl ?_
        refine SatL.nil (SatE.thenC ?_)
        refine SatC.weak (e' := [(1, _), (4, _), (5, _), (6, _), (7, _), (31, _)]) (by repeat constructor) ?_
        refine SatC.cond rfl (fun h3 => ?_) (fun h3 => ?_)
        · (try simp only [cx, ne_eq] at h3)
          try (exfalso; (first | omega | exact h3 trivial | contradiction | (first | exact h3 rfl | cases h3 | (simp at h3; done))); done)
          all_goals
          refine SatC.drawnT 11 hS (hS) (by kernel_rfl) ?_
          clear hS
          intro w4 hh hS hD
          refine SatD.tk 0 rfl hD (fun _ hw => RunV.move rfl) ?_
          refine SatD.tkp 1 rfl [5, 4, 3] hD (fun _ hw => RunV.move rfl) ?_
          refine SatD.tkp 2 rfl [5, 4, 3] hD (fun _ hw => RunV.move rfl) ?_
          first | refine SatD.tkp 3 rfl [5, 4] hD (fun _ hw => RunV.indexR (by assumption) rfl rfl rfl (by omega) (by omega) rfl) ?_ | refine SatD.tkp 3 rfl [5, 4] hD (fun _ hw => RunV.indexS rfl rfl rfl (by omega) (by omega) rfl) ?_
          first | refine SatD.tkp 4 rfl [5] hD (fun _ hw => RunV.fieldAddrL rfl rfl rfl) ?_ | refine SatD.tkp 4 rfl [5] hD (fun _ hw => RunV.fieldAddr rfl rfl rfl) ?_
          first | refine SatD.tk 5 rfl hD (fun _ hw => RunV.loadR1f (RdC.st (by assumption) hw List.not_mem_nil) rfl rfl (by first | assumption | exact map_get (by assumption)) rfl) ?_ | refine SatD.tk 5 rfl hD (fun _ hw => RunV.loadR1f (Sl.rd (by assumption) hw (by repeat constructor)) rfl rfl (by first | assumption | exact map_get (by assumption)) rfl) ?_
          refine SatD.tkp 6 rfl [10, 9, 8] hD (fun _ hw => RunV.move rfl) ?_
          refine SatD.tkp 7 rfl [10, 9, 8] hD (fun _ hw => RunV.move rfl) ?_
          first | refine SatD.tkp 8 rfl [10, 9] hD (fun _ hw => RunV.indexR (by assumption) rfl rfl rfl (by omega) (by omega) rfl) ?_ | refine SatD.tkp 8 rfl [10, 9] hD (fun _ hw => RunV.indexS rfl rfl rfl (by omega) (by omega) rfl) ?_
          first | refine SatD.tkp 9 rfl [10] hD (fun _ hw => RunV.fieldAddrL rfl rfl rfl) ?_ | refine SatD.tkp 9 rfl [10] hD (fun _ hw => RunV.fieldAddr rfl rfl rfl) ?_
          first | refine SatD.tk 10 rfl hD (fun _ hw => RunV.loadR1f (RdC.st (by assumption) hw List.not_mem_nil) rfl rfl (by first | assumption | exact map_get (by assumption)) rfl) ?_ | refine SatD.tk 10 rfl hD (fun _ hw => RunV.loadR1f (Sl.rd (by assumption) hw (by repeat constructor)) rfl rfl (by first | assumption | exact map_get (by assumption)) rfl) ?_
          refine SatD.effF (by kernel_rfl) rfl rfl (OpW.enter rfl rfl rfl (rfl) (take_any y.most y.m hyb.2 hmu hwf.tabB ho (hS.ownT (A := QO b mb mult wh o) (by repeat constructor))) ?_)
          rintro r5 w5 ⟨ds, DB, o2, hperd, _, hsld, ho2, h⟩
          replace hS := hS.callT (A := QO b mb mult wh o) (by repeat constructor) h
          simp only [List.append_assoc, List.cons_append, List.nil_append, List.append_nil] at hS
          refine SatD.done 0 (by kernel_rfl) ?_
          clear hD
          refine SatE.met (((ds.take y.most.toNat).foldl (takeF (mult * dg (max y.m 1))) t, wh, o2)) ?_ (by repeat constructor)
          have hx := take_wf (hlm y.m) t hwf (ds.take y.most.toNat) t hwf (fun k y h => ⟨y, h, rfl⟩) (fun x hx => ds_at hwf hperd (List.mem_of_mem_take hx))
          exact ⟨hx.1, hx.2.keeps, hw0, by omega, ho2, hS.sel (by repeat constructor)⟩
        · (try simp only [cx, ne_eq] at h3)
          try (exfalso; (first | omega | exact h3 trivial | contradiction | (first | exact h3 rfl | cases h3 | (simp at h3; done))); done)
          all_goals
          refine SatC.region ?_
          refine SatL.pu (RunV.move rfl) rfl ?_
          refine SatL.pu (RunV.move rfl) rfl ?_
          refine SatL.pu (RunV.move rfl) rfl ?_
          first | refine SatL.pu (RunV.indexR (by assumption) rfl rfl rfl (by omega) (by omega) rfl) rfl ?_ | refine SatL.pu (RunV.indexS rfl rfl rfl (by omega) (by omega) rfl) rfl ?_
          first | refine SatL.pu (RunV.fieldAddrL rfl rfl rfl) rfl ?_ | refine SatL.pu (RunV.fieldAddr rfl rfl rfl) rfl ?_
          first | refine SatL.pu (RunV.loadRNf (RdC.st (by assumption) hS List.not_mem_nil) rfl rfl (by first | assumption | exact map_get (by assumption)) (by repeat constructor)) rfl ?_ | refine SatL.pu (RunV.loadRNf (Sl.rd (by assumption) hS (by repeat constructor)) rfl rfl (by first | assumption | exact map_get (by assumption)) (by repeat constructor)) rfl ?_
          refine SatL.op rfl (OpW.enter rfl rfl rfl (rfl) (push_any ⟨y.n, y.i, y.s⟩ ho ⟨hw0, by omega⟩ (hS.ownT (A := QO b mb mult wh o) (by repeat constructor))) ?_)
          rintro r4 w4 ⟨rfl, o2, ho2, h⟩
          replace hS := hS.callT (A := QO b mb mult wh o) (by repeat constructor) h
          refine SatL.nil ?_
          refine SatE.met (((pushQ t wh ⟨y.n, y.i, y.s⟩).2.1, (pushQ t wh ⟨y.n, y.i, y.s⟩).2.2, o2)) ?_ (by repeat constructor)
          have hx := push_wf (wh := wh) (u := ⟨y.n, y.i, y.s⟩) hwf
          have hq := pushQ_w (t := t) (wh := wh) (u := ⟨y.n, y.i, y.s⟩)
          exact ⟨hx.1, hx.2, by omega, by omega, ho2, hS.sel (by repeat constructor)⟩
      · clear hS
        rintro ⟨t', wh', o'⟩ w64 ⟨hwf', hkp, hw0', hwk', ho', hS⟩
        refine SatC.weak (e' := [(1, _), (4, _), (5, _), (6, _), (7, _)]) (by repeat constructor) ?_
        refine SatC.seq ?_
        refine SatC.region ?_
        refine SatL.pu (RunV.move rfl) rfl ?_
        refine SatL.op rfl (OpW.enter rfl rfl rfl (rfl) (list_any ho' (hS.ownT (A := QO b mb mult wh' o') (by repeat constructor))) ?_)
        rintro r65 w65 ⟨cs, B2, hper2, hsrt2, hb2, h⟩
        replace hS := hS.call0 h
        obtain ⟨c2, hv2⟩ := hb2.slv
        simp only [List.length_map] at hv2
        refine SatL.pu (RunV.assign rfl) rfl ?_
        refine SatL.nil (SatE.thenC ?_)
        refine SatC.seq ?_
        refine SatC.region ?_
        refine SatL.pu (RunV.assign rfl) rfl ?_
        refine SatL.nil (SatE.thenC ?_)
        refine SatC.block ?_
        refine SatC.loopK (G := Nat) (V := fun i => [(9, .int .i64 (i : Int))]) (Cn := [(1, _), (5, _), (6, _), (7, _), (8, _), (4, _)]) (I := fun i w' => i ≤ cs.length ∧ St w [] (B2 ++ (B1 ++ QO b mb mult wh' o')) w') (μ := fun i => cs.length - i) 0 ?_ (by repeat constructor) ?_
        · exact ⟨Nat.zero_le _, hS.sel (by repeat constructor)⟩
        clear hS
        rintro i w66 ⟨hi, hS⟩
        refine SatC.weak (e' := [(1, _), (4, _), (5, _), (6, _), (7, _), (8, _), (9, _)]) (by repeat constructor) ?_
        refine SatC.seq ?_
        refine SatC.seq ?_
        refine SatC.region ?_
        refine SatL.pu (RunV.move rfl) rfl ?_
        refine SatL.pu (RunV.move rfl) rfl ?_
        first | refine SatL.pu (RunV.lenR (by assumption) rfl rfl) rfl ?_ | refine SatL.pu (RunV.lenS rfl rfl) rfl ?_
        refine SatL.pu (RunV.lss rfl rfl) rfl ?_
        refine SatL.nil (SatE.thenC ?_)
        refine SatC.cond rfl (fun h3 => ?_) (fun h3 => ?_)
        · (try simp only [cx, ne_eq] at h3)
          try (exfalso; (first | omega | exact h3 trivial | contradiction | (first | exact h3 rfl | cases h3 | (simp at h3; done))); done)
          all_goals
          refine SatC.skip (SatE.thenC ?_)
          refine SatC.seq ?_
          refine SatC.block ?_
          refine SatC.seq ?_
          refine SatC.seq ?_
          obtain ⟨z, hz⟩ := get_some cs i (by omega)
          have hcl8 := coll_len t' 8
          have hbl8 := coll_len t 8
          have hcl9 := hper2.length_eq
          have hbl9 := hper1.length_eq
          refine SatC.region ?_
          refine SatL.pu (RunV.assign rfl) rfl ?_
          refine SatL.nil (SatE.thenC ?_)
          refine SatC.block ?_
          refine SatC.loopK (G := Nat) (V := fun j => [(10, .int .i64 (j : Int))]) (Cn := [(1, _), (5, _), (6, _), (7, _), (8, _), (9, _), (4, _)]) (I := fun j w' => j ≤ i ∧ St w [] (B2 ++ (B1 ++ QO b mb mult wh' o')) w') (μ := fun j => i - j) 0 ?_ (by repeat constructor) ?_
          · exact ⟨Nat.zero_le _, hS⟩
          clear hS
          rintro j w67 ⟨hj, hS⟩
          refine SatC.weak (e' := [(1, _), (4, _), (5, _), (6, _), (7, _), (8, _), (9, _), (10, _)]) (by repeat constructor) ?_
          refine SatC.seq ?_
          refine SatC.seq ?_
          refine SatC.region ?_
          refine SatL.pu (RunV.move rfl) rfl ?_
          refine SatL.pu (RunV.move rfl) rfl ?_
          refine SatL.pu (RunV.lss rfl rfl) rfl ?_
          refine SatL.nil (SatE.thenC ?_)
          refine SatC.cond rfl (fun h4 => ?_) (fun h4 => ?_)
          · (try simp only [cx, ne_eq] at h4)
            try (exfalso; (first | omega | exact h4 trivial | contradiction | (first | exact h4 rfl | cases h4 | (simp at h4; done))); done)
            all_goals
            refine SatC.skip (SatE.thenC ?_)
            refine SatC.seq ?_
            refine SatC.block ?_
            refine SatC.seq ?_
            obtain ⟨x, hx⟩ := get_some cs j (by omega)
            obtain ⟨hne, hnl⟩ := two_at hwf' hper2 hsrt2 (by omega) hx hz
            refine SatC.drawnT 26 hS (hS) (by kernel_rfl) ?_
            clear hS
            intro w68 hh hS hD
            refine SatD.tk 0 rfl hD (fun _ hw => RunV.move rfl) ?_
            refine SatD.tk 1 rfl hD (fun _ hw => RunV.move rfl) ?_
            first | refine SatD.tk 2 rfl hD (fun _ hw => RunV.indexR (by assumption) rfl rfl rfl (by omega) (by omega) rfl) ?_ | refine SatD.tk 2 rfl hD (fun _ hw => RunV.indexS rfl rfl rfl (by omega) (by omega) rfl) ?_
            first | refine SatD.tk 3 rfl hD (fun _ hw => RunV.fieldAddrL rfl rfl rfl) ?_ | refine SatD.tk 3 rfl hD (fun _ hw => RunV.fieldAddr rfl rfl rfl) ?_
            first | refine SatD.tk 4 rfl hD (fun _ hw => RunV.fieldAddrL rfl rfl rfl) ?_ | refine SatD.tk 4 rfl hD (fun _ hw => RunV.fieldAddr rfl rfl rfl) ?_
            first | refine SatD.tk 5 rfl hD (fun _ hw => RunV.loadR1f (RdC.st (by assumption) hw List.not_mem_nil) rfl rfl (by first | assumption | exact map_get (by assumption)) rfl) ?_ | refine SatD.tk 5 rfl hD (fun _ hw => RunV.loadR1f (Sl.rd (by assumption) hw (by repeat constructor)) rfl rfl (by first | assumption | exact map_get (by assumption)) rfl) ?_
            refine SatD.tk 6 rfl hD (fun _ hw => RunV.move rfl) ?_
            refine SatD.tk 7 rfl hD (fun _ hw => RunV.move rfl) ?_
            first | refine SatD.tk 8 rfl hD (fun _ hw => RunV.indexR (by assumption) rfl rfl rfl (by omega) (by omega) rfl) ?_ | refine SatD.tk 8 rfl hD (fun _ hw => RunV.indexS rfl rfl rfl (by omega) (by omega) rfl) ?_
            first | refine SatD.tk 9 rfl hD (fun _ hw => RunV.fieldAddrL rfl rfl rfl) ?_ | refine SatD.tk 9 rfl hD (fun _ hw => RunV.fieldAddr rfl rfl rfl) ?_
            first | refine SatD.tk 10 rfl hD (fun _ hw => RunV.fieldAddrL rfl rfl rfl) ?_ | refine SatD.tk 10 rfl hD (fun _ hw => RunV.fieldAddr rfl rfl rfl) ?_
            first | refine SatD.tk 11 rfl hD (fun _ hw => RunV.loadR1f (RdC.st (by assumption) hw List.not_mem_nil) rfl rfl (by first | assumption | exact map_get (by assumption)) rfl) ?_ | refine SatD.tk 11 rfl hD (fun _ hw => RunV.loadR1f (Sl.rd (by assumption) hw (by repeat constructor)) rfl rfl (by first | assumption | exact map_get (by assumption)) rfl) ?_
            refine SatD.tk 12 rfl hD (fun _ hw => RunV.eql rfl rfl) ?_
            refine SatD.tk 13 rfl hD (fun _ hw => RunV.move rfl) ?_
            refine SatD.ways 77 rfl (fun h5 => ?_) (fun h5 => ?_)
            · (try simp only [cx, ne_eq] at h5)
              try (exfalso; (first | omega | exact h5 trivial | contradiction | (first | exact h5 rfl | cases h5 | (simp at h5; done))); done)
              all_goals
              refine SatD.sk 14 rfl [] hD ?_
              refine SatD.sk 15 rfl [] hD ?_
              refine SatD.sk 16 rfl [] hD ?_
              refine SatD.sk 17 rfl [] hD ?_
              refine SatD.sk 18 rfl [] hD ?_
              refine SatD.sk 19 rfl [] hD ?_
              refine SatD.sk 20 rfl [] hD ?_
              refine SatD.sk 21 rfl [] hD ?_
              refine SatD.sk 22 rfl [] hD ?_
              refine SatD.sk 23 rfl [] hD ?_
              refine SatD.sk 24 rfl [] hD ?_
              refine SatD.tk 25 rfl hD (fun _ hw => RunV.pick_t rfl rfl) ?_
              refine SatD.done 0 (by kernel_rfl) (SatE.thenC ?_)
              clear hD
              refine SatC.weak (e' := [(1, _), (4, _), (5, _), (6, _), (7, _), (8, _), (9, _), (10, _), (89, _)]) (by repeat constructor) ?_
              refine SatC.cond_t rfl ?_
              refine SatC.seq ?_
              refine SatC.region ?_
              refine SatL.pu (RunV.assign rfl) rfl ?_
              refine SatL.nil (SatE.thenC ?_)
              refine SatC.ret (SatE.blk_ret (SatE.then_ret (SatE.then_ret (SatE.blk_ret (SatE.then_ret (SatE.blk_ret (SatE.then_ret (SatE.then_ret (SatE.blk_ret (SatE.blk_ret (SatE.then_ret (SatE.then_ret (SatE.blk_ret (SatE.then_ret ?_))))))))))))))
              refine SatE.ret1 rfl rfl ?_
              exact ⟨rfl, hS.sel (by repeat constructor)⟩
            · (try simp only [cx, ne_eq] at h5)
              try (exfalso; (first | omega | exact h5 trivial | contradiction | (first | exact h5 rfl | cases h5 | (simp at h5; done))); done)
              all_goals
              refine SatD.tk 14 rfl hD (fun _ hw => RunV.move rfl) ?_
              refine SatD.tk 15 rfl hD (fun _ hw => RunV.move rfl) ?_
              first | refine SatD.tk 16 rfl hD (fun _ hw => RunV.indexR (by assumption) rfl rfl rfl (by omega) (by omega) rfl) ?_ | refine SatD.tk 16 rfl hD (fun _ hw => RunV.indexS rfl rfl rfl (by omega) (by omega) rfl) ?_
              first | refine SatD.tk 17 rfl hD (fun _ hw => RunV.fieldAddrL rfl rfl rfl) ?_ | refine SatD.tk 17 rfl hD (fun _ hw => RunV.fieldAddr rfl rfl rfl) ?_
              first | refine SatD.tk 18 rfl hD (fun _ hw => RunV.loadR1f (RdC.st (by assumption) hw List.not_mem_nil) rfl rfl (by first | assumption | exact map_get (by assumption)) rfl) ?_ | refine SatD.tk 18 rfl hD (fun _ hw => RunV.loadR1f (Sl.rd (by assumption) hw (by repeat constructor)) rfl rfl (by first | assumption | exact map_get (by assumption)) rfl) ?_
              refine SatD.tk 19 rfl hD (fun _ hw => RunV.move rfl) ?_
              refine SatD.tk 20 rfl hD (fun _ hw => RunV.move rfl) ?_
              first | refine SatD.tk 21 rfl hD (fun _ hw => RunV.indexR (by assumption) rfl rfl rfl (by omega) (by omega) rfl) ?_ | refine SatD.tk 21 rfl hD (fun _ hw => RunV.indexS rfl rfl rfl (by omega) (by omega) rfl) ?_
              first | refine SatD.tk 22 rfl hD (fun _ hw => RunV.fieldAddrL rfl rfl rfl) ?_ | refine SatD.tk 22 rfl hD (fun _ hw => RunV.fieldAddr rfl rfl rfl) ?_
              first | refine SatD.tk 23 rfl hD (fun _ hw => RunV.loadR1f (RdC.st (by assumption) hw List.not_mem_nil) rfl rfl (by first | assumption | exact map_get (by assumption)) rfl) ?_ | refine SatD.tk 23 rfl hD (fun _ hw => RunV.loadR1f (Sl.rd (by assumption) hw (by repeat constructor)) rfl rfl (by first | assumption | exact map_get (by assumption)) rfl) ?_
              refine SatD.tk 24 rfl hD (fun _ hw => RunV.lss rfl rfl) ?_
              refine SatD.tk 25 rfl hD (fun _ hw => RunV.pick_f rfl rfl) ?_
              refine SatD.done 0 (by kernel_rfl) (SatE.thenC ?_)
              clear hD
              refine SatC.weak (e' := [(1, _), (4, _), (5, _), (6, _), (7, _), (8, _), (9, _), (10, _), (89, _)]) (by repeat constructor) ?_
              refine SatC.cond rfl (fun h6 => ?_) (fun h6 => ?_)
              · (try simp only [cx, ne_eq] at h6)
                try (exfalso; (first | omega | exact h6 trivial | contradiction | (first | exact h6 rfl | cases h6 | (simp at h6; done))); done)
                all_goals
                refine SatC.seq ?_
                refine SatC.region ?_
                refine SatL.pu (RunV.assign rfl) rfl ?_
                refine SatL.nil (SatE.thenC ?_)
                refine SatC.ret (SatE.blk_ret (SatE.then_ret (SatE.then_ret (SatE.blk_ret (SatE.then_ret (SatE.blk_ret (SatE.then_ret (SatE.then_ret (SatE.blk_ret (SatE.blk_ret (SatE.then_ret (SatE.then_ret (SatE.blk_ret (SatE.then_ret ?_))))))))))))))
                refine SatE.ret1 rfl rfl ?_
                exact ⟨rfl, hS.sel (by repeat constructor)⟩
              · (try simp only [cx, ne_eq] at h6)
                try (exfalso; (first | omega | exact h6 trivial | contradiction | (first | exact h6 rfl | cases h6 | (simp at h6; done))); done)
                all_goals
                refine SatC.skip (SatE.blk_normal (SatE.thenC ?_))
                refine SatC.region ?_
                refine SatL.pu (RunV.move rfl) rfl ?_
                refine SatL.pu (RunV.add rfl rfl (by first | exact wrapI64 (by omega) | rfl)) rfl ?_
                refine SatL.pu (RunV.assign rfl) rfl ?_
                refine SatL.nil ?_
                refine SatE.again (j + 1) ?_ (by first | omega | (dsimp only; omega)) (by repeat constructor)
                exact ⟨by omega, hS⟩
          · (try simp only [cx, ne_eq] at h4)
            try (exfalso; (first | omega | exact h4 trivial | contradiction | (first | exact h4 rfl | cases h4 | (simp at h4; done))); done)
            all_goals
            refine SatC.exit (SatE.then_exit (SatE.then_exit (SatE.blk_exit (SatE.thenC ?_))))
            refine SatC.seq ?_
            refine SatC.region ?_
            refine SatL.pu (RunV.assign rfl) rfl ?_
            refine SatL.nil (SatE.thenC ?_)
            refine SatC.block ?_
            refine SatC.loopK (G := Nat) (V := fun m => [(11, .int .i64 (m : Int))]) (Cn := [(1, _), (5, _), (6, _), (7, _), (8, _), (9, _), (4, _)]) (I := fun m w' => m ≤ bs.length ∧ St w [] (B2 ++ (B1 ++ QO b mb mult wh' o')) w') (μ := fun m => bs.length - m) 0 ?_ (by repeat constructor) ?_
            · exact ⟨Nat.zero_le _, hS⟩
            clear hS
            rintro m w68 ⟨hm, hS⟩
            refine SatC.weak (e' := [(1, _), (4, _), (5, _), (6, _), (7, _), (8, _), (9, _), (11, _)]) (by repeat constructor) ?_
            refine SatC.seq ?_
            refine SatC.seq ?_
            refine SatC.region ?_
            refine SatL.pu (RunV.move rfl) rfl ?_
            refine SatL.pu (RunV.move rfl) rfl ?_
            first | refine SatL.pu (RunV.lenR (by assumption) rfl rfl) rfl ?_ | refine SatL.pu (RunV.lenS rfl rfl) rfl ?_
            refine SatL.pu (RunV.lss rfl rfl) rfl ?_
            refine SatL.nil (SatE.thenC ?_)
            refine SatC.cond rfl (fun h5 => ?_) (fun h5 => ?_)
            · (try simp only [cx, ne_eq] at h5)
              try (exfalso; (first | omega | exact h5 trivial | contradiction | (first | exact h5 rfl | cases h5 | (simp at h5; done))); done)
              all_goals
              refine SatC.skip (SatE.thenC ?_)
              refine SatC.seq ?_
              refine SatC.block ?_
              refine SatC.seq ?_
              obtain ⟨x, hx⟩ := get_some bs m (by omega)
              have hab := keep_at hwf hwf' hkp hper1 hper2 (List.mem_of_getElem? hx) (List.mem_of_getElem? hz)
              refine SatC.drawnT 10 hS (hS) (by kernel_rfl) ?_
              clear hS
              intro w69 hh hS hD
              refine SatD.tkp 0 rfl [4, 3, 2] hD (fun _ hw => RunV.move rfl) ?_
              refine SatD.tkp 1 rfl [4, 3, 2] hD (fun _ hw => RunV.move rfl) ?_
              first | refine SatD.tkp 2 rfl [4, 3] hD (fun _ hw => RunV.indexR (by assumption) rfl rfl rfl (by omega) (by omega) rfl) ?_ | refine SatD.tkp 2 rfl [4, 3] hD (fun _ hw => RunV.indexS rfl rfl rfl (by omega) (by omega) rfl) ?_
              first | refine SatD.tkp 3 rfl [4] hD (fun _ hw => RunV.fieldAddrL rfl rfl rfl) ?_ | refine SatD.tkp 3 rfl [4] hD (fun _ hw => RunV.fieldAddr rfl rfl rfl) ?_
              first | refine SatD.tk 4 rfl hD (fun _ hw => RunV.loadRNf (RdC.st (by assumption) hw List.not_mem_nil) rfl rfl (by first | assumption | exact map_get (by assumption)) (by repeat constructor)) ?_ | refine SatD.tk 4 rfl hD (fun _ hw => RunV.loadRNf (Sl.rd (by assumption) hw (by repeat constructor)) rfl rfl (by first | assumption | exact map_get (by assumption)) (by repeat constructor)) ?_
              refine SatD.tkp 5 rfl [9, 8, 7] hD (fun _ hw => RunV.move rfl) ?_
              refine SatD.tkp 6 rfl [9, 8, 7] hD (fun _ hw => RunV.move rfl) ?_
              first | refine SatD.tkp 7 rfl [9, 8] hD (fun _ hw => RunV.indexR (by assumption) rfl rfl rfl (by omega) (by omega) rfl) ?_ | refine SatD.tkp 7 rfl [9, 8] hD (fun _ hw => RunV.indexS rfl rfl rfl (by omega) (by omega) rfl) ?_
              first | refine SatD.tkp 8 rfl [9] hD (fun _ hw => RunV.fieldAddrL rfl rfl rfl) ?_ | refine SatD.tkp 8 rfl [9] hD (fun _ hw => RunV.fieldAddr rfl rfl rfl) ?_
              first | refine SatD.tk 9 rfl hD (fun _ hw => RunV.loadRNf (RdC.st (by assumption) hw List.not_mem_nil) rfl rfl (by first | assumption | exact map_get (by assumption)) (by repeat constructor)) ?_ | refine SatD.tk 9 rfl hD (fun _ hw => RunV.loadRNf (Sl.rd (by assumption) hw (by repeat constructor)) rfl rfl (by first | assumption | exact map_get (by assumption)) (by repeat constructor)) ?_
              refine SatD.effF (by kernel_rfl) rfl rfl (OpW.enter rfl rfl rfl (rfl) (above_any (up x) (up z) _) ?_)
              rintro r70 w70 ⟨rfl, h⟩
              replace hS := St.callN hS h
              rw [hab]
              refine SatD.done 0 (by kernel_rfl) (SatE.thenC ?_)
              clear hD
              refine SatC.weak (e' := [(1, _), (4, _), (5, _), (6, _), (7, _), (8, _), (9, _), (11, _), (106, _)]) (by repeat constructor) ?_
              refine SatC.cond rfl (fun h6 => ?_) (fun h6 => ?_)
              · (try simp only [cx, ne_eq] at h6)
                try (exfalso; (first | omega | exact h6 trivial | contradiction | (first | exact h6 rfl | cases h6 | (simp at h6; done))); done)
                all_goals
                refine SatC.seq ?_
                refine SatC.region ?_
                refine SatL.pu (RunV.assign rfl) rfl ?_
                refine SatL.nil (SatE.thenC ?_)
                refine SatC.ret (SatE.blk_ret (SatE.then_ret (SatE.then_ret (SatE.blk_ret (SatE.blk_ret (SatE.then_ret (SatE.then_ret (SatE.blk_ret (SatE.blk_ret (SatE.then_ret (SatE.then_ret (SatE.blk_ret (SatE.then_ret ?_)))))))))))))
                refine SatE.ret1 rfl rfl ?_
                exact ⟨rfl, hS.sel (by repeat constructor)⟩
              · (try simp only [cx, ne_eq] at h6)
                try (exfalso; (first | omega | exact h6 trivial | contradiction | (first | exact h6 rfl | cases h6 | (simp at h6; done))); done)
                all_goals
                refine SatC.skip (SatE.blk_normal (SatE.thenC ?_))
                refine SatC.region ?_
                refine SatL.pu (RunV.move rfl) rfl ?_
                refine SatL.pu (RunV.add rfl rfl (by first | exact wrapI64 (by omega) | rfl)) rfl ?_
                refine SatL.pu (RunV.assign rfl) rfl ?_
                refine SatL.nil ?_
                refine SatE.again (m + 1) ?_ (by first | omega | (dsimp only; omega)) (by repeat constructor)
                exact ⟨by omega, hS.sel (by repeat constructor)⟩
            · (try simp only [cx, ne_eq] at h5)
              try (exfalso; (first | omega | exact h5 trivial | contradiction | (first | exact h5 rfl | cases h5 | (simp at h5; done))); done)
              all_goals
              refine SatC.exit (SatE.then_exit (SatE.then_exit (SatE.blk_exit (SatE.blk_normal (SatE.thenC ?_)))))
              refine SatC.region ?_
              refine SatL.pu (RunV.move rfl) rfl ?_
              refine SatL.pu (RunV.add rfl rfl (by first | exact wrapI64 (by omega) | rfl)) rfl ?_
              refine SatL.pu (RunV.assign rfl) rfl ?_
              refine SatL.nil ?_
              refine SatE.again (i + 1) ?_ (by first | omega | (dsimp only; omega)) (by repeat constructor)
              exact ⟨by omega, hS⟩
        · (try simp only [cx, ne_eq] at h3)
          try (exfalso; (first | omega | exact h3 trivial | contradiction | (first | exact h3 rfl | cases h3 | (simp at h3; done))); done)
          all_goals
          refine SatC.exit (SatE.then_exit (SatE.then_exit (SatE.blk_exit (SatE.blk_normal (SatE.thenC ?_)))))
          refine SatC.region ?_
          refine SatL.pu (RunV.move rfl) rfl ?_
          refine SatL.pu (RunV.add rfl rfl (by first | exact wrapI64 (by omega) | rfl)) rfl ?_
          refine SatL.pu (RunV.assign rfl) rfl ?_
          refine SatL.nil ?_
          refine SatE.again ((k + 1, t', wh', o')) ?_ (by first | omega | (dsimp only; omega)) (by repeat constructor)
          exact ⟨by omega, by omega, hwf', hw0', by omega, ho', hS.sel (by repeat constructor)⟩
    · (try simp only [cx, ne_eq] at h2)
      try (exfalso; (first | omega | exact h2 trivial | contradiction | (first | exact h2 rfl | cases h2 | (simp at h2; done))); done)
      all_goals
      refine SatC.exit (SatE.then_exit (SatE.then_exit (SatE.blk_exit (SatE.thenC ?_))))
      refine SatC.seq ?_
      refine SatC.region ?_
      refine SatL.op rfl (OpW.enter rfl rfl rfl (rfl) (works_any _) ?_)
      rintro r3 w3 ⟨rfl, h⟩
      replace hS := St.callN hS h
      refine SatL.pu (RunV.assign rfl) rfl ?_
      refine SatL.nil (SatE.thenC ?_)
      refine SatC.ret ?_
      refine SatE.ret1 rfl rfl ?_
      exact ⟨rfl, hS.sel (by repeat constructor)⟩
  · (try simp only [cx, ne_eq] at h1)
    try (exfalso; (first | omega | exact h1 trivial | contradiction | (first | exact h1 rfl | cases h1 | (simp at h1; done))); done)
    all_goals
    refine SatL.guard_n rfl rfl rfl rfl ?_
    refine SatL.pu (RunV.pick_f rfl rfl) rfl ?_
    refine SatL.nil (SatE.thenC ?_)
    refine SatC.cond_f rfl ?_
    refine SatC.exit (SatE.then_exit (SatE.then_exit (SatE.blk_exit (SatE.thenC ?_))))
    refine SatC.seq ?_
    refine SatC.region ?_
    refine SatL.op rfl (OpW.enter rfl rfl rfl (rfl) (works_any _) ?_)
    rintro r3 w3 ⟨rfl, h⟩
    replace hS := St.callN hS h
    refine SatL.pu (RunV.assign rfl) rfl ?_
    refine SatL.nil (SatE.thenC ?_)
    refine SatC.ret ?_
    refine SatE.ret1 rfl rfl ?_
    exact ⟨rfl, hS.sel (by repeat constructor)⟩
theorem rumorOne_lifted (os : Os) (started : os.Started) (H : Type) (enc : TypeId × Value → H) :
    ReturnsInHanded {} Try.checked os 3 .any (Rows.rumorOneSpec.pre6 enc Try.prog Try.f3 Rows.rumorOneRow.domain false) (Rows.rumorOneSpec.post enc Try.prog Try.f3 false true false false) := by
  refine law_returns (C := Try.checked) (b := 4) (by kernel_rfl) started (by kernel_rfl) Try.func3
    (ChangeSpec.witness6 (enc := enc) (C := Try.checked) false ⟨#[], #[.int .i64 0, .slice none 0 0], []⟩ 8 (by kernel_rfl) (by kernel_rfl) (by kernel_rfl) (by kernel_rfl))
    rfl rfl (by kernel_rfl) (by kernel_rfl) (by kernel_rfl) (fun ds h => ?_) ?_
  · rw [Try.params3] at h
    match ds, h with
    | [_, _], _ => rfl
  intro W base args ds ps hval hA hsz
  rw [Try.params3] at hA hval
  obtain ⟨v0, v1, d0, d1, q0, q1, hargs, rfl, rfl, h0, h1⟩ := trodAll_two hA
  subst hargs
  obtain ⟨a0, rfl, rfl, rfl, b0⟩ := open_int Try.underlying3 (hval 0 3 v0 rfl rfl) h0
  replace b0 := bnd_i64 b0
  obtain ⟨xs1, hr1, hx1⟩ := open_rows (l := [3, 3, 27, 3, 3, 3]) 6 Try.underlying22 (by kernel_rfl) (by kernel_rfl) (by decide) (hval 1 22 v1 rfl rfl) h1
  obtain ⟨ys1, rfl, hy1⟩ := rows_map (enc' := sr) (q := StB) (fun r hr => by
    obtain ⟨u0, u1, u2, u3, u4, u5, rfl, l0, l1, l2, l3, l4, l5⟩ := allLeaf_list6 hr
    obtain ⟨n0, rfl, e0⟩ := leaf_int Try.underlying3 l0
    obtain ⟨n1, rfl, e1⟩ := leaf_int Try.underlying3 l1
    obtain ⟨n2, rfl, e2⟩ := leaf_int Try.underlying27 l2
    obtain ⟨n3, rfl, e3⟩ := leaf_int Try.underlying3 l3
    obtain ⟨n4, rfl, e4⟩ := leaf_int Try.underlying3 l4
    obtain ⟨n5, rfl, e5⟩ := leaf_int Try.underlying3 l5
    exact ⟨⟨n0, n1, n2, n3, n4, n5⟩, rfl, bnd_i64 e5⟩) xs1 hx1
  exact law_done (one_any a0 _ ys1 W hr1 hy1)
theorem rumorOne_holds : Rows.RumorOneSaid :=
  OpenClaim.holds_of_wide 3 Try.f3 rfl rfl rfl rfl rfl rfl rfl ⟨rfl, rfl, rfl, rfl, rfl⟩ rfl rfl rfl rfl rfl (by kernel_rfl) Try.func3 (by kernel_rfl)
    (of_decide_eq_true (by kernel_rfl)) (by unfold Func.isWrapper; first | (rw [if_pos (by decide +kernel)]; kernel_rfl) | (rw [if_neg (by decide +kernel)]; exact ⟨rfl, rfl⟩))
    (fun os started H enc _ => rumorOne_lifted os started H enc)
end Go.Proofs.Ytfkalbbdmlinlaa
