/- A step, answered alike. -/
import Derived.Test.YtogohendjjgbiaaIn
set_option linter.unusedSimpArgs false
set_option linter.unusedVariables false
set_option maxRecDepth 100000
set_option maxHeartbeats 4000000
namespace Go.Proofs.Ytogohendjjgbiaa
open Go.RowKit
structure Stp where
  k : Int
  s : List UInt8
  d : List UInt8
  a : Bool
  old : Int
  ix : Int
@[reducible] def stp (y : Stp) : List Value := [.int .i64 y.k, str y.s, str y.d, .bool y.a, .int .u64 y.old, .int .u64 y.ix]
@[reducible] def RB (rb : Nat) (most last : Int) (rv : Value) (R : List (Nat × Obj)) : List (Nat × Obj) := (rb, C 55 (rt most rv last)) :: R
/-- Both sides' state. -/
structure PS (most last : Int) (rows : List Tr) (L : List Itn) (v : Value) (B : List (Nat × Obj)) (rv : Value) (R : List (Nat × Obj)) : Prop where
  rel : Rel rows L
  len : (rows.length : Int) ≤ most
  most : 1 ≤ most ∧ most ≤ 64
  sl : Sl 77 8 v (rows.map tr) B
  rsl : Sl 28 5 rv (L.map ic) R
theorem asc_addI {most last : Int} {rows : List Tr} {s d : List UInt8} {a : Bool} {ix : Int} (ha : Asc rows) : Asc (addI most last rows s d a ix).2.1 := by
  unfold addI
  split
  · exact ha
  · split
    · exact ha
    · exact asc_putS' ha
section
variable {b0 b rb : Nat} {most last : Int} {rows : List Tr} {L : List Itn} {v rv : Value} {B R : List (Nat × Obj)} {w : World}
theorem step_any (y : Stp) (hp : PS most last rows L v B rv R) (hown : Own w (IO b0 b most last v B ++ RB rb most last rv R)) :
    Ret Try.prog 26 #[.pointer (some ⟨b0, 0, none⟩), .pointer (some ⟨rb, 0, none⟩), .agg (stp y).toArray] w fun u w' => u = .bool true ∧ ∃ last' rows' L' v' B' rv' R', PS most last' rows' L' v' B' rv' R' ∧
      St w ((IO b0 b most last v B ++ RB rb most last rv R).map Prod.fst) (IO b0 b most last' v' B' ++ RB rb most last' rv' R') w' := by
  have hS := St.init hown
  generalize hX : (IO b0 b most last v B ++ RB rb most last rv R).map Prod.fst = X at hS ⊢
  have hp0 := hp
  obtain ⟨hrel, hlen, hmost, hsl, hrsl⟩ := hp
  have hL := hrel.len
  have hm0 : ¬ most = 0 := by omega
  refine Ret.enter Try.func26 Try.ntmps26 rfl rfl ?_
  simp only [argEnv, Nat.reduceAdd]
  refine SatC.seq ?_
  refine SatC.region ?_
  refine SatL.op rfl (OpW.box hS rfl rfl (by repeat constructor) ?_)
  clear hS
  intro b5 w1 _ hS
  refine SatL.pu (RunV.assign rfl) rfl ?_
  refine SatL.nil (SatE.thenC ?_)
  refine SatC.seq ?_
  refine SatC.seq ?_
  refine SatC.region ?_
  first | refine SatL.pu (RunV.fieldAddrL rfl rfl rfl) rfl ?_ | refine SatL.pu (RunV.fieldAddr rfl rfl rfl) rfl ?_
  refine SatL.pu (RunV.load1 hS rfl rfl (by repeat constructor) rfl) rfl ?_
  refine SatL.nil (SatE.thenC ?_)
  refine SatC.block ?_
  refine SatC.seq ?_
  refine SatC.region ?_
  refine SatL.pu (RunV.eql rfl rfl) rfl ?_
  refine SatL.pu (RunV.assign rfl) rfl ?_
  refine SatL.nil (SatE.thenC ?_)
  refine SatC.cond rfl (fun h1 => ?_) (fun h1 => ?_)
  · (try simp only [cx, ne_eq] at h1)
    try (exfalso; (first | omega | exact h1 trivial | contradiction | (first | omega | exact h1 rfl | (simp at h1; done))); done)
    all_goals
    refine SatC.seq ?_
    refine SatC.drawnT 22 hS (hS.sel (R := [(b5, C 52 (stp y))]) (by repeat constructor)) (by kernel_rfl) ?_
    clear hS
    intro w2 hh hS hD
    refine SatD.tk 0 rfl hD (fun _ hw => RunV.move rfl) ?_
    first | refine SatD.tk 1 rfl hD (fun _ hw => RunV.fieldAddrL rfl rfl rfl) ?_ | refine SatD.tk 1 rfl hD (fun _ hw => RunV.fieldAddr rfl rfl rfl) ?_
    refine SatD.tk 2 rfl hD (fun _ hw => RunV.load1 hw rfl rfl (by repeat constructor) rfl) ?_
    first | refine SatD.tk 3 rfl hD (fun _ hw => RunV.fieldAddrL rfl rfl rfl) ?_ | refine SatD.tk 3 rfl hD (fun _ hw => RunV.fieldAddr rfl rfl rfl) ?_
    refine SatD.tk 4 rfl hD (fun _ hw => RunV.load1 hw rfl rfl (by repeat constructor) rfl) ?_
    first | refine SatD.tk 5 rfl hD (fun _ hw => RunV.fieldAddrL rfl rfl rfl) ?_ | refine SatD.tk 5 rfl hD (fun _ hw => RunV.fieldAddr rfl rfl rfl) ?_
    refine SatD.tk 6 rfl hD (fun _ hw => RunV.load1 hw rfl rfl (by repeat constructor) rfl) ?_
    first | refine SatD.tk 7 rfl hD (fun _ hw => RunV.fieldAddrL rfl rfl rfl) ?_ | refine SatD.tk 7 rfl hD (fun _ hw => RunV.fieldAddr rfl rfl rfl) ?_
    refine SatD.tk 8 rfl hD (fun _ hw => RunV.load1 hw rfl rfl (by repeat constructor) rfl) ?_
    refine SatD.tk 10 rfl hD (fun _ hw => RunV.move rfl) ?_
    first | refine SatD.tk 11 rfl hD (fun _ hw => RunV.fieldAddrL rfl rfl rfl) ?_ | refine SatD.tk 11 rfl hD (fun _ hw => RunV.fieldAddr rfl rfl rfl) ?_
    refine SatD.tk 12 rfl hD (fun _ hw => RunV.load1 hw rfl rfl (by repeat constructor) rfl) ?_
    first | refine SatD.tk 13 rfl hD (fun _ hw => RunV.fieldAddrL rfl rfl rfl) ?_ | refine SatD.tk 13 rfl hD (fun _ hw => RunV.fieldAddr rfl rfl rfl) ?_
    refine SatD.tk 14 rfl hD (fun _ hw => RunV.load1 hw rfl rfl (by repeat constructor) rfl) ?_
    first | refine SatD.tk 15 rfl hD (fun _ hw => RunV.fieldAddrL rfl rfl rfl) ?_ | refine SatD.tk 15 rfl hD (fun _ hw => RunV.fieldAddr rfl rfl rfl) ?_
    refine SatD.tk 16 rfl hD (fun _ hw => RunV.load1 hw rfl rfl (by repeat constructor) rfl) ?_
    first | refine SatD.tk 17 rfl hD (fun _ hw => RunV.fieldAddrL rfl rfl rfl) ?_ | refine SatD.tk 17 rfl hD (fun _ hw => RunV.fieldAddr rfl rfl rfl) ?_
    refine SatD.tk 18 rfl hD (fun _ hw => RunV.load1 hw rfl rfl (by repeat constructor) rfl) ?_
    refine SatD.ef 9 rfl (OpW.enter rfl rfl rfl (rfl) (iadd_any y.s y.d y.a y.ix hrel.asc hm0 hsl (by omega) (hS.ownT (A := IO b0 b most last v B) (by repeat constructor))) ?_)
    rintro r3 w3 ⟨rfl, v1, B1, hsl1, h⟩
    replace hS := hS.callT (A := IO b0 b most last v B) (by repeat constructor) h
    refine keepS (hS.sel (by repeat constructor)) (fun hD => ?_)
    refine SatD.ef 19 rfl (OpW.enter rfl rfl rfl (rfl) (radd_any y.s y.d y.a y.ix (hS.ownT (A := RB rb most last rv R) (by repeat constructor)) hrsl (by omega)) ?_)
    rintro r4 w4 ⟨e, L', last', hR, rfl, rv1, R1, hrsl1, h⟩
    replace hS := hS.callT (A := RB rb most last rv R) (by repeat constructor) h
    obtain ⟨e1, e2, e3⟩ := hrel.add hR
    have e4 := addI_len (most := most) (last := last) (s := y.s) (d := y.d) (a := y.a) (ix := y.ix) hrel.asc hlen
    rw [e1]
    rw [e3] at hS
    refine keepS (hS.sel (by repeat constructor)) (fun hD => ?_)
    refine SatD.tk 20 rfl hD (fun _ hw => RunV.eql rfl rfl) ?_
    refine SatD.tk 21 rfl hD (fun _ hw => RunV.assign rfl) ?_
    refine SatD.done 0 (by kernel_rfl) (SatE.thenC ?_)
    clear hD
    refine SatC.ret (SatE.blk_ret (SatE.then_ret ?_))
    refine SatE.ret1 rfl rfl ?_
    exact ⟨by simp, last', _, L', v1, B1, rv1, R1, ⟨e2, e4, hmost, hsl1, hrsl1⟩, hS.sel (by repeat constructor)⟩
  · (try simp only [cx, ne_eq] at h1)
    try (exfalso; (first | omega | exact h1 trivial | contradiction | (first | omega | exact h1 rfl | (simp at h1; done))); done)
    all_goals
    refine SatC.seq ?_
    refine SatC.region ?_
    refine SatL.pu (RunV.eql rfl rfl) rfl ?_
    refine SatL.pu (RunV.assign rfl) rfl ?_
    refine SatL.nil (SatE.thenC ?_)
    refine SatC.cond rfl (fun h2 => ?_) (fun h2 => ?_)
    · (try simp only [cx, ne_eq] at h2)
      try (exfalso; (first | omega | exact h2 trivial | contradiction | (first | omega | exact h2 rfl | (simp at h2; done))); done)
      all_goals
      refine SatC.seq ?_
      refine SatC.drawnT 26 hS (hS.sel (R := [(b5, C 52 (stp y))]) (by repeat constructor)) (by kernel_rfl) ?_
      clear hS
      intro w2 hh hS hD
      refine SatD.tk 0 rfl hD (fun _ hw => RunV.move rfl) ?_
      first | refine SatD.tk 1 rfl hD (fun _ hw => RunV.fieldAddrL rfl rfl rfl) ?_ | refine SatD.tk 1 rfl hD (fun _ hw => RunV.fieldAddr rfl rfl rfl) ?_
      refine SatD.tk 2 rfl hD (fun _ hw => RunV.load1 hw rfl rfl (by repeat constructor) rfl) ?_
      first | refine SatD.tk 3 rfl hD (fun _ hw => RunV.fieldAddrL rfl rfl rfl) ?_ | refine SatD.tk 3 rfl hD (fun _ hw => RunV.fieldAddr rfl rfl rfl) ?_
      refine SatD.tk 4 rfl hD (fun _ hw => RunV.load1 hw rfl rfl (by repeat constructor) rfl) ?_
      first | refine SatD.tk 5 rfl hD (fun _ hw => RunV.fieldAddrL rfl rfl rfl) ?_ | refine SatD.tk 5 rfl hD (fun _ hw => RunV.fieldAddr rfl rfl rfl) ?_
      refine SatD.tk 6 rfl hD (fun _ hw => RunV.load1 hw rfl rfl (by repeat constructor) rfl) ?_
      first | refine SatD.tk 7 rfl hD (fun _ hw => RunV.fieldAddrL rfl rfl rfl) ?_ | refine SatD.tk 7 rfl hD (fun _ hw => RunV.fieldAddr rfl rfl rfl) ?_
      refine SatD.tk 8 rfl hD (fun _ hw => RunV.load1 hw rfl rfl (by repeat constructor) rfl) ?_
      first | refine SatD.tk 9 rfl hD (fun _ hw => RunV.fieldAddrL rfl rfl rfl) ?_ | refine SatD.tk 9 rfl hD (fun _ hw => RunV.fieldAddr rfl rfl rfl) ?_
      refine SatD.tk 10 rfl hD (fun _ hw => RunV.load1 hw rfl rfl (by repeat constructor) rfl) ?_
      refine SatD.tk 12 rfl hD (fun _ hw => RunV.move rfl) ?_
      first | refine SatD.tk 13 rfl hD (fun _ hw => RunV.fieldAddrL rfl rfl rfl) ?_ | refine SatD.tk 13 rfl hD (fun _ hw => RunV.fieldAddr rfl rfl rfl) ?_
      refine SatD.tk 14 rfl hD (fun _ hw => RunV.load1 hw rfl rfl (by repeat constructor) rfl) ?_
      first | refine SatD.tk 15 rfl hD (fun _ hw => RunV.fieldAddrL rfl rfl rfl) ?_ | refine SatD.tk 15 rfl hD (fun _ hw => RunV.fieldAddr rfl rfl rfl) ?_
      refine SatD.tk 16 rfl hD (fun _ hw => RunV.load1 hw rfl rfl (by repeat constructor) rfl) ?_
      first | refine SatD.tk 17 rfl hD (fun _ hw => RunV.fieldAddrL rfl rfl rfl) ?_ | refine SatD.tk 17 rfl hD (fun _ hw => RunV.fieldAddr rfl rfl rfl) ?_
      refine SatD.tk 18 rfl hD (fun _ hw => RunV.load1 hw rfl rfl (by repeat constructor) rfl) ?_
      first | refine SatD.tk 19 rfl hD (fun _ hw => RunV.fieldAddrL rfl rfl rfl) ?_ | refine SatD.tk 19 rfl hD (fun _ hw => RunV.fieldAddr rfl rfl rfl) ?_
      refine SatD.tk 20 rfl hD (fun _ hw => RunV.load1 hw rfl rfl (by repeat constructor) rfl) ?_
      first | refine SatD.tk 21 rfl hD (fun _ hw => RunV.fieldAddrL rfl rfl rfl) ?_ | refine SatD.tk 21 rfl hD (fun _ hw => RunV.fieldAddr rfl rfl rfl) ?_
      refine SatD.tk 22 rfl hD (fun _ hw => RunV.load1 hw rfl rfl (by repeat constructor) rfl) ?_
      refine SatD.ef 11 rfl (OpW.enter rfl rfl rfl (rfl) (iturn_any y.s y.d y.a y.old y.ix hrel.asc hm0 hsl (by omega) (hS.ownT (A := IO b0 b most last v B) (by repeat constructor))) ?_)
      rintro r3 w3 ⟨rfl, v1, B1, hsl1, h⟩
      replace hS := hS.callT (A := IO b0 b most last v B) (by repeat constructor) h
      refine keepS (hS.sel (by repeat constructor)) (fun hD => ?_)
      refine SatD.ef 23 rfl (OpW.enter rfl rfl rfl (rfl) (rturn_any y.s y.d y.a y.old y.ix (hS.ownT (A := RB rb most last rv R) (by repeat constructor)) hrsl (by omega)) ?_)
      rintro r4 w4 ⟨e, L', last', hR, rfl, rv1, R1, hrsl1, h⟩
      replace hS := hS.callT (A := RB rb most last rv R) (by repeat constructor) h
      obtain ⟨e1, e2, e3⟩ := hrel.turn (most := most) hR
      have e4 := turnI_len (most := most) (last := last) (s := y.s) (d := y.d) (a := y.a) (old := y.old) (ix := y.ix) hrel.asc hlen
      rw [e1]
      rw [e3] at hS
      refine keepS (hS.sel (by repeat constructor)) (fun hD => ?_)
      refine SatD.tk 24 rfl hD (fun _ hw => RunV.eql rfl rfl) ?_
      refine SatD.tk 25 rfl hD (fun _ hw => RunV.assign rfl) ?_
      refine SatD.done 0 (by kernel_rfl) (SatE.thenC ?_)
      clear hD
      refine SatC.ret (SatE.blk_ret (SatE.then_ret ?_))
      refine SatE.ret1 rfl rfl ?_
      exact ⟨by simp, last', _, L', v1, B1, rv1, R1, ⟨e2, e4, hmost, hsl1, hrsl1⟩, hS.sel (by repeat constructor)⟩
    · (try simp only [cx, ne_eq] at h2)
      try (exfalso; (first | omega | exact h2 trivial | contradiction | (first | omega | exact h2 rfl | (simp at h2; done))); done)
      all_goals
      refine SatC.seq ?_
      refine SatC.region ?_
      refine SatL.pu (RunV.eql rfl rfl) rfl ?_
      refine SatL.pu (RunV.assign rfl) rfl ?_
      refine SatL.nil (SatE.thenC ?_)
      refine SatC.cond rfl (fun h3 => ?_) (fun h3 => ?_)
      · (try simp only [cx, ne_eq] at h3)
        try (exfalso; (first | omega | exact h3 trivial | contradiction | (first | omega | exact h3 rfl | (simp at h3; done))); done)
        all_goals
        refine SatC.seq ?_
        refine SatC.drawnT 22 hS (hS.sel (R := [(b5, C 52 (stp y))]) (by repeat constructor)) (by kernel_rfl) ?_
        clear hS
        intro w2 hh hS hD
        refine SatD.tk 0 rfl hD (fun _ hw => RunV.move rfl) ?_
        first | refine SatD.tk 1 rfl hD (fun _ hw => RunV.fieldAddrL rfl rfl rfl) ?_ | refine SatD.tk 1 rfl hD (fun _ hw => RunV.fieldAddr rfl rfl rfl) ?_
        refine SatD.tk 2 rfl hD (fun _ hw => RunV.load1 hw rfl rfl (by repeat constructor) rfl) ?_
        first | refine SatD.tk 3 rfl hD (fun _ hw => RunV.fieldAddrL rfl rfl rfl) ?_ | refine SatD.tk 3 rfl hD (fun _ hw => RunV.fieldAddr rfl rfl rfl) ?_
        refine SatD.tk 4 rfl hD (fun _ hw => RunV.load1 hw rfl rfl (by repeat constructor) rfl) ?_
        first | refine SatD.tk 5 rfl hD (fun _ hw => RunV.fieldAddrL rfl rfl rfl) ?_ | refine SatD.tk 5 rfl hD (fun _ hw => RunV.fieldAddr rfl rfl rfl) ?_
        refine SatD.tk 6 rfl hD (fun _ hw => RunV.load1 hw rfl rfl (by repeat constructor) rfl) ?_
        first | refine SatD.tk 7 rfl hD (fun _ hw => RunV.fieldAddrL rfl rfl rfl) ?_ | refine SatD.tk 7 rfl hD (fun _ hw => RunV.fieldAddr rfl rfl rfl) ?_
        refine SatD.tk 8 rfl hD (fun _ hw => RunV.load1 hw rfl rfl (by repeat constructor) rfl) ?_
        refine SatD.tk 10 rfl hD (fun _ hw => RunV.move rfl) ?_
        first | refine SatD.tk 11 rfl hD (fun _ hw => RunV.fieldAddrL rfl rfl rfl) ?_ | refine SatD.tk 11 rfl hD (fun _ hw => RunV.fieldAddr rfl rfl rfl) ?_
        refine SatD.tk 12 rfl hD (fun _ hw => RunV.load1 hw rfl rfl (by repeat constructor) rfl) ?_
        first | refine SatD.tk 13 rfl hD (fun _ hw => RunV.fieldAddrL rfl rfl rfl) ?_ | refine SatD.tk 13 rfl hD (fun _ hw => RunV.fieldAddr rfl rfl rfl) ?_
        refine SatD.tk 14 rfl hD (fun _ hw => RunV.load1 hw rfl rfl (by repeat constructor) rfl) ?_
        first | refine SatD.tk 15 rfl hD (fun _ hw => RunV.fieldAddrL rfl rfl rfl) ?_ | refine SatD.tk 15 rfl hD (fun _ hw => RunV.fieldAddr rfl rfl rfl) ?_
        refine SatD.tk 16 rfl hD (fun _ hw => RunV.load1 hw rfl rfl (by repeat constructor) rfl) ?_
        first | refine SatD.tk 17 rfl hD (fun _ hw => RunV.fieldAddrL rfl rfl rfl) ?_ | refine SatD.tk 17 rfl hD (fun _ hw => RunV.fieldAddr rfl rfl rfl) ?_
        refine SatD.tk 18 rfl hD (fun _ hw => RunV.load1 hw rfl rfl (by repeat constructor) rfl) ?_
        refine SatD.ef 9 rfl (OpW.enter rfl rfl rfl (rfl) (idrop_any y.s y.d y.old y.ix hrel.asc hm0 hsl (by omega) (hS.ownT (A := IO b0 b most last v B) (by repeat constructor))) ?_)
        rintro r3 w3 ⟨rfl, v1, B1, hsl1, h⟩
        replace hS := hS.callT (A := IO b0 b most last v B) (by repeat constructor) h
        refine keepS (hS.sel (by repeat constructor)) (fun hD => ?_)
        refine SatD.ef 19 rfl (OpW.enter rfl rfl rfl (rfl) (rdrop_any y.s y.d y.old y.ix (hS.ownT (A := RB rb most last rv R) (by repeat constructor)) hrsl (by omega)) ?_)
        rintro r4 w4 ⟨e, L', last', hR, rfl, rv1, R1, hrsl1, h⟩
        replace hS := hS.callT (A := RB rb most last rv R) (by repeat constructor) h
        obtain ⟨e1, e2, e3⟩ := hrel.drop hR
        have e4 := dropI_len (most := most) (last := last) (s := y.s) (d := y.d) (old := y.old) (ix := y.ix) hlen
        rw [e1]
        rw [e3] at hS
        refine keepS (hS.sel (by repeat constructor)) (fun hD => ?_)
        refine SatD.tk 20 rfl hD (fun _ hw => RunV.eql rfl rfl) ?_
        refine SatD.tk 21 rfl hD (fun _ hw => RunV.assign rfl) ?_
        refine SatD.done 0 (by kernel_rfl) (SatE.thenC ?_)
        clear hD
        refine SatC.ret (SatE.blk_ret (SatE.then_ret ?_))
        refine SatE.ret1 rfl rfl ?_
        exact ⟨by simp, last', _, L', v1, B1, rv1, R1, ⟨e2, e4, hmost, hsl1, hrsl1⟩, hS.sel (by repeat constructor)⟩
      · (try simp only [cx, ne_eq] at h3)
        try (exfalso; (first | omega | exact h3 trivial | contradiction | (first | omega | exact h3 rfl | (simp at h3; done))); done)
        all_goals
        refine SatC.seq ?_
        refine SatC.region ?_
        refine SatL.pu (RunV.eql rfl rfl) rfl ?_
        refine SatL.pu (RunV.assign rfl) rfl ?_
        refine SatL.nil (SatE.thenC ?_)
        refine SatC.cond rfl (fun h4 => ?_) (fun h4 => ?_)
        · (try simp only [cx, ne_eq] at h4)
          try (exfalso; (first | omega | exact h4 trivial | contradiction | (first | omega | exact h4 rfl | (simp at h4; done))); done)
          all_goals
          refine SatC.seq ?_
          refine SatC.region ?_
          refine SatL.pu (RunV.move rfl) rfl ?_
          first | refine SatL.pu (RunV.fieldAddrL rfl rfl rfl) rfl ?_ | refine SatL.pu (RunV.fieldAddr rfl rfl rfl) rfl ?_
          refine SatL.pu (RunV.load1 hS rfl rfl (by repeat constructor) rfl) rfl ?_
          first | refine SatL.pu (RunV.fieldAddrL rfl rfl rfl) rfl ?_ | refine SatL.pu (RunV.fieldAddr rfl rfl rfl) rfl ?_
          refine SatL.pu (RunV.load1 hS rfl rfl (by repeat constructor) rfl) rfl ?_
          first | refine SatL.pu (RunV.fieldAddrL rfl rfl rfl) rfl ?_ | refine SatL.pu (RunV.fieldAddr rfl rfl rfl) rfl ?_
          refine SatL.pu (RunV.load1 hS rfl rfl (by repeat constructor) rfl) rfl ?_
          refine SatL.op rfl (OpW.enter rfl rfl rfl (rfl) (idecide_any y.s y.d y.a hm0 hsl (by omega) (hS.ownT (A := IO b0 b most last v B) (by repeat constructor))) ?_)
          rintro r2 w2 ⟨ds, at_, hli, hb, rfl, h⟩
          replace hS := St.callN hS h
          rw [hrel.list hli] at hb ⊢
          refine SatL.pu (RunV.move rfl) rfl ?_
          refine SatL.pu (RunV.extract rfl rfl) rfl ?_
          refine SatL.pu (RunV.extract rfl rfl) rfl ?_
          refine SatL.pu (RunV.assign rfl) rfl ?_
          refine SatL.pu (RunV.assign rfl) rfl ?_
          refine SatL.nil (SatE.thenC ?_)
          refine SatC.seq ?_
          refine SatC.weak (e' := [(1, _), (5, _), (6, _), (7, _), (8, _)]) (by repeat constructor) ?_
          refine SatC.drawnT 16 hS (hS) (by kernel_rfl) ?_
          clear hS
          intro w3 hh hS hD
          refine SatD.tk 0 rfl hD (fun _ hw => RunV.move rfl) ?_
          first | refine SatD.tk 1 rfl hD (fun _ hw => RunV.nil_ptr rfl) ?_ | refine SatD.tk 1 rfl hD (fun _ hw => RunV.nil_func rfl) ?_ | refine SatD.tk 1 rfl hD (fun _ hw => RunV.nil_yield rfl) ?_
          first | refine SatD.tk 2 rfl hD (fun _ hw => RunV.fieldAddrL rfl rfl rfl) ?_ | refine SatD.tk 2 rfl hD (fun _ hw => RunV.fieldAddr rfl rfl rfl) ?_
          refine SatD.tk 3 rfl hD (fun _ hw => RunV.load1 hw rfl rfl (by repeat constructor) rfl) ?_
          first | refine SatD.tk 4 rfl hD (fun _ hw => RunV.fieldAddrL rfl rfl rfl) ?_ | refine SatD.tk 4 rfl hD (fun _ hw => RunV.fieldAddr rfl rfl rfl) ?_
          refine SatD.tk 5 rfl hD (fun _ hw => RunV.load1 hw rfl rfl (by repeat constructor) rfl) ?_
          first | refine SatD.tk 6 rfl hD (fun _ hw => RunV.fieldAddrL rfl rfl rfl) ?_ | refine SatD.tk 6 rfl hD (fun _ hw => RunV.fieldAddr rfl rfl rfl) ?_
          refine SatD.tk 7 rfl hD (fun _ hw => RunV.load1 hw rfl rfl (by repeat constructor) rfl) ?_
          first | refine SatD.tk 8 rfl hD (fun _ hw => RunV.fieldAddrL rfl rfl rfl) ?_ | refine SatD.tk 8 rfl hD (fun _ hw => RunV.fieldAddr rfl rfl rfl) ?_
          refine SatD.tk 9 rfl hD (fun _ hw => RunV.load1 hw rfl rfl (by repeat constructor) rfl) ?_
          refine SatD.ef 10 rfl (OpW.enter rfl rfl rfl (rfl) (rchoose_c y.a _ (hrsl.row hS (by repeat constructor) (by rw [List.length_map]; omega))) ?_)
          rintro r4 w4 ⟨at2, hb2, rfl, h⟩
          replace hS := St.callN hS h
          obtain rfl := best_uniq hb hb2
          refine keepS (hS.sel (by repeat constructor)) (fun hD => ?_)
          refine SatD.tk 11 rfl hD (fun _ hw => RunV.move rfl) ?_
          refine SatD.tk 12 rfl hD (fun _ hw => RunV.extract rfl rfl) ?_
          refine SatD.tk 13 rfl hD (fun _ hw => RunV.extract rfl rfl) ?_
          refine SatD.tk 14 rfl hD (fun _ hw => RunV.assign rfl) ?_
          refine SatD.tk 15 rfl hD (fun _ hw => RunV.assign rfl) ?_
          refine SatD.done 0 (by kernel_rfl) (SatE.thenC ?_)
          clear hD
          refine SatC.seq ?_
          refine SatC.weak (e' := [(6, _), (7, _), (8, _), (9, _), (10, _)]) (by repeat constructor) ?_
          refine SatC.region ?_
          refine SatL.pu (RunV.move rfl) rfl ?_
          refine SatL.pu (RunV.move rfl) rfl ?_
          refine SatL.pu (RunV.beql rfl rfl rfl) rfl ?_
          refine SatL.pu (RunV.move rfl) rfl ?_
          refine SatL.guard rfl rfl rfl (fun h5 => ?_) (fun h5 => ?_)
          · (try simp only [cx, ne_eq] at h5)
            try (exfalso; (first | omega | exact h5 trivial | contradiction | (first | omega | exact h5 rfl | (simp at h5; done))); done)
            all_goals
            refine SatL.pu (RunV.move rfl) rfl ?_
            refine SatL.guard_y rfl rfl ?_
            refine SatL.pu (RunV.move rfl) rfl ?_
            refine SatL.guard_y rfl rfl ?_
            refine SatL.pu (RunV.geq rfl rfl) rfl ?_
            refine SatL.guard_y rfl rfl ?_
            refine SatL.pu (RunV.beql rfl rfl rfl) rfl ?_
            refine SatL.pu (RunV.pick_t rfl rfl) rfl ?_
            refine SatL.pu (RunV.assign rfl) rfl ?_
            refine SatL.nil (SatE.thenC ?_)
            refine SatC.ret (SatE.blk_ret (SatE.then_ret ?_))
            refine SatE.ret1 rfl rfl ?_
            exact ⟨by simp, last, rows, L, v, B, rv, R, hp0, hS.sel (by repeat constructor)⟩
          · (try simp only [cx, ne_eq] at h5)
            try (exfalso; (first | omega | exact h5 trivial | contradiction | (first | omega | exact h5 rfl | (simp at h5; done))); done)
            all_goals
            refine SatL.guard_n rfl rfl rfl rfl ?_
            refine SatL.guard_n rfl rfl rfl rfl ?_
            refine SatL.guard_n rfl rfl rfl rfl ?_
            refine SatL.pu (RunV.pick_f rfl rfl) rfl ?_
            refine SatL.pu (RunV.assign rfl) rfl ?_
            refine SatL.nil (SatE.thenC ?_)
            refine SatC.ret (SatE.blk_ret (SatE.then_ret ?_))
            refine SatE.ret1 rfl rfl ?_
            exact ⟨rfl, last, rows, L, v, B, rv, R, hp0, hS.sel (by repeat constructor)⟩
        · (try simp only [cx, ne_eq] at h4)
          try (exfalso; (first | omega | exact h4 trivial | contradiction | (first | omega | exact h4 rfl | (simp at h4; done))); done)
          all_goals
          refine SatC.seq ?_
          refine SatC.region ?_
          refine SatL.pu (RunV.eql rfl rfl) rfl ?_
          refine SatL.pu (RunV.assign rfl) rfl ?_
          refine SatL.nil (SatE.thenC ?_)
          refine SatC.weak (e' := [(0, _), (1, _), (5, _), (6, _), (123, _)]) (by repeat constructor) ?_
          refine SatC.cond rfl (fun h5 => ?_) (fun h5 => ?_)
          · (try simp only [cx, ne_eq] at h5)
            try (exfalso; (first | omega | exact h5 trivial | contradiction | (first | omega | exact h5 rfl | (simp at h5; done))); done)
            all_goals
            refine SatC.seq ?_
            refine SatC.region ?_
            refine SatL.pu (RunV.move rfl) rfl ?_
            refine SatL.op rfl (OpW.enter rfl rfl rfl (rfl) (icopy_any hm0 hsl (by omega) (hS.ownT (A := IO b0 b most last v B) (by repeat constructor))) ?_)
            rintro r2 w2 ⟨c0, c, cv, CB, rfl, hslc, h⟩
            replace hS := hS.call0 h
            refine SatL.pu (RunV.assign rfl) rfl ?_
            refine SatL.nil (SatE.thenC ?_)
            refine SatC.seq ?_
            refine SatC.seq ?_
            refine SatC.drawnT 17 hS (hS.sel (R := [(rb, C 55 (rt most rv last))]) (by repeat constructor)) (by kernel_rfl) ?_
            clear hS
            intro w3 hh hS hD
            refine SatD.tk 0 rfl hD (fun _ hw => RunV.move rfl) ?_
            refine SatD.tk 2 rfl hD (fun _ hw => RunV.move rfl) ?_
            first | refine SatD.tk 3 rfl hD (fun _ hw => RunV.nil_ptr rfl) ?_ | refine SatD.tk 3 rfl hD (fun _ hw => RunV.nil_func rfl) ?_ | refine SatD.tk 3 rfl hD (fun _ hw => RunV.nil_yield rfl) ?_
            first | refine SatD.tk 4 rfl hD (fun _ hw => RunV.fieldAddrL rfl rfl rfl) ?_ | refine SatD.tk 4 rfl hD (fun _ hw => RunV.fieldAddr rfl rfl rfl) ?_
            refine SatD.tk 5 rfl hD (fun _ hw => RunV.load1 hw rfl rfl (by repeat constructor) rfl) ?_
            refine SatD.ef 1 rfl (OpW.enter rfl rfl rfl (rfl) (ilist_any hm0 hslc (by omega) (hS.ownT (A := IO c0 c most last cv CB) (by repeat constructor))) ?_)
            rintro r4 w4 ⟨ds, B3, hq1, hq2, hsl3, h⟩
            replace hS := hS.call0 h
            rw [hrel.list ⟨hq1, hq2⟩] at hsl3
            refine keepS (hS.sel (by repeat constructor)) (fun hD => ?_)
            refine SatD.ef 6 rfl (OpW.enter rfl rfl rfl (rfl) (same_any _ _ L L _ (hsl3.row hS (by repeat constructor) (by rw [List.length_map]; omega)) (hrsl.row hS (by repeat constructor) (by rw [List.length_map]; omega))) ?_)
            rintro r5 w5 ⟨rfl, h⟩
            replace hS := St.callN hS h
            refine keepS (hS.sel (by repeat constructor)) (fun hD => ?_)
            refine SatD.tk 7 rfl hD (fun _ hw => RunV.not rfl) ?_
            refine SatD.tk 8 rfl hD (fun _ hw => RunV.move rfl) ?_
            refine SatD.ways 135 rfl (fun h6 => ?_) (fun h6 => ?_)
            · (try simp only [cx, ne_eq] at h6)
              try (exfalso; (first | omega | exact h6 trivial | contradiction | (first | omega | exact h6 rfl | (simp at h6; done))); done)
              all_goals
              refine SatD.sk 9 rfl [] hD ?_
              refine SatD.sk 10 rfl [] hD ?_
              refine SatD.sk 11 rfl [] hD ?_
              refine SatD.sk 12 rfl [] hD ?_
              refine SatD.sk 13 rfl [] hD ?_
              refine SatD.sk 14 rfl [] hD ?_
              refine SatD.sk 15 rfl [] hD ?_
              refine SatD.tk 16 rfl hD (fun _ hw => RunV.pick_t rfl rfl) ?_
              refine SatD.done 0 (by kernel_rfl) (SatE.thenC ?_)
              clear hD
              refine SatC.weak (e' := [(5, _), (6, _), (11, _), (143, _)]) (by repeat constructor) ?_
              refine SatC.cond_t rfl ?_
              refine SatC.seq ?_
              refine SatC.region ?_
              refine SatL.pu (RunV.assign rfl) rfl ?_
              refine SatL.nil (SatE.thenC ?_)
              refine SatC.ret (SatE.then_ret (SatE.blk_ret (SatE.then_ret ?_)))
              refine SatE.ret1 rfl rfl ?_
              exact ⟨rfl, last, rows, L, v, B, rv, R, hp0, hS.sel (by repeat constructor)⟩
            · (try simp only [cx, ne_eq] at h6)
              try (exfalso; (first | omega | exact h6 trivial | contradiction | (first | omega | exact h6 rfl | (simp at h6; done))); done)
              all_goals
              refine SatD.tk 9 rfl hD (fun _ hw => RunV.move rfl) ?_
              refine SatD.tk 11 rfl hD (fun _ hw => RunV.move rfl) ?_
              first | refine SatD.tk 12 rfl hD (fun _ hw => RunV.nil_ptr rfl) ?_ | refine SatD.tk 12 rfl hD (fun _ hw => RunV.nil_func rfl) ?_ | refine SatD.tk 12 rfl hD (fun _ hw => RunV.nil_yield rfl) ?_
              first | refine SatD.tk 13 rfl hD (fun _ hw => RunV.fieldAddrL rfl rfl rfl) ?_ | refine SatD.tk 13 rfl hD (fun _ hw => RunV.fieldAddr rfl rfl rfl) ?_
              refine SatD.tk 14 rfl hD (fun _ hw => RunV.load1 hw rfl rfl (by repeat constructor) rfl) ?_
              refine SatD.ef 10 rfl (OpW.enter rfl rfl rfl (rfl) (ilast_any hm0 (hS.ownT (A := IO c0 c most last cv CB) (by repeat constructor))) ?_)
              rintro r6 w6 ⟨rfl, h⟩
              replace hS := St.callN hS h
              refine keepS (hS.sel (by repeat constructor)) (fun hD => ?_)
              refine SatD.tk 15 rfl hD (fun _ hw => RunV.neq rfl rfl) ?_
              refine SatD.tk 16 rfl hD (fun _ hw => RunV.pick_f rfl rfl) ?_
              refine SatD.done 0 (by kernel_rfl) (SatE.thenC ?_)
              clear hD
              refine SatC.weak (e' := [(5, _), (6, _), (11, _), (143, _)]) (by repeat constructor) ?_
              refine SatC.cond rfl (fun h7 => ?_) (fun h7 => ?_)
              · (try simp only [cx, ne_eq] at h7)
                try (exfalso; (first | omega | exact h7 trivial | contradiction | (first | omega | exact h7 rfl | (simp at h7; done))); done)
                all_goals
                refine SatC.seq ?_
                refine SatC.region ?_
                refine SatL.pu (RunV.assign rfl) rfl ?_
                refine SatL.nil (SatE.thenC ?_)
                refine SatC.ret (SatE.then_ret (SatE.blk_ret (SatE.then_ret ?_)))
                refine SatE.ret1 rfl rfl ?_
                exact ⟨rfl, last, rows, L, v, B, rv, R, hp0, hS.sel (by repeat constructor)⟩
              · (try simp only [cx, ne_eq] at h7)
                try (exfalso; (first | omega | exact h7 trivial | contradiction | (first | omega | exact h7 rfl | (simp at h7; done))); done)
                all_goals
                refine SatC.skip (SatE.thenC ?_)
                refine SatC.seq ?_
                refine SatC.region ?_
                refine SatL.pu (RunV.move rfl) rfl ?_
                first | refine SatL.pu (RunV.fieldAddrL rfl rfl rfl) rfl ?_ | refine SatL.pu (RunV.fieldAddr rfl rfl rfl) rfl ?_
                refine SatL.pu (RunV.load1 hS rfl rfl (by repeat constructor) rfl) rfl ?_
                first | refine SatL.pu (RunV.fieldAddrL rfl rfl rfl) rfl ?_ | refine SatL.pu (RunV.fieldAddr rfl rfl rfl) rfl ?_
                refine SatL.pu (RunV.load1 hS rfl rfl (by repeat constructor) rfl) rfl ?_
                first | refine SatL.pu (RunV.fieldAddrL rfl rfl rfl) rfl ?_ | refine SatL.pu (RunV.fieldAddr rfl rfl rfl) rfl ?_
                refine SatL.pu (RunV.load1 hS rfl rfl (by repeat constructor) rfl) rfl ?_
                refine SatL.op rfl (OpW.enter rfl rfl rfl (rfl) (iadd_any y.s y.d y.a 99 hrel.asc hm0 hslc (by omega) (hS.ownT (A := IO c0 c most last cv CB) (by repeat constructor))) ?_)
                rintro r7 w7 ⟨rfl, cv1, CB1, hslc1, h⟩
                replace hS := hS.callT (A := IO c0 c most last cv CB) (by repeat constructor) h
                refine SatL.nil (SatE.thenC ?_)
                have ha3 := asc_addI (most := most) (last := last) (s := y.s) (d := y.d) (a := y.a) (ix := 99) hrel.asc
                have hl3 := addI_len (most := most) (last := last) (s := y.s) (d := y.d) (a := y.a) (ix := 99) hrel.asc hlen
                refine SatC.region ?_
                refine SatL.pu (RunV.move rfl) rfl ?_
                first | refine SatL.pu (RunV.fieldAddrL rfl rfl rfl) rfl ?_ | refine SatL.pu (RunV.fieldAddr rfl rfl rfl) rfl ?_
                refine SatL.pu (RunV.load1 hS rfl rfl (by repeat constructor) rfl) rfl ?_
                first | refine SatL.pu (RunV.fieldAddrL rfl rfl rfl) rfl ?_ | refine SatL.pu (RunV.fieldAddr rfl rfl rfl) rfl ?_
                refine SatL.pu (RunV.load1 hS rfl rfl (by repeat constructor) rfl) rfl ?_
                refine SatL.op rfl (OpW.enter rfl rfl rfl (rfl) (idrop_any y.s y.d 0 18446744073709551615 ha3 hm0 hslc1 (by omega) (hS.ownT (A := IO c0 c most (addI most last rows y.s y.d y.a 99).2.2 cv1 CB1) (by repeat constructor))) ?_)
                rintro r8 w8 ⟨rfl, cv2, CB2, hslc2, h⟩
                replace hS := hS.callT (A := IO c0 c most (addI most last rows y.s y.d y.a 99).2.2 cv1 CB1) (by repeat constructor) h
                refine SatL.nil (SatE.blk_normal (SatE.thenC ?_))
                refine SatC.seq ?_
                refine SatC.weak (e' := [(6, _)]) (by repeat constructor) ?_
                refine SatC.region ?_
                refine SatL.pu (RunV.assign rfl) rfl ?_
                refine SatL.nil (SatE.thenC ?_)
                refine SatC.ret ?_
                refine SatE.ret1 rfl rfl ?_
                exact ⟨rfl, last, rows, L, v, B, rv, R, hp0, hS.sel (by repeat constructor)⟩
          · (try simp only [cx, ne_eq] at h5)
            try (exfalso; (first | omega | exact h5 trivial | contradiction | (first | omega | exact h5 rfl | (simp at h5; done))); done)
            all_goals
            refine SatC.skip (SatE.blk_normal (SatE.thenC ?_))
            refine SatC.seq ?_
            refine SatC.region ?_
            refine SatL.pu (RunV.assign rfl) rfl ?_
            refine SatL.nil (SatE.thenC ?_)
            refine SatC.ret ?_
            refine SatE.ret1 rfl rfl ?_
            exact ⟨rfl, last, rows, L, v, B, rv, R, hp0, hS.sel (by repeat constructor)⟩
end
end Go.Proofs.Ytogohendjjgbiaa
