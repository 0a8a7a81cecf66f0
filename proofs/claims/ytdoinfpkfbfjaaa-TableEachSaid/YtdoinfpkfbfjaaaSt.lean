/- A step of chapter 15's laws: both tables answer the same, and stay the same. -/
import Derived.Test.YtdoinfpkfbfjaaaTi
set_option linter.unusedSimpArgs false
set_option linter.unusedVariables false
set_option maxRecDepth 100000
set_option maxHeartbeats 8000000
namespace Go.Proofs.Ytdoinfpkfbfjaaa
open Go.RowKit
section
variable {b rb : Nat} {most last : Int} {v rv' : Value} {rows : List Tr} {B RB : List (Nat × Obj)} {w : World}
theorem one_row {T k b : Nat} {cs : List Value} (hk : cs.length = k) : Sl T k (.slice (some ⟨b, 0, none⟩) 1 1) [cs] [(b, C T cs)] := by
  subst hk
  exact Sl.own (rows := [cs]) (cap := 1) (by simp) (by simp) (by simp) (by decide) (by simp)
theorem step_any (y : Sp) (hy : y.2.1.length ≤ 9223372036854775807) (ha : Asc rows) (hk : KeyB rows) (hlen : (rows.length : Int) ≤ most) (hmost : 1 ≤ most ∧ most ≤ 64) (hsl : Sl 30 4 v (rows.map tr) B) (hsr : Sl 48 4 rv' (rows.map tr) RB)
    (hown : Own w (((b, C 58 (tc most v last)) :: B) ++ ((rb, C 54 (rt most rv' last)) :: RB))) :
    Ret Try.prog 15 #[.pointer (some ⟨b, 0, none⟩), .pointer (some ⟨rb, 0, none⟩), .agg (spr y).toArray] w fun u w' => u = .bool true ∧
      ∃ v2 B2 rv2 RB2, Sl 30 4 v2 ((stepS most last rows y).1.map tr) B2 ∧ Sl 48 4 rv2 ((stepS most last rows y).1.map tr) RB2 ∧
        St w ((((b, C 58 (tc most v last)) :: B) ++ ((rb, C 54 (rt most rv' last)) :: RB)).map Prod.fst) (((b, C 58 (tc most v2 (stepS most last rows y).2)) :: B2) ++ ((rb, C 54 (rt most rv2 (stepS most last rows y).2)) :: RB2)) w' := by
  have hS := St.init hown
  generalize hX : (((b, C 58 (tc most v last)) :: B) ++ ((rb, C 54 (rt most rv' last)) :: RB)).map Prod.fst = X at hS ⊢
  rw [List.cons_append] at hS
  have hl1 : rows.length ≤ 100 := by omega
  have hm0 : ¬ most = 0 := by omega
  have hln : (rows.map tr).length ≤ 9223372036854775807 := by rw [List.length_map]; omega
  have hlu : ((undF y.2.1 rows).map tr).length ≤ 9223372036854775807 := by rw [List.length_map]; have := List.length_filter_le (fun (r : Tr) => under r.k y.2.1) rows; unfold undF; omega
  refine Ret.enter Try.func15 Try.ntmps15 rfl rfl ?_
  simp only [argEnv, Nat.reduceAdd]
  generalize hA : stepS most last rows y = A
  unfold stepS at hA
  refine SatC.seq ?_
  refine SatC.region ?_
  refine SatL.op rfl (OpW.box hS rfl rfl (by repeat constructor) ?_)
  clear hS
  intro b5 w1 _ hS
  refine SatL.pu (RunV.assign rfl) rfl ?_
  refine SatL.nil (SatE.thenC ?_)
  refine SatC.seq ?_
  refine SatC.seq ?_
  refine SatC.region ?_
  first | refine SatL.pu (RunV.fieldAddrL rfl rfl rfl) rfl ?_ | refine SatL.pu (RunV.fieldAddr rfl rfl rfl) rfl ?_
  refine SatL.pu (RunV.load1 hS rfl rfl (by repeat constructor) rfl) rfl ?_
  refine SatL.nil (SatE.thenC ?_)
  refine SatC.block ?_
  refine SatC.seq ?_
  refine SatC.region ?_
  refine SatL.pu (RunV.eql rfl rfl) rfl ?_
  refine SatL.pu (RunV.assign rfl) rfl ?_
  refine SatL.nil (SatE.thenC ?_)
  refine SatC.cond rfl (fun h1 => ?_) (fun h1 => ?_)
  · (try simp only [cx, ne_eq] at h1)
    try (exfalso; (first | omega | exact h1 trivial | contradiction | exact h1 rfl); done)
    all_goals
    refine SatC.seq ?_
    refine SatC.region ?_
    refine SatL.pu (RunV.move rfl) rfl ?_
    first | refine SatL.pu (RunV.fieldAddrL rfl rfl rfl) rfl ?_ | refine SatL.pu (RunV.fieldAddr rfl rfl rfl) rfl ?_
    refine SatL.pu (RunV.load1 hS rfl rfl (by repeat constructor) rfl) rfl ?_
    first | refine SatL.pu (RunV.fieldAddrL rfl rfl rfl) rfl ?_ | refine SatL.pu (RunV.fieldAddr rfl rfl rfl) rfl ?_
    refine SatL.pu (RunV.load1 hS rfl rfl (by repeat constructor) rfl) rfl ?_
    first | refine SatL.pu (RunV.fieldAddrL rfl rfl rfl) rfl ?_ | refine SatL.pu (RunV.fieldAddr rfl rfl rfl) rfl ?_
    refine SatL.pu (RunV.load1 hS rfl rfl (by repeat constructor) rfl) rfl ?_
    refine SatL.op rfl (OpW.enter rfl rfl rfl (rfl) (put_tab y.2.1 y.2.2.1 y.2.2.2 ha hsl (by omega) (hS.ownT (A := (b, C 58 (tc most v last)) :: B) (by repeat constructor)) hm0) ?_)
    rintro r2 w2 ⟨rfl, v2, B2, hsl2, h⟩
    replace hS := hS.callT (A := (b, C 58 (tc most v last)) :: B) (by repeat constructor) h
    refine SatL.pu (RunV.move rfl) rfl ?_
    refine SatL.pu (RunV.extract rfl rfl) rfl ?_
    refine SatL.pu (RunV.extract rfl rfl) rfl ?_
    refine SatL.op rfl (OpW.alloc hS rfl rfl (by repeat constructor) ?_)
    clear hS
    intro b7 w3 _ hS
    refine SatL.op rfl (OpW.store hS rfl rfl (by repeat constructor) (by repeat constructor) (by repeat constructor) rfl rfl ?_)
    clear hS
    intro w4 hS
    refine SatL.pu (RunV.assign rfl) rfl ?_
    refine SatL.nil (SatE.thenC ?_)
    refine SatC.seq ?_
    refine SatC.weak (e' := [(1, _), (5, _), (6, _), (7, _), (8, _)]) (by repeat constructor) ?_
    refine SatC.region ?_
    refine SatL.pu (RunV.move rfl) rfl ?_
    first | refine SatL.pu (RunV.fieldAddrL rfl rfl rfl) rfl ?_ | refine SatL.pu (RunV.fieldAddr rfl rfl rfl) rfl ?_
    refine SatL.pu (RunV.load1 hS rfl rfl (by repeat constructor) rfl) rfl ?_
    first | refine SatL.pu (RunV.fieldAddrL rfl rfl rfl) rfl ?_ | refine SatL.pu (RunV.fieldAddr rfl rfl rfl) rfl ?_
    refine SatL.pu (RunV.load1 hS rfl rfl (by repeat constructor) rfl) rfl ?_
    first | refine SatL.pu (RunV.fieldAddrL rfl rfl rfl) rfl ?_ | refine SatL.pu (RunV.fieldAddr rfl rfl rfl) rfl ?_
    refine SatL.pu (RunV.load1 hS rfl rfl (by repeat constructor) rfl) rfl ?_
    refine SatL.op rfl (OpW.enter rfl rfl rfl (rfl) (put_ref y.2.1 y.2.2.1 y.2.2.2 (hS.ownT (A := (rb, C 54 (rt most rv' last)) :: RB) (by repeat constructor)) hsr hl1) ?_)
    rintro r5 w5 ⟨rfl, rv2, RB2, hsr2, h⟩
    replace hS := hS.callT (A := (rb, C 54 (rt most rv' last)) :: RB) (by repeat constructor) h
    refine SatL.pu (RunV.move rfl) rfl ?_
    refine SatL.pu (RunV.extract rfl rfl) rfl ?_
    refine SatL.pu (RunV.extract rfl rfl) rfl ?_
    refine SatL.op rfl (OpW.alloc hS rfl rfl (by repeat constructor) ?_)
    clear hS
    intro b9 w6 _ hS
    refine SatL.op rfl (OpW.store hS rfl rfl (by repeat constructor) (by repeat constructor) (by repeat constructor) rfl rfl ?_)
    clear hS
    intro w7 hS
    refine SatL.pu (RunV.assign rfl) rfl ?_
    refine SatL.nil (SatE.thenC ?_)
    refine SatC.seq ?_
    refine SatC.weak (e' := [(6, _), (7, _), (8, _), (9, _), (10, _)]) (by repeat constructor) ?_
    refine SatC.region ?_
    refine SatL.pu (RunV.move rfl) rfl ?_
    refine SatL.pu (RunV.move rfl) rfl ?_
    refine SatL.pu (RunV.eql rfl rfl) rfl ?_
    refine SatL.pu (RunV.move rfl) rfl ?_
    refine SatL.guard rfl rfl rfl (fun h2 => ?_) (fun h2 => ?_)
    · (try simp only [cx, ne_eq] at h2)
      try (exfalso; (first | omega | exact h2 trivial | contradiction | exact h2 rfl); done)
      all_goals
      refine SatL.pu (RunV.loadN hS rfl rfl (by repeat constructor) (by repeat constructor)) rfl ?_
      refine SatL.guard_y rfl rfl ?_
      refine SatL.op rfl (OpW.buildSlice1 hS rfl rfl rfl rfl rfl (by repeat constructor) rfl rfl rfl ?_)
      clear hS
      intro b43 w8 _ hS
      refine SatL.guard_y rfl rfl ?_
      refine SatL.pu (RunV.loadN hS rfl rfl (by repeat constructor) (by repeat constructor)) rfl ?_
      refine SatL.guard_y rfl rfl ?_
      refine SatL.op rfl (OpW.buildSlice1 hS rfl rfl rfl rfl rfl (by repeat constructor) rfl rfl rfl ?_)
      clear hS
      intro b45 w9 _ hS
      refine SatL.guard_y rfl rfl ?_
      refine SatL.op rfl (OpW.enter rfl rfl rfl (rfl) ((by first | exact same_any _ _ [(putS most last rows y.2.1 y.2.2.1 y.2.2.2).1] [(putS most last rows y.2.1 y.2.2.1 y.2.2.2).1] _ ((one_row rfl).row hS (by repeat constructor) (Nat.le_of_ble_eq_true rfl)) ((one_row rfl).row hS (by repeat constructor) (Nat.le_of_ble_eq_true rfl)) | exact same_any _ _ (undF y.2.1 rows) (undF y.2.1 rows) _ (hslu.row hS (by repeat constructor) hlu) (hsru.row hS (by repeat constructor) hlu) | exact same_any _ _ rows rows _ (hsl3.row hS (by repeat constructor) hln) (hsr.row hS (by repeat constructor) hln))) ?_)
      rintro r10 w10 ⟨rfl, h⟩
      replace hS := St.callN hS h
      refine SatL.pu (RunV.pick_t rfl rfl) rfl ?_
      refine SatL.pu (RunV.assign rfl) rfl ?_
      refine SatL.nil (SatE.thenC ?_)
      refine SatC.ret (SatE.blk_ret (SatE.then_ret ?_))
      refine SatE.ret1 rfl rfl ?_
      rw [if_pos (by assumption)] at hA
      subst hA
      exact ⟨by simp, v2, B2, rv2, RB2, hsl2, hsr2, hS.sel (by repeat constructor)⟩
    · (try simp only [cx, ne_eq] at h2)
      try (exfalso; (first | omega | exact h2 trivial | contradiction | exact h2 rfl); done)
      all_goals
      refine SatL.guard_n rfl rfl rfl rfl ?_
      refine SatL.guard_n rfl rfl rfl rfl ?_
      refine SatL.guard_n rfl rfl rfl rfl ?_
      refine SatL.guard_n rfl rfl rfl rfl ?_
      refine SatL.pu (RunV.pick_f rfl rfl) rfl ?_
      refine SatL.pu (RunV.assign rfl) rfl ?_
      refine SatL.nil (SatE.thenC ?_)
      refine SatC.ret (SatE.blk_ret (SatE.then_ret ?_))
      refine SatE.ret1 rfl rfl ?_
      rw [if_neg (by omega), if_pos (by assumption)] at hA
      subst hA
      exact ⟨by simp, v2, B2, rv2, RB2, hsl2, hsr2, hS.sel (by repeat constructor)⟩
  · (try simp only [cx, ne_eq] at h1)
    try (exfalso; (first | omega | exact h1 trivial | contradiction | exact h1 rfl); done)
    all_goals
    refine SatC.seq ?_
    refine SatC.region ?_
    refine SatL.pu (RunV.eql rfl rfl) rfl ?_
    refine SatL.pu (RunV.assign rfl) rfl ?_
    refine SatL.nil (SatE.thenC ?_)
    refine SatC.cond rfl (fun h2 => ?_) (fun h2 => ?_)
    · (try simp only [cx, ne_eq] at h2)
      try (exfalso; (first | omega | exact h2 trivial | contradiction | exact h2 rfl); done)
      all_goals
      refine SatC.seq ?_
      refine SatC.drawnT 14 hS (hS.sel (R := [(b5, C 27 (spr y))]) (by repeat constructor)) (by kernel_rfl) ?_
      clear hS
      intro w2 hh hS hD
      refine SatD.tk 0 rfl hD (fun _ hw => RunV.move rfl) ?_
      first | refine SatD.tk 1 rfl hD (fun _ hw => RunV.fieldAddrL rfl rfl rfl) ?_ | refine SatD.tk 1 rfl hD (fun _ hw => RunV.fieldAddr rfl rfl rfl) ?_
      refine SatD.tk 2 rfl hD (fun _ hw => RunV.load1 hw rfl rfl (by repeat constructor) rfl) ?_
      first | refine SatD.tk 3 rfl hD (fun _ hw => RunV.fieldAddrL rfl rfl rfl) ?_ | refine SatD.tk 3 rfl hD (fun _ hw => RunV.fieldAddr rfl rfl rfl) ?_
      refine SatD.tk 4 rfl hD (fun _ hw => RunV.load1 hw rfl rfl (by repeat constructor) rfl) ?_
      refine SatD.tk 6 rfl hD (fun _ hw => RunV.move rfl) ?_
      first | refine SatD.tk 7 rfl hD (fun _ hw => RunV.fieldAddrL rfl rfl rfl) ?_ | refine SatD.tk 7 rfl hD (fun _ hw => RunV.fieldAddr rfl rfl rfl) ?_
      refine SatD.tk 8 rfl hD (fun _ hw => RunV.load1 hw rfl rfl (by repeat constructor) rfl) ?_
      first | refine SatD.tk 9 rfl hD (fun _ hw => RunV.fieldAddrL rfl rfl rfl) ?_ | refine SatD.tk 9 rfl hD (fun _ hw => RunV.fieldAddr rfl rfl rfl) ?_
      refine SatD.tk 10 rfl hD (fun _ hw => RunV.load1 hw rfl rfl (by repeat constructor) rfl) ?_
      refine SatD.ef 5 rfl (OpW.enter rfl rfl rfl (rfl) (drop_tab y.2.1 y.2.2.2 ha hsl (by omega) (hS.ownT (A := (b, C 58 (tc most v last)) :: B) (by repeat constructor)) hm0) ?_)
      rintro r3 w3 ⟨rfl, v2, B2, hsl2, h⟩
      replace hS := hS.callT (A := (b, C 58 (tc most v last)) :: B) (by repeat constructor) h
      refine keepS (hS.sel (by repeat constructor)) (fun hD => ?_)
      refine SatD.ef 11 rfl (OpW.enter rfl rfl rfl (rfl) (drop_ref y.2.1 y.2.2.2 (hS.ownT (A := (rb, C 54 (rt most rv' last)) :: RB) (by repeat constructor)) hsr hl1) ?_)
      rintro r4 w4 ⟨rfl, rv2, RB2, hsr2, h⟩
      replace hS := hS.callT (A := (rb, C 54 (rt most rv' last)) :: RB) (by repeat constructor) h
      refine keepS (hS.sel (by repeat constructor)) (fun hD => ?_)
      refine SatD.tk 12 rfl hD (fun _ hw => RunV.beql rfl rfl rfl) ?_
      refine SatD.tk 13 rfl hD (fun _ hw => RunV.assign rfl) ?_
      refine SatD.done 0 (by kernel_rfl) (SatE.thenC ?_)
      clear hD
      refine SatC.ret (SatE.blk_ret (SatE.then_ret ?_))
      refine SatE.ret1 rfl rfl ?_
      first
      | (rw [if_neg (by omega), if_pos (by omega)] at hA
         subst hA
         exact ⟨by simp, v2, B2, rv2, RB2, hsl2, hsr2, hS.sel (by repeat constructor)⟩)
      | (rw [if_neg (by omega), if_neg (by omega), if_pos (by omega)] at hA
         subst hA
         exact ⟨rfl, v, B, rv', RB, hsl, hsr, hS.sel (by repeat constructor)⟩)
      | (rw [if_neg (by omega), if_neg (by omega), if_neg (by omega)] at hA
         subst hA
         exact ⟨by simp, v, B, rv', RB, hsl, hsr, hS.sel (by repeat constructor)⟩)
    · (try simp only [cx, ne_eq] at h2)
      try (exfalso; (first | omega | exact h2 trivial | contradiction | exact h2 rfl); done)
      all_goals
      refine SatC.seq ?_
      refine SatC.region ?_
      refine SatL.pu (RunV.eql rfl rfl) rfl ?_
      refine SatL.pu (RunV.assign rfl) rfl ?_
      refine SatL.nil (SatE.thenC ?_)
      refine SatC.cond rfl (fun h3 => ?_) (fun h3 => ?_)
      · (try simp only [cx, ne_eq] at h3)
        try (exfalso; (first | omega | exact h3 trivial | contradiction | exact h3 rfl); done)
        all_goals
        refine SatC.seq ?_
        refine SatC.region ?_
        refine SatL.pu (RunV.move rfl) rfl ?_
        first | refine SatL.pu (RunV.fieldAddrL rfl rfl rfl) rfl ?_ | refine SatL.pu (RunV.fieldAddr rfl rfl rfl) rfl ?_
        refine SatL.pu (RunV.load1 hS rfl rfl (by repeat constructor) rfl) rfl ?_
        refine SatL.op rfl (OpW.enter rfl rfl rfl (rfl) (raise_any y.2.2.2 (hS.ownT (A := (b, C 58 (tc most v last)) :: B) (by repeat constructor)) hm0) ?_)
        rintro r2 w2 ⟨rfl, h⟩
        replace hS := hS.callT (A := (b, C 58 (tc most v last)) :: B) (by repeat constructor) h
        refine SatL.nil (SatE.thenC ?_)
        refine SatC.weak (e' := [(1, _), (5, _), (6, _)]) (by repeat constructor) ?_
        refine SatC.region ?_
        refine SatL.pu (RunV.move rfl) rfl ?_
        first | refine SatL.pu (RunV.fieldAddrL rfl rfl rfl) rfl ?_ | refine SatL.pu (RunV.fieldAddr rfl rfl rfl) rfl ?_
        refine SatL.pu (RunV.load1 hS rfl rfl (by repeat constructor) rfl) rfl ?_
        refine SatL.op rfl (OpW.enter rfl rfl rfl (rfl) (raise_ref y.2.2.2 (hS.ownT (A := (rb, C 54 (rt most rv' last)) :: RB) (by repeat constructor))) ?_)
        rintro r3 w3 ⟨rfl, h⟩
        replace hS := hS.callT (A := (rb, C 54 (rt most rv' last)) :: RB) (by repeat constructor) h
        refine SatL.nil (SatE.blk_normal (SatE.thenC ?_))
        refine SatC.seq ?_
        refine SatC.region ?_
        refine SatL.pu (RunV.assign rfl) rfl ?_
        refine SatL.nil (SatE.thenC ?_)
        refine SatC.ret ?_
        refine SatE.ret1 rfl rfl ?_
        first
        | (rw [if_neg (by omega), if_pos (by omega)] at hA
           subst hA
           exact ⟨by simp, v2, B2, rv2, RB2, hsl2, hsr2, hS.sel (by repeat constructor)⟩)
        | (rw [if_neg (by omega), if_neg (by omega), if_pos (by omega)] at hA
           subst hA
           exact ⟨rfl, v, B, rv', RB, hsl, hsr, hS.sel (by repeat constructor)⟩)
        | (rw [if_neg (by omega), if_neg (by omega), if_neg (by omega)] at hA
           subst hA
           exact ⟨by simp, v, B, rv', RB, hsl, hsr, hS.sel (by repeat constructor)⟩)
      · (try simp only [cx, ne_eq] at h3)
        try (exfalso; (first | omega | exact h3 trivial | contradiction | exact h3 rfl); done)
        all_goals
        refine SatC.seq ?_
        refine SatC.region ?_
        refine SatL.pu (RunV.eql rfl rfl) rfl ?_
        refine SatL.pu (RunV.assign rfl) rfl ?_
        refine SatL.nil (SatE.thenC ?_)
        refine SatC.cond rfl (fun h4 => ?_) (fun h4 => ?_)
        · (try simp only [cx, ne_eq] at h4)
          try (exfalso; (first | omega | exact h4 trivial | contradiction | exact h4 rfl); done)
          all_goals
          refine SatC.seq ?_
          refine SatC.drawnT 10 hS (hS.sel (R := [(b5, C 27 (spr y))]) (by repeat constructor)) (by kernel_rfl) ?_
          clear hS
          intro w2 hh hS hD
          refine SatD.tk 0 rfl hD (fun _ hw => RunV.move rfl) ?_
          first | refine SatD.tk 1 rfl hD (fun _ hw => RunV.fieldAddrL rfl rfl rfl) ?_ | refine SatD.tk 1 rfl hD (fun _ hw => RunV.fieldAddr rfl rfl rfl) ?_
          refine SatD.tk 2 rfl hD (fun _ hw => RunV.load1 hw rfl rfl (by repeat constructor) rfl) ?_
          refine SatD.tk 4 rfl hD (fun _ hw => RunV.move rfl) ?_
          first | refine SatD.tk 5 rfl hD (fun _ hw => RunV.fieldAddrL rfl rfl rfl) ?_ | refine SatD.tk 5 rfl hD (fun _ hw => RunV.fieldAddr rfl rfl rfl) ?_
          refine SatD.tk 6 rfl hD (fun _ hw => RunV.load1 hw rfl rfl (by repeat constructor) rfl) ?_
          refine SatD.ef 3 rfl (OpW.enter rfl rfl rfl (rfl) (under_tab y.2.1 hy hk hsl (by omega) (hS.ownT (A := (b, C 58 (tc most v last)) :: B) (by repeat constructor)) hm0) ?_)
          rintro r3 w3 ⟨Bu, hslu, h⟩
          replace hS := hS.call0 h
          refine keepS (hS.sel (by repeat constructor)) (fun hD => ?_)
          refine SatD.ef 7 rfl (OpW.enter rfl rfl rfl (rfl) (under_reft y.2.1 hy hk (hS.ownT (A := (rb, C 54 (rt most rv' last)) :: RB) (by repeat constructor)) hsr hl1) ?_)
          rintro r4 w4 ⟨Bv, hsru, h⟩
          replace hS := hS.call0 h
          refine keepS (hS.sel (by repeat constructor)) (fun hD => ?_)
          refine SatD.ef 8 rfl (OpW.enter rfl rfl rfl (rfl) ((by first | exact same_any _ _ [(putS most last rows y.2.1 y.2.2.1 y.2.2.2).1] [(putS most last rows y.2.1 y.2.2.1 y.2.2.2).1] _ ((one_row rfl).row hS (by repeat constructor) (Nat.le_of_ble_eq_true rfl)) ((one_row rfl).row hS (by repeat constructor) (Nat.le_of_ble_eq_true rfl)) | exact same_any _ _ (undF y.2.1 rows) (undF y.2.1 rows) _ (hslu.row hS (by repeat constructor) hlu) (hsru.row hS (by repeat constructor) hlu) | exact same_any _ _ rows rows _ (hsl3.row hS (by repeat constructor) hln) (hsr.row hS (by repeat constructor) hln))) ?_)
          rintro r5 w5 ⟨rfl, h⟩
          replace hS := St.callN hS h
          refine keepS (hS.sel (by repeat constructor)) (fun hD => ?_)
          refine SatD.tk 9 rfl hD (fun _ hw => RunV.assign rfl) ?_
          refine SatD.done 0 (by kernel_rfl) (SatE.thenC ?_)
          clear hD
          refine SatC.ret (SatE.blk_ret (SatE.then_ret ?_))
          refine SatE.ret1 rfl rfl ?_
          first
          | (rw [if_neg (by omega), if_pos (by omega)] at hA
             subst hA
             exact ⟨by simp, v2, B2, rv2, RB2, hsl2, hsr2, hS.sel (by repeat constructor)⟩)
          | (rw [if_neg (by omega), if_neg (by omega), if_pos (by omega)] at hA
             subst hA
             exact ⟨rfl, v, B, rv', RB, hsl, hsr, hS.sel (by repeat constructor)⟩)
          | (rw [if_neg (by omega), if_neg (by omega), if_neg (by omega)] at hA
             subst hA
             exact ⟨by simp, v, B, rv', RB, hsl, hsr, hS.sel (by repeat constructor)⟩)
        · (try simp only [cx, ne_eq] at h4)
          try (exfalso; (first | omega | exact h4 trivial | contradiction | exact h4 rfl); done)
          all_goals
          refine SatC.seq ?_
          refine SatC.region ?_
          refine SatL.pu (RunV.eql rfl rfl) rfl ?_
          refine SatL.pu (RunV.assign rfl) rfl ?_
          refine SatL.nil (SatE.thenC ?_)
          refine SatC.weak (e' := [(0, _), (1, _), (5, _), (6, _), (84, _)]) (by repeat constructor) ?_
          refine SatC.cond rfl (fun h5 => ?_) (fun h5 => ?_)
          · (try simp only [cx, ne_eq] at h5)
            try (exfalso; (first | omega | exact h5 trivial | contradiction | exact h5 rfl); done)
            all_goals
            refine SatC.seq ?_
            refine SatC.region ?_
            refine SatL.pu (RunV.move rfl) rfl ?_
            refine SatL.op rfl (OpW.enter rfl rfl rfl (rfl) (copy_any hsl (by omega) (hS.ownT (A := (b, C 58 (tc most v last)) :: B) (by repeat constructor)) hm0) ?_)
            rintro r2 w2 ⟨cb, cv, CB, rfl, hslc, h⟩
            replace hS := hS.call0 h
            refine SatL.pu (RunV.assign rfl) rfl ?_
            refine SatL.nil (SatE.thenC ?_)
            refine SatC.seq ?_
            refine SatC.seq ?_
            refine SatC.drawnT 17 hS (hS) (by kernel_rfl) ?_
            clear hS
            intro w3 hh hS hD
            refine SatD.tk 0 rfl hD (fun _ hw => RunV.move rfl) ?_
            refine SatD.tk 2 rfl hD (fun _ hw => RunV.move rfl) ?_
            first | refine SatD.tk 3 rfl hD (fun _ hw => RunV.nil_ptr rfl) ?_ | refine SatD.tk 3 rfl hD (fun _ hw => RunV.nil_func rfl) ?_ | refine SatD.tk 3 rfl hD (fun _ hw => RunV.nil_yield rfl) ?_
            first | refine SatD.tk 4 rfl hD (fun _ hw => RunV.fieldAddrL rfl rfl rfl) ?_ | refine SatD.tk 4 rfl hD (fun _ hw => RunV.fieldAddr rfl rfl rfl) ?_
            refine SatD.tk 5 rfl hD (fun _ hw => RunV.load1 hw rfl rfl (by repeat constructor) rfl) ?_
            refine SatD.ef 1 rfl (OpW.enter rfl rfl rfl (rfl) (list_any hslc (by omega) (hS.ownT (A := (cb, C 58 (tc most cv last)) :: CB) (by repeat constructor)) hm0) ?_)
            rintro r4 w4 ⟨B3, hsl3, h⟩
            replace hS := hS.call0 h
            refine keepS (hS.sel (by repeat constructor)) (fun hD => ?_)
            refine SatD.ef 6 rfl (OpW.enter rfl rfl rfl (rfl) ((by first | exact same_any _ _ [(putS most last rows y.2.1 y.2.2.1 y.2.2.2).1] [(putS most last rows y.2.1 y.2.2.1 y.2.2.2).1] _ ((one_row rfl).row hS (by repeat constructor) (Nat.le_of_ble_eq_true rfl)) ((one_row rfl).row hS (by repeat constructor) (Nat.le_of_ble_eq_true rfl)) | exact same_any _ _ (undF y.2.1 rows) (undF y.2.1 rows) _ (hslu.row hS (by repeat constructor) hlu) (hsru.row hS (by repeat constructor) hlu) | exact same_any _ _ rows rows _ (hsl3.row hS (by repeat constructor) hln) (hsr.row hS (by repeat constructor) hln))) ?_)
            rintro r5 w5 ⟨rfl, h⟩
            replace hS := St.callN hS h
            refine keepS (hS.sel (by repeat constructor)) (fun hD => ?_)
            refine SatD.tk 7 rfl hD (fun _ hw => RunV.not rfl) ?_
            refine SatD.tk 8 rfl hD (fun _ hw => RunV.move rfl) ?_
            refine SatD.ways 96 rfl (fun h6 => ?_) (fun h6 => ?_)
            · (try simp only [cx, ne_eq] at h6)
              try (exfalso; (first | omega | exact h6 trivial | contradiction | exact h6 rfl); done)
              all_goals
              refine SatD.sk 9 rfl [] hD ?_
              refine SatD.sk 10 rfl [] hD ?_
              refine SatD.sk 11 rfl [] hD ?_
              refine SatD.sk 12 rfl [] hD ?_
              refine SatD.sk 13 rfl [] hD ?_
              refine SatD.sk 14 rfl [] hD ?_
              refine SatD.sk 15 rfl [] hD ?_
              refine SatD.tk 16 rfl hD (fun _ hw => RunV.pick_t rfl rfl) ?_
              refine SatD.done 0 (by kernel_rfl) (SatE.thenC ?_)
              clear hD
              refine SatC.weak (e' := [(5, _), (6, _), (11, _), (104, _)]) (by repeat constructor) ?_
              refine SatC.cond_t rfl ?_
              refine SatC.seq ?_
              refine SatC.region ?_
              refine SatL.pu (RunV.assign rfl) rfl ?_
              refine SatL.nil (SatE.thenC ?_)
              refine SatC.ret (SatE.then_ret (SatE.blk_ret (SatE.then_ret ?_)))
              refine SatE.ret1 rfl rfl ?_
              first
              | (rw [if_neg (by omega), if_pos (by omega)] at hA
                 subst hA
                 exact ⟨by simp, v2, B2, rv2, RB2, hsl2, hsr2, hS.sel (by repeat constructor)⟩)
              | (rw [if_neg (by omega), if_neg (by omega), if_pos (by omega)] at hA
                 subst hA
                 exact ⟨rfl, v, B, rv', RB, hsl, hsr, hS.sel (by repeat constructor)⟩)
              | (rw [if_neg (by omega), if_neg (by omega), if_neg (by omega)] at hA
                 subst hA
                 exact ⟨by simp, v, B, rv', RB, hsl, hsr, hS.sel (by repeat constructor)⟩)
            · (try simp only [cx, ne_eq] at h6)
              try (exfalso; (first | omega | exact h6 trivial | contradiction | exact h6 rfl); done)
              all_goals
              refine SatD.tk 9 rfl hD (fun _ hw => RunV.move rfl) ?_
              refine SatD.tk 11 rfl hD (fun _ hw => RunV.move rfl) ?_
              first | refine SatD.tk 12 rfl hD (fun _ hw => RunV.nil_ptr rfl) ?_ | refine SatD.tk 12 rfl hD (fun _ hw => RunV.nil_func rfl) ?_ | refine SatD.tk 12 rfl hD (fun _ hw => RunV.nil_yield rfl) ?_
              first | refine SatD.tk 13 rfl hD (fun _ hw => RunV.fieldAddrL rfl rfl rfl) ?_ | refine SatD.tk 13 rfl hD (fun _ hw => RunV.fieldAddr rfl rfl rfl) ?_
              refine SatD.tk 14 rfl hD (fun _ hw => RunV.load1 hw rfl rfl (by repeat constructor) rfl) ?_
              refine SatD.ef 10 rfl (OpW.enter rfl rfl rfl (rfl) (last_any (hS.ownT (A := (cb, C 58 (tc most cv last)) :: CB) (by repeat constructor)) hm0) ?_)
              rintro r6 w6 ⟨rfl, h⟩
              replace hS := St.callN hS h
              refine keepS (hS.sel (by repeat constructor)) (fun hD => ?_)
              refine SatD.tk 15 rfl hD (fun _ hw => RunV.neq rfl rfl) ?_
              refine SatD.tk 16 rfl hD (fun _ hw => RunV.pick_f rfl rfl) ?_
              refine SatD.done 0 (by kernel_rfl) (SatE.thenC ?_)
              clear hD
              refine SatC.weak (e' := [(5, _), (6, _), (11, _), (104, _)]) (by repeat constructor) ?_
              refine SatC.cond rfl (fun h7 => ?_) (fun h7 => ?_)
              · (try simp only [cx, ne_eq] at h7)
                try (exfalso; (first | omega | exact h7 trivial | contradiction | exact h7 rfl); done)
                all_goals
                refine SatC.seq ?_
                refine SatC.region ?_
                refine SatL.pu (RunV.assign rfl) rfl ?_
                refine SatL.nil (SatE.thenC ?_)
                refine SatC.ret (SatE.then_ret (SatE.blk_ret (SatE.then_ret ?_)))
                refine SatE.ret1 rfl rfl ?_
                first
                | (rw [if_neg (by omega), if_pos (by omega)] at hA
                   subst hA
                   exact ⟨by simp, v2, B2, rv2, RB2, hsl2, hsr2, hS.sel (by repeat constructor)⟩)
                | (rw [if_neg (by omega), if_neg (by omega), if_pos (by omega)] at hA
                   subst hA
                   exact ⟨rfl, v, B, rv', RB, hsl, hsr, hS.sel (by repeat constructor)⟩)
                | (rw [if_neg (by omega), if_neg (by omega), if_neg (by omega)] at hA
                   subst hA
                   exact ⟨by simp, v, B, rv', RB, hsl, hsr, hS.sel (by repeat constructor)⟩)
              · (try simp only [cx, ne_eq] at h7)
                try (exfalso; (first | omega | exact h7 trivial | contradiction | exact h7 rfl); done)
                all_goals
                refine SatC.skip (SatE.thenC ?_)
                refine SatC.seq ?_
                refine SatC.region ?_
                refine SatL.pu (RunV.move rfl) rfl ?_
                first | refine SatL.pu (RunV.fieldAddrL rfl rfl rfl) rfl ?_ | refine SatL.pu (RunV.fieldAddr rfl rfl rfl) rfl ?_
                refine SatL.pu (RunV.load1 hS rfl rfl (by repeat constructor) rfl) rfl ?_
                first | refine SatL.pu (RunV.fieldAddrL rfl rfl rfl) rfl ?_ | refine SatL.pu (RunV.fieldAddr rfl rfl rfl) rfl ?_
                refine SatL.pu (RunV.load1 hS rfl rfl (by repeat constructor) rfl) rfl ?_
                refine SatL.pu (RunV.add rfl rfl (by first | exact wrapI64 (by omega) | rfl)) rfl ?_
                first | refine SatL.pu (RunV.fieldAddrL rfl rfl rfl) rfl ?_ | refine SatL.pu (RunV.fieldAddr rfl rfl rfl) rfl ?_
                refine SatL.pu (RunV.load1 hS rfl rfl (by repeat constructor) rfl) rfl ?_
                refine SatL.op rfl (OpW.enter rfl rfl rfl (rfl) (put_tab y.2.1 (IntKind.i64.wrap (y.2.2.1 + 1)) y.2.2.2 ha hslc (by omega) (hS.ownT (A := (cb, C 58 (tc most cv last)) :: CB) (by repeat constructor)) hm0) ?_)
                rintro r7 w7 ⟨rfl, v4, B4, hsl4, h⟩
                replace hS := hS.callT (A := (cb, C 58 (tc most cv last)) :: CB) (by repeat constructor) h
                have hl4 := len_putS (last := last) (x := IntKind.i64.wrap (y.2.2.1 + 1)) (ix := y.2.2.2) (key := y.2.1) ha hlen
                refine SatL.nil (SatE.thenC ?_)
                refine SatC.seq ?_
                refine SatC.region ?_
                refine SatL.pu (RunV.move rfl) rfl ?_
                first | refine SatL.pu (RunV.fieldAddrL rfl rfl rfl) rfl ?_ | refine SatL.pu (RunV.fieldAddr rfl rfl rfl) rfl ?_
                refine SatL.pu (RunV.load1 hS rfl rfl (by repeat constructor) rfl) rfl ?_
                first | refine SatL.pu (RunV.fieldAddrL rfl rfl rfl) rfl ?_ | refine SatL.pu (RunV.fieldAddr rfl rfl rfl) rfl ?_
                refine SatL.pu (RunV.load1 hS rfl rfl (by repeat constructor) rfl) rfl ?_
                refine SatL.op rfl (OpW.enter rfl rfl rfl (rfl) (drop_tab y.2.1 y.2.2.2 (asc_putS' ha) hsl4 (by omega) (hS.ownT (A := (cb, C 58 (tc most v4 (putS most last rows y.2.1 (IntKind.i64.wrap (y.2.2.1 + 1)) y.2.2.2).2.2.2)) :: B4) (by repeat constructor)) hm0) ?_)
                rintro r8 w8 ⟨rfl, v5, B5, hsl5, h⟩
                replace hS := hS.callT (A := (cb, C 58 (tc most v4 (putS most last rows y.2.1 (IntKind.i64.wrap (y.2.2.1 + 1)) y.2.2.2).2.2.2)) :: B4) (by repeat constructor) h
                refine SatL.nil (SatE.thenC ?_)
                refine SatC.weak (e' := [(6, _), (11, _)]) (by repeat constructor) ?_
                refine SatC.region ?_
                refine SatL.pu (RunV.move rfl) rfl ?_
                refine SatL.op rfl (OpW.enter rfl rfl rfl (rfl) (raise_any 18446744073709551615 (hS.ownT (A := (cb, C 58 (tc most v5 (dropS (putS most last rows y.2.1 (IntKind.i64.wrap (y.2.2.1 + 1)) y.2.2.2).2.2.2 (putS most last rows y.2.1 (IntKind.i64.wrap (y.2.2.1 + 1)) y.2.2.2).2.2.1 y.2.1 y.2.2.2).2.2)) :: B5) (by repeat constructor)) hm0) ?_)
                rintro r9 w9 ⟨rfl, h⟩
                replace hS := hS.callT (A := (cb, C 58 (tc most v5 (dropS (putS most last rows y.2.1 (IntKind.i64.wrap (y.2.2.1 + 1)) y.2.2.2).2.2.2 (putS most last rows y.2.1 (IntKind.i64.wrap (y.2.2.1 + 1)) y.2.2.2).2.2.1 y.2.1 y.2.2.2).2.2)) :: B5) (by repeat constructor) h
                refine SatL.nil (SatE.blk_normal (SatE.thenC ?_))
                refine SatC.seq ?_
                refine SatC.region ?_
                refine SatL.pu (RunV.assign rfl) rfl ?_
                refine SatL.nil (SatE.thenC ?_)
                refine SatC.ret ?_
                refine SatE.ret1 rfl rfl ?_
                first
                | (rw [if_neg (by omega), if_pos (by omega)] at hA
                   subst hA
                   exact ⟨by simp, v2, B2, rv2, RB2, hsl2, hsr2, hS.sel (by repeat constructor)⟩)
                | (rw [if_neg (by omega), if_neg (by omega), if_pos (by omega)] at hA
                   subst hA
                   exact ⟨rfl, v, B, rv', RB, hsl, hsr, hS.sel (by repeat constructor)⟩)
                | (rw [if_neg (by omega), if_neg (by omega), if_neg (by omega)] at hA
                   subst hA
                   exact ⟨by simp, v, B, rv', RB, hsl, hsr, hS.sel (by repeat constructor)⟩)
          · (try simp only [cx, ne_eq] at h5)
            try (exfalso; (first | omega | exact h5 trivial | contradiction | exact h5 rfl); done)
            all_goals
            refine SatC.skip (SatE.blk_normal (SatE.thenC ?_))
            refine SatC.seq ?_
            refine SatC.region ?_
            refine SatL.pu (RunV.assign rfl) rfl ?_
            refine SatL.nil (SatE.thenC ?_)
            refine SatC.ret ?_
            refine SatE.ret1 rfl rfl ?_
            first
            | (rw [if_neg (by omega), if_pos (by omega)] at hA
               subst hA
               exact ⟨by simp, v2, B2, rv2, RB2, hsl2, hsr2, hS.sel (by repeat constructor)⟩)
            | (rw [if_neg (by omega), if_neg (by omega), if_pos (by omega)] at hA
               subst hA
               exact ⟨rfl, v, B, rv', RB, hsl, hsr, hS.sel (by repeat constructor)⟩)
            | (rw [if_neg (by omega), if_neg (by omega), if_neg (by omega)] at hA
               subst hA
               exact ⟨by simp, v, B, rv', RB, hsl, hsr, hS.sel (by repeat constructor)⟩)
end
end Go.Proofs.Ytdoinfpkfbfjaaa
