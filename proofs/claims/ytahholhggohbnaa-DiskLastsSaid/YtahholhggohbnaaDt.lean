/- A step of the disk's, and of the document's, where the two are not alike. -/
import Derived.Test.YtahholhggohbnaaDs
set_option linter.unusedSimpArgs false
set_option linter.unusedVariables false
set_option maxRecDepth 100000
set_option maxHeartbeats 8000000
namespace Go.Proofs.Ytahholhggohbnaa
open Go.RowKit
section
variable {b rb : Nat} {d e : Dk} {L : List (Nat × Obj)} {fs : List Rf} {fv : Value} {FB D : List (Nat × Obj)} {w : World}
theorem step2_any (y : Stp) (hyn : -9223372036854775808 ≤ y.n ∧ y.n ≤ 9223372036854775807) (hd : Dsk b d L) (heo : e.Ok) (hr : RRep e fs fv FB D)
    (hyr : ∀ W', St w ((L ++ RO rb e fv FB D).map Prod.fst) [] W' → RdRow W' y.v 1 (y.b.map by1c)) (hown : Own w (L ++ RO rb e fv FB D)) :
    Ret Try.prog 11 #[.pointer (some ⟨b, 0, none⟩), .pointer (some ⟨rb, 0, none⟩), .agg (sr y).toArray] w fun u w' => (∃ q, u = .bool q) ∧ ∃ L' fs' FB' D', Dsk b (stepD d y) L' ∧ (stepD e y).Ok ∧ RRep (stepD e y) fs' fv FB' D' ∧ St w ((L ++ RO rb e fv FB D).map Prod.fst) (L' ++ RO rb (stepD e y) fv FB' D') w' := by
  have hS := St.init hown
  generalize hX : (L ++ RO rb e fv FB D).map Prod.fst = X at hS hyr ⊢
  obtain ⟨yb, yo, yc, hyv, _, _, _⟩ := (hyr w (hS.sel .nil)).open
  have hy1 := slv_one hyv
  refine Ret.enter Try.func11 Try.ntmps11 rfl rfl ?_
  simp only [argEnv, Nat.reduceAdd]
  refine SatC.seq ?_
  refine SatC.region ?_
  refine SatL.op rfl (OpW.box hS rfl rfl (by repeat constructor) ?_)
  clear hS
  intro b5 w1 _ hS
  refine SatL.pu (RunV.assign rfl) rfl ?_
  refine SatL.nil (SatE.thenC ?_)
  refine SatC.seq ?_
  refine SatC.seq ?_
  refine SatC.region ?_
  first | refine SatL.pu (RunV.fieldAddrL rfl rfl rfl) rfl ?_ | refine SatL.pu (RunV.fieldAddr rfl rfl rfl) rfl ?_
  refine SatL.pu (RunV.load1 hS rfl rfl (by repeat constructor) rfl) rfl ?_
  refine SatL.nil (SatE.thenC ?_)
  refine SatC.block ?_
  refine SatC.seq ?_
  refine SatC.region ?_
  refine SatL.pu (RunV.eql rfl rfl) rfl ?_
  refine SatL.pu (RunV.assign rfl) rfl ?_
  refine SatL.nil (SatE.thenC ?_)
  refine SatC.cond rfl (fun h1 => ?_) (fun h1 => ?_)
  · (try simp only [cx, ne_eq] at h1)
    try (exfalso; (first | omega | exact h1 trivial | contradiction | (first | omega | (simp at h1; done))); done)
    all_goals
    refine SatC.seq ?_
    refine SatC.drawnT 14 hS (hS.sel (R := [(b5, C 32 (sr y))]) (by repeat constructor)) (by kernel_rfl) ?_
    clear hS
    intro w2 hh hS hD
    refine SatD.tk 0 rfl hD (fun _ hw => RunV.move rfl) ?_
    first | refine SatD.tk 1 rfl hD (fun _ hw => RunV.fieldAddrL rfl rfl rfl) ?_ | refine SatD.tk 1 rfl hD (fun _ hw => RunV.fieldAddr rfl rfl rfl) ?_
    refine SatD.tk 2 rfl hD (fun _ hw => RunV.load1 hw rfl rfl (by repeat constructor) rfl) ?_
    first | refine SatD.tk 3 rfl hD (fun _ hw => RunV.fieldAddrL rfl rfl rfl) ?_ | refine SatD.tk 3 rfl hD (fun _ hw => RunV.fieldAddr rfl rfl rfl) ?_
    refine SatD.tk 4 rfl hD (fun _ hw => RunV.load1 hw rfl rfl (by repeat constructor) rfl) ?_
    refine SatD.tk 6 rfl hD (fun _ hw => RunV.move rfl) ?_
    first | refine SatD.tk 7 rfl hD (fun _ hw => RunV.fieldAddrL rfl rfl rfl) ?_ | refine SatD.tk 7 rfl hD (fun _ hw => RunV.fieldAddr rfl rfl rfl) ?_
    refine SatD.tk 8 rfl hD (fun _ hw => RunV.load1 hw rfl rfl (by repeat constructor) rfl) ?_
    first | refine SatD.tk 9 rfl hD (fun _ hw => RunV.fieldAddrL rfl rfl rfl) ?_ | refine SatD.tk 9 rfl hD (fun _ hw => RunV.fieldAddr rfl rfl rfl) ?_
    refine SatD.tk 10 rfl hD (fun _ hw => RunV.load1 hw rfl rfl (by repeat constructor) rfl) ?_
    refine SatD.ef 5 rfl (OpW.enter rfl rfl rfl (rfl) (append_d y.f y.v y.b hd (fun W' h => hyr _ ((hS.callT (A := L) (by repeat constructor) h).sel .nil)) (hS.ownT (A := L) (by repeat constructor))) ?_)
    rintro r3 w3 ⟨rfl, L1, hd1, h⟩
    replace hS := hS.callT (A := L) (by repeat constructor) h
    refine keepS (hS.sel (by repeat constructor)) (fun hD => ?_)
    refine SatD.ef 11 rfl (OpW.enter rfl rfl rfl (rfl) (rappend_any y.f y.v y.b heo hr (fun W' h => hyr _ ((hS.callT (A := RO rb e fv FB D) (by repeat constructor) h).sel .nil)) (hS.ownT (A := RO rb e fv FB D) (by repeat constructor))) ?_)
    rintro r4 w4 ⟨rfl, fs2, FB2, D2, _, hr2, h⟩
    replace hS := hS.callT (A := RO rb e fv FB D) (by repeat constructor) h
    simp only [RO, List.append_assoc, List.cons_append, List.nil_append, List.append_nil] at hS
    refine keepS (hS.sel (by repeat constructor)) (fun hD => ?_)
    refine SatD.tk 12 rfl hD (fun _ hw => RunV.eql rfl rfl) ?_
    refine SatD.tk 13 rfl hD (fun _ hw => RunV.assign rfl) ?_
    refine SatD.done 0 (by kernel_rfl) (SatE.thenC ?_)
    clear hD
    refine SatC.ret (SatE.blk_ret (SatE.then_ret ?_))
    refine SatE.ret1 rfl rfl ?_
    first
    | (have e1 : ∀ x, stepD x y = (aAppend x y.f y.b).2 := fun x => by unfold stepD; rw [if_pos (by omega)]
       rw [e1, e1]; exact ⟨⟨_, rfl⟩, L1, fs2, FB2, D2, hd1, ok_append heo _ _, hr2, hS.sel (by repeat constructor)⟩)
    | (have e1 : ∀ x, stepD x y = (aSync x y.f).2 := fun x => by unfold stepD; rw [if_neg (by omega), if_pos (by omega)]
       rw [e1, e1]; exact ⟨⟨_, rfl⟩, L1, fs2, FB2, D2, hd1, ok_sync heo _, hr2, hS.sel (by repeat constructor)⟩)
    | (have e1 : ∀ x, stepD x y = (aCut x y.f y.n).2 := fun x => by unfold stepD; rw [if_neg (by omega), if_neg (by omega), if_pos (by omega)]
       rw [e1, e1]; exact ⟨⟨_, rfl⟩, L1, fs2, FB2, D2, hd1, ok_cut heo _ _, hr2, hS.sel (by repeat constructor)⟩)
    | (have e1 : ∀ x, stepD x y = (aRename x y.f y.n).2 := fun x => by unfold stepD; rw [if_neg (by omega), if_neg (by omega), if_neg (by omega), if_pos (by omega)]
       rw [e1, e1]; exact ⟨⟨_, rfl⟩, L1, fs2, FB2, D2, hd1, ok_rename heo _ _, hr2, hS.sel (by repeat constructor)⟩)
    | (have e1 : ∀ x, stepD x y = aArm x y.n := fun x => by unfold stepD; rw [if_neg (by omega), if_neg (by omega), if_neg (by omega), if_neg (by omega), if_pos (by omega)]
       rw [e1, e1]; exact ⟨⟨_, rfl⟩, L1, fs2, FB2, D2, hd1, ok_arm heo _ hyn.2, hr2, hS.sel (by repeat constructor)⟩)
    | (have e1 : ∀ x, stepD x y = aCrash x y.n := fun x => by unfold stepD; rw [if_neg (by omega), if_neg (by omega), if_neg (by omega), if_neg (by omega), if_neg (by omega), if_pos (by omega)]
       rw [e1, e1]; exact ⟨⟨_, rfl⟩, L1, fs2, FB2, D2, hd1, ok_crash heo _, hr2, hS.sel (by repeat constructor)⟩)
    | (have e1 : ∀ x, stepD x y = aSpoil x y.f y.n 5 := fun x => by unfold stepD; rw [if_neg (by omega), if_neg (by omega), if_neg (by omega), if_neg (by omega), if_neg (by omega), if_neg (by omega), if_pos (by omega)]
       rw [e1, e1]; exact ⟨⟨_, rfl⟩, L1, fs2, FB2, D2, hd1, ok_spoil heo _ _ _, hr2, hS.sel (by repeat constructor)⟩)
    | (have e1 : ∀ x, stepD x y = x := fun x => by unfold stepD; rw [if_neg (by omega), if_neg (by omega), if_neg (by omega), if_neg (by omega), if_neg (by omega), if_neg (by omega), if_neg (by omega)]
       rw [e1, e1]; exact ⟨⟨_, rfl⟩, L, fs, FB, D, hd, heo, hr, hS.sel (by repeat constructor)⟩)
  · (try simp only [cx, ne_eq] at h1)
    try (exfalso; (first | omega | exact h1 trivial | contradiction | (first | omega | (simp at h1; done))); done)
    all_goals
    refine SatC.seq ?_
    refine SatC.region ?_
    refine SatL.pu (RunV.eql rfl rfl) rfl ?_
    refine SatL.pu (RunV.assign rfl) rfl ?_
    refine SatL.nil (SatE.thenC ?_)
    refine SatC.cond rfl (fun h2 => ?_) (fun h2 => ?_)
    · (try simp only [cx, ne_eq] at h2)
      try (exfalso; (first | omega | exact h2 trivial | contradiction | (first | omega | (simp at h2; done))); done)
      all_goals
      refine SatC.seq ?_
      refine SatC.drawnT 10 hS (hS.sel (R := [(b5, C 32 (sr y))]) (by repeat constructor)) (by kernel_rfl) ?_
      clear hS
      intro w2 hh hS hD
      refine SatD.tk 0 rfl hD (fun _ hw => RunV.move rfl) ?_
      first | refine SatD.tk 1 rfl hD (fun _ hw => RunV.fieldAddrL rfl rfl rfl) ?_ | refine SatD.tk 1 rfl hD (fun _ hw => RunV.fieldAddr rfl rfl rfl) ?_
      refine SatD.tk 2 rfl hD (fun _ hw => RunV.load1 hw rfl rfl (by repeat constructor) rfl) ?_
      refine SatD.tk 4 rfl hD (fun _ hw => RunV.move rfl) ?_
      first | refine SatD.tk 5 rfl hD (fun _ hw => RunV.fieldAddrL rfl rfl rfl) ?_ | refine SatD.tk 5 rfl hD (fun _ hw => RunV.fieldAddr rfl rfl rfl) ?_
      refine SatD.tk 6 rfl hD (fun _ hw => RunV.load1 hw rfl rfl (by repeat constructor) rfl) ?_
      refine SatD.ef 3 rfl (OpW.enter rfl rfl rfl (rfl) (sync_d y.f hd (hS.ownT (A := L) (by repeat constructor))) ?_)
      rintro r3 w3 ⟨rfl, L1, hd1, h⟩
      replace hS := hS.callT (A := L) (by repeat constructor) h
      refine keepS (hS.sel (by repeat constructor)) (fun hD => ?_)
      refine SatD.ef 7 rfl (OpW.enter rfl rfl rfl (rfl) (rsync_any y.f heo hr (hS.ownT (A := RO rb e fv FB D) (by repeat constructor))) ?_)
      rintro r4 w4 ⟨rfl, fs2, FB2, D2, _, hr2, h⟩
      replace hS := hS.callT (A := RO rb e fv FB D) (by repeat constructor) h
      simp only [RO, List.append_assoc, List.cons_append, List.nil_append, List.append_nil] at hS
      refine keepS (hS.sel (by repeat constructor)) (fun hD => ?_)
      refine SatD.tk 8 rfl hD (fun _ hw => RunV.eql rfl rfl) ?_
      refine SatD.tk 9 rfl hD (fun _ hw => RunV.assign rfl) ?_
      refine SatD.done 0 (by kernel_rfl) (SatE.thenC ?_)
      clear hD
      refine SatC.ret (SatE.blk_ret (SatE.then_ret ?_))
      refine SatE.ret1 rfl rfl ?_
      first
      | (have e1 : ∀ x, stepD x y = (aAppend x y.f y.b).2 := fun x => by unfold stepD; rw [if_pos (by omega)]
         rw [e1, e1]; exact ⟨⟨_, rfl⟩, L1, fs2, FB2, D2, hd1, ok_append heo _ _, hr2, hS.sel (by repeat constructor)⟩)
      | (have e1 : ∀ x, stepD x y = (aSync x y.f).2 := fun x => by unfold stepD; rw [if_neg (by omega), if_pos (by omega)]
         rw [e1, e1]; exact ⟨⟨_, rfl⟩, L1, fs2, FB2, D2, hd1, ok_sync heo _, hr2, hS.sel (by repeat constructor)⟩)
      | (have e1 : ∀ x, stepD x y = (aCut x y.f y.n).2 := fun x => by unfold stepD; rw [if_neg (by omega), if_neg (by omega), if_pos (by omega)]
         rw [e1, e1]; exact ⟨⟨_, rfl⟩, L1, fs2, FB2, D2, hd1, ok_cut heo _ _, hr2, hS.sel (by repeat constructor)⟩)
      | (have e1 : ∀ x, stepD x y = (aRename x y.f y.n).2 := fun x => by unfold stepD; rw [if_neg (by omega), if_neg (by omega), if_neg (by omega), if_pos (by omega)]
         rw [e1, e1]; exact ⟨⟨_, rfl⟩, L1, fs2, FB2, D2, hd1, ok_rename heo _ _, hr2, hS.sel (by repeat constructor)⟩)
      | (have e1 : ∀ x, stepD x y = aArm x y.n := fun x => by unfold stepD; rw [if_neg (by omega), if_neg (by omega), if_neg (by omega), if_neg (by omega), if_pos (by omega)]
         rw [e1, e1]; exact ⟨⟨_, rfl⟩, L1, fs2, FB2, D2, hd1, ok_arm heo _ hyn.2, hr2, hS.sel (by repeat constructor)⟩)
      | (have e1 : ∀ x, stepD x y = aCrash x y.n := fun x => by unfold stepD; rw [if_neg (by omega), if_neg (by omega), if_neg (by omega), if_neg (by omega), if_neg (by omega), if_pos (by omega)]
         rw [e1, e1]; exact ⟨⟨_, rfl⟩, L1, fs2, FB2, D2, hd1, ok_crash heo _, hr2, hS.sel (by repeat constructor)⟩)
      | (have e1 : ∀ x, stepD x y = aSpoil x y.f y.n 5 := fun x => by unfold stepD; rw [if_neg (by omega), if_neg (by omega), if_neg (by omega), if_neg (by omega), if_neg (by omega), if_neg (by omega), if_pos (by omega)]
         rw [e1, e1]; exact ⟨⟨_, rfl⟩, L1, fs2, FB2, D2, hd1, ok_spoil heo _ _ _, hr2, hS.sel (by repeat constructor)⟩)
      | (have e1 : ∀ x, stepD x y = x := fun x => by unfold stepD; rw [if_neg (by omega), if_neg (by omega), if_neg (by omega), if_neg (by omega), if_neg (by omega), if_neg (by omega), if_neg (by omega)]
         rw [e1, e1]; exact ⟨⟨_, rfl⟩, L, fs, FB, D, hd, heo, hr, hS.sel (by repeat constructor)⟩)
    · (try simp only [cx, ne_eq] at h2)
      try (exfalso; (first | omega | exact h2 trivial | contradiction | (first | omega | (simp at h2; done))); done)
      all_goals
      refine SatC.seq ?_
      refine SatC.region ?_
      refine SatL.pu (RunV.eql rfl rfl) rfl ?_
      refine SatL.pu (RunV.assign rfl) rfl ?_
      refine SatL.nil (SatE.thenC ?_)
      refine SatC.cond rfl (fun h3 => ?_) (fun h3 => ?_)
      · (try simp only [cx, ne_eq] at h3)
        try (exfalso; (first | omega | exact h3 trivial | contradiction | (first | omega | (simp at h3; done))); done)
        all_goals
        refine SatC.seq ?_
        refine SatC.drawnT 14 hS (hS.sel (R := [(b5, C 32 (sr y))]) (by repeat constructor)) (by kernel_rfl) ?_
        clear hS
        intro w2 hh hS hD
        refine SatD.tk 0 rfl hD (fun _ hw => RunV.move rfl) ?_
        first | refine SatD.tk 1 rfl hD (fun _ hw => RunV.fieldAddrL rfl rfl rfl) ?_ | refine SatD.tk 1 rfl hD (fun _ hw => RunV.fieldAddr rfl rfl rfl) ?_
        refine SatD.tk 2 rfl hD (fun _ hw => RunV.load1 hw rfl rfl (by repeat constructor) rfl) ?_
        first | refine SatD.tk 3 rfl hD (fun _ hw => RunV.fieldAddrL rfl rfl rfl) ?_ | refine SatD.tk 3 rfl hD (fun _ hw => RunV.fieldAddr rfl rfl rfl) ?_
        refine SatD.tk 4 rfl hD (fun _ hw => RunV.load1 hw rfl rfl (by repeat constructor) rfl) ?_
        refine SatD.tk 6 rfl hD (fun _ hw => RunV.move rfl) ?_
        first | refine SatD.tk 7 rfl hD (fun _ hw => RunV.fieldAddrL rfl rfl rfl) ?_ | refine SatD.tk 7 rfl hD (fun _ hw => RunV.fieldAddr rfl rfl rfl) ?_
        refine SatD.tk 8 rfl hD (fun _ hw => RunV.load1 hw rfl rfl (by repeat constructor) rfl) ?_
        first | refine SatD.tk 9 rfl hD (fun _ hw => RunV.fieldAddrL rfl rfl rfl) ?_ | refine SatD.tk 9 rfl hD (fun _ hw => RunV.fieldAddr rfl rfl rfl) ?_
        refine SatD.tk 10 rfl hD (fun _ hw => RunV.load1 hw rfl rfl (by repeat constructor) rfl) ?_
        refine SatD.ef 5 rfl (OpW.enter rfl rfl rfl (rfl) (cut_d y.f y.n hd (hS.ownT (A := L) (by repeat constructor))) ?_)
        rintro r3 w3 ⟨rfl, L1, hd1, h⟩
        replace hS := hS.callT (A := L) (by repeat constructor) h
        refine keepS (hS.sel (by repeat constructor)) (fun hD => ?_)
        refine SatD.ef 11 rfl (OpW.enter rfl rfl rfl (rfl) (rcut_any y.f y.n heo hr (hS.ownT (A := RO rb e fv FB D) (by repeat constructor))) ?_)
        rintro r4 w4 ⟨rfl, fs2, FB2, D2, _, hr2, h⟩
        replace hS := hS.callT (A := RO rb e fv FB D) (by repeat constructor) h
        simp only [RO, List.append_assoc, List.cons_append, List.nil_append, List.append_nil] at hS
        refine keepS (hS.sel (by repeat constructor)) (fun hD => ?_)
        refine SatD.tk 12 rfl hD (fun _ hw => RunV.eql rfl rfl) ?_
        refine SatD.tk 13 rfl hD (fun _ hw => RunV.assign rfl) ?_
        refine SatD.done 0 (by kernel_rfl) (SatE.thenC ?_)
        clear hD
        refine SatC.ret (SatE.blk_ret (SatE.then_ret ?_))
        refine SatE.ret1 rfl rfl ?_
        first
        | (have e1 : ∀ x, stepD x y = (aAppend x y.f y.b).2 := fun x => by unfold stepD; rw [if_pos (by omega)]
           rw [e1, e1]; exact ⟨⟨_, rfl⟩, L1, fs2, FB2, D2, hd1, ok_append heo _ _, hr2, hS.sel (by repeat constructor)⟩)
        | (have e1 : ∀ x, stepD x y = (aSync x y.f).2 := fun x => by unfold stepD; rw [if_neg (by omega), if_pos (by omega)]
           rw [e1, e1]; exact ⟨⟨_, rfl⟩, L1, fs2, FB2, D2, hd1, ok_sync heo _, hr2, hS.sel (by repeat constructor)⟩)
        | (have e1 : ∀ x, stepD x y = (aCut x y.f y.n).2 := fun x => by unfold stepD; rw [if_neg (by omega), if_neg (by omega), if_pos (by omega)]
           rw [e1, e1]; exact ⟨⟨_, rfl⟩, L1, fs2, FB2, D2, hd1, ok_cut heo _ _, hr2, hS.sel (by repeat constructor)⟩)
        | (have e1 : ∀ x, stepD x y = (aRename x y.f y.n).2 := fun x => by unfold stepD; rw [if_neg (by omega), if_neg (by omega), if_neg (by omega), if_pos (by omega)]
           rw [e1, e1]; exact ⟨⟨_, rfl⟩, L1, fs2, FB2, D2, hd1, ok_rename heo _ _, hr2, hS.sel (by repeat constructor)⟩)
        | (have e1 : ∀ x, stepD x y = aArm x y.n := fun x => by unfold stepD; rw [if_neg (by omega), if_neg (by omega), if_neg (by omega), if_neg (by omega), if_pos (by omega)]
           rw [e1, e1]; exact ⟨⟨_, rfl⟩, L1, fs2, FB2, D2, hd1, ok_arm heo _ hyn.2, hr2, hS.sel (by repeat constructor)⟩)
        | (have e1 : ∀ x, stepD x y = aCrash x y.n := fun x => by unfold stepD; rw [if_neg (by omega), if_neg (by omega), if_neg (by omega), if_neg (by omega), if_neg (by omega), if_pos (by omega)]
           rw [e1, e1]; exact ⟨⟨_, rfl⟩, L1, fs2, FB2, D2, hd1, ok_crash heo _, hr2, hS.sel (by repeat constructor)⟩)
        | (have e1 : ∀ x, stepD x y = aSpoil x y.f y.n 5 := fun x => by unfold stepD; rw [if_neg (by omega), if_neg (by omega), if_neg (by omega), if_neg (by omega), if_neg (by omega), if_neg (by omega), if_pos (by omega)]
           rw [e1, e1]; exact ⟨⟨_, rfl⟩, L1, fs2, FB2, D2, hd1, ok_spoil heo _ _ _, hr2, hS.sel (by repeat constructor)⟩)
        | (have e1 : ∀ x, stepD x y = x := fun x => by unfold stepD; rw [if_neg (by omega), if_neg (by omega), if_neg (by omega), if_neg (by omega), if_neg (by omega), if_neg (by omega), if_neg (by omega)]
           rw [e1, e1]; exact ⟨⟨_, rfl⟩, L, fs, FB, D, hd, heo, hr, hS.sel (by repeat constructor)⟩)
      · (try simp only [cx, ne_eq] at h3)
        try (exfalso; (first | omega | exact h3 trivial | contradiction | (first | omega | (simp at h3; done))); done)
        all_goals
        refine SatC.seq ?_
        refine SatC.region ?_
        refine SatL.pu (RunV.eql rfl rfl) rfl ?_
        refine SatL.pu (RunV.assign rfl) rfl ?_
        refine SatL.nil (SatE.thenC ?_)
        refine SatC.cond rfl (fun h4 => ?_) (fun h4 => ?_)
        · (try simp only [cx, ne_eq] at h4)
          try (exfalso; (first | omega | exact h4 trivial | contradiction | (first | omega | (simp at h4; done))); done)
          all_goals
          refine SatC.seq ?_
          refine SatC.drawnT 14 hS (hS.sel (R := [(b5, C 32 (sr y))]) (by repeat constructor)) (by kernel_rfl) ?_
          clear hS
          intro w2 hh hS hD
          refine SatD.tk 0 rfl hD (fun _ hw => RunV.move rfl) ?_
          first | refine SatD.tk 1 rfl hD (fun _ hw => RunV.fieldAddrL rfl rfl rfl) ?_ | refine SatD.tk 1 rfl hD (fun _ hw => RunV.fieldAddr rfl rfl rfl) ?_
          refine SatD.tk 2 rfl hD (fun _ hw => RunV.load1 hw rfl rfl (by repeat constructor) rfl) ?_
          first | refine SatD.tk 3 rfl hD (fun _ hw => RunV.fieldAddrL rfl rfl rfl) ?_ | refine SatD.tk 3 rfl hD (fun _ hw => RunV.fieldAddr rfl rfl rfl) ?_
          refine SatD.tk 4 rfl hD (fun _ hw => RunV.load1 hw rfl rfl (by repeat constructor) rfl) ?_
          refine SatD.tk 6 rfl hD (fun _ hw => RunV.move rfl) ?_
          first | refine SatD.tk 7 rfl hD (fun _ hw => RunV.fieldAddrL rfl rfl rfl) ?_ | refine SatD.tk 7 rfl hD (fun _ hw => RunV.fieldAddr rfl rfl rfl) ?_
          refine SatD.tk 8 rfl hD (fun _ hw => RunV.load1 hw rfl rfl (by repeat constructor) rfl) ?_
          first | refine SatD.tk 9 rfl hD (fun _ hw => RunV.fieldAddrL rfl rfl rfl) ?_ | refine SatD.tk 9 rfl hD (fun _ hw => RunV.fieldAddr rfl rfl rfl) ?_
          refine SatD.tk 10 rfl hD (fun _ hw => RunV.load1 hw rfl rfl (by repeat constructor) rfl) ?_
          refine SatD.ef 5 rfl (OpW.enter rfl rfl rfl (rfl) (rename_d y.f y.n hd (hS.ownT (A := L) (by repeat constructor))) ?_)
          rintro r3 w3 ⟨rfl, L1, hd1, h⟩
          replace hS := hS.callT (A := L) (by repeat constructor) h
          refine keepS (hS.sel (by repeat constructor)) (fun hD => ?_)
          refine SatD.ef 11 rfl (OpW.enter rfl rfl rfl (rfl) (rrename_any y.f y.n heo hr (hS.ownT (A := RO rb e fv FB D) (by repeat constructor))) ?_)
          rintro r4 w4 ⟨rfl, fs2, FB2, D2, _, hr2, h⟩
          replace hS := hS.callT (A := RO rb e fv FB D) (by repeat constructor) h
          simp only [RO, List.append_assoc, List.cons_append, List.nil_append, List.append_nil] at hS
          refine keepS (hS.sel (by repeat constructor)) (fun hD => ?_)
          refine SatD.tk 12 rfl hD (fun _ hw => RunV.eql rfl rfl) ?_
          refine SatD.tk 13 rfl hD (fun _ hw => RunV.assign rfl) ?_
          refine SatD.done 0 (by kernel_rfl) (SatE.thenC ?_)
          clear hD
          refine SatC.ret (SatE.blk_ret (SatE.then_ret ?_))
          refine SatE.ret1 rfl rfl ?_
          first
          | (have e1 : ∀ x, stepD x y = (aAppend x y.f y.b).2 := fun x => by unfold stepD; rw [if_pos (by omega)]
             rw [e1, e1]; exact ⟨⟨_, rfl⟩, L1, fs2, FB2, D2, hd1, ok_append heo _ _, hr2, hS.sel (by repeat constructor)⟩)
          | (have e1 : ∀ x, stepD x y = (aSync x y.f).2 := fun x => by unfold stepD; rw [if_neg (by omega), if_pos (by omega)]
             rw [e1, e1]; exact ⟨⟨_, rfl⟩, L1, fs2, FB2, D2, hd1, ok_sync heo _, hr2, hS.sel (by repeat constructor)⟩)
          | (have e1 : ∀ x, stepD x y = (aCut x y.f y.n).2 := fun x => by unfold stepD; rw [if_neg (by omega), if_neg (by omega), if_pos (by omega)]
             rw [e1, e1]; exact ⟨⟨_, rfl⟩, L1, fs2, FB2, D2, hd1, ok_cut heo _ _, hr2, hS.sel (by repeat constructor)⟩)
          | (have e1 : ∀ x, stepD x y = (aRename x y.f y.n).2 := fun x => by unfold stepD; rw [if_neg (by omega), if_neg (by omega), if_neg (by omega), if_pos (by omega)]
             rw [e1, e1]; exact ⟨⟨_, rfl⟩, L1, fs2, FB2, D2, hd1, ok_rename heo _ _, hr2, hS.sel (by repeat constructor)⟩)
          | (have e1 : ∀ x, stepD x y = aArm x y.n := fun x => by unfold stepD; rw [if_neg (by omega), if_neg (by omega), if_neg (by omega), if_neg (by omega), if_pos (by omega)]
             rw [e1, e1]; exact ⟨⟨_, rfl⟩, L1, fs2, FB2, D2, hd1, ok_arm heo _ hyn.2, hr2, hS.sel (by repeat constructor)⟩)
          | (have e1 : ∀ x, stepD x y = aCrash x y.n := fun x => by unfold stepD; rw [if_neg (by omega), if_neg (by omega), if_neg (by omega), if_neg (by omega), if_neg (by omega), if_pos (by omega)]
             rw [e1, e1]; exact ⟨⟨_, rfl⟩, L1, fs2, FB2, D2, hd1, ok_crash heo _, hr2, hS.sel (by repeat constructor)⟩)
          | (have e1 : ∀ x, stepD x y = aSpoil x y.f y.n 5 := fun x => by unfold stepD; rw [if_neg (by omega), if_neg (by omega), if_neg (by omega), if_neg (by omega), if_neg (by omega), if_neg (by omega), if_pos (by omega)]
             rw [e1, e1]; exact ⟨⟨_, rfl⟩, L1, fs2, FB2, D2, hd1, ok_spoil heo _ _ _, hr2, hS.sel (by repeat constructor)⟩)
          | (have e1 : ∀ x, stepD x y = x := fun x => by unfold stepD; rw [if_neg (by omega), if_neg (by omega), if_neg (by omega), if_neg (by omega), if_neg (by omega), if_neg (by omega), if_neg (by omega)]
             rw [e1, e1]; exact ⟨⟨_, rfl⟩, L, fs, FB, D, hd, heo, hr, hS.sel (by repeat constructor)⟩)
        · (try simp only [cx, ne_eq] at h4)
          try (exfalso; (first | omega | exact h4 trivial | contradiction | (first | omega | (simp at h4; done))); done)
          all_goals
          refine SatC.seq ?_
          refine SatC.region ?_
          refine SatL.pu (RunV.eql rfl rfl) rfl ?_
          refine SatL.pu (RunV.assign rfl) rfl ?_
          refine SatL.nil (SatE.thenC ?_)
          refine SatC.cond rfl (fun h5 => ?_) (fun h5 => ?_)
          · (try simp only [cx, ne_eq] at h5)
            try (exfalso; (first | omega | exact h5 trivial | contradiction | (first | omega | (simp at h5; done))); done)
            all_goals
            refine SatC.seq ?_
            refine SatC.weak (e' := [(0, _), (1, _), (5, _), (6, _)]) (by repeat constructor) ?_
            refine SatC.region ?_
            refine SatL.pu (RunV.move rfl) rfl ?_
            first | refine SatL.pu (RunV.fieldAddrL rfl rfl rfl) rfl ?_ | refine SatL.pu (RunV.fieldAddr rfl rfl rfl) rfl ?_
            refine SatL.pu (RunV.load1 hS rfl rfl (by repeat constructor) rfl) rfl ?_
            refine SatL.op rfl (OpW.enter rfl rfl rfl (rfl) (arm_d y.n hyn.2 hd (hS.ownT (A := L) (by repeat constructor))) ?_)
            rintro r2 w2 ⟨L1, hd1, h⟩
            replace hS := hS.callT (A := L) (by repeat constructor) h
            refine SatL.nil (SatE.thenC ?_)
            refine SatC.region ?_
            refine SatL.pu (RunV.move rfl) rfl ?_
            first | refine SatL.pu (RunV.fieldAddrL rfl rfl rfl) rfl ?_ | refine SatL.pu (RunV.fieldAddr rfl rfl rfl) rfl ?_
            refine SatL.pu (RunV.load1 hS rfl rfl (by repeat constructor) rfl) rfl ?_
            refine SatL.op rfl (OpW.enter rfl rfl rfl (rfl) (rarm_any y.n hyn heo hr (hS.ownT (A := RO rb e fv FB D) (by repeat constructor))) ?_)
            rintro r3 w3 ⟨fs2, FB2, D2, _, hr2, h⟩
            replace hS := hS.callT (A := RO rb e fv FB D) (by repeat constructor) h
            simp only [RO, List.append_assoc, List.cons_append, List.nil_append, List.append_nil] at hS
            refine SatL.nil (SatE.blk_normal (SatE.thenC ?_))
            refine SatC.seq ?_
            refine SatC.region ?_
            refine SatL.pu (RunV.assign rfl) rfl ?_
            refine SatL.nil (SatE.thenC ?_)
            refine SatC.ret ?_
            refine SatE.ret1 rfl rfl ?_
            first
            | (have e1 : ∀ x, stepD x y = (aAppend x y.f y.b).2 := fun x => by unfold stepD; rw [if_pos (by omega)]
               rw [e1, e1]; exact ⟨⟨_, rfl⟩, L1, fs2, FB2, D2, hd1, ok_append heo _ _, hr2, hS.sel (by repeat constructor)⟩)
            | (have e1 : ∀ x, stepD x y = (aSync x y.f).2 := fun x => by unfold stepD; rw [if_neg (by omega), if_pos (by omega)]
               rw [e1, e1]; exact ⟨⟨_, rfl⟩, L1, fs2, FB2, D2, hd1, ok_sync heo _, hr2, hS.sel (by repeat constructor)⟩)
            | (have e1 : ∀ x, stepD x y = (aCut x y.f y.n).2 := fun x => by unfold stepD; rw [if_neg (by omega), if_neg (by omega), if_pos (by omega)]
               rw [e1, e1]; exact ⟨⟨_, rfl⟩, L1, fs2, FB2, D2, hd1, ok_cut heo _ _, hr2, hS.sel (by repeat constructor)⟩)
            | (have e1 : ∀ x, stepD x y = (aRename x y.f y.n).2 := fun x => by unfold stepD; rw [if_neg (by omega), if_neg (by omega), if_neg (by omega), if_pos (by omega)]
               rw [e1, e1]; exact ⟨⟨_, rfl⟩, L1, fs2, FB2, D2, hd1, ok_rename heo _ _, hr2, hS.sel (by repeat constructor)⟩)
            | (have e1 : ∀ x, stepD x y = aArm x y.n := fun x => by unfold stepD; rw [if_neg (by omega), if_neg (by omega), if_neg (by omega), if_neg (by omega), if_pos (by omega)]
               rw [e1, e1]; exact ⟨⟨_, rfl⟩, L1, fs2, FB2, D2, hd1, ok_arm heo _ hyn.2, hr2, hS.sel (by repeat constructor)⟩)
            | (have e1 : ∀ x, stepD x y = aCrash x y.n := fun x => by unfold stepD; rw [if_neg (by omega), if_neg (by omega), if_neg (by omega), if_neg (by omega), if_neg (by omega), if_pos (by omega)]
               rw [e1, e1]; exact ⟨⟨_, rfl⟩, L1, fs2, FB2, D2, hd1, ok_crash heo _, hr2, hS.sel (by repeat constructor)⟩)
            | (have e1 : ∀ x, stepD x y = aSpoil x y.f y.n 5 := fun x => by unfold stepD; rw [if_neg (by omega), if_neg (by omega), if_neg (by omega), if_neg (by omega), if_neg (by omega), if_neg (by omega), if_pos (by omega)]
               rw [e1, e1]; exact ⟨⟨_, rfl⟩, L1, fs2, FB2, D2, hd1, ok_spoil heo _ _ _, hr2, hS.sel (by repeat constructor)⟩)
            | (have e1 : ∀ x, stepD x y = x := fun x => by unfold stepD; rw [if_neg (by omega), if_neg (by omega), if_neg (by omega), if_neg (by omega), if_neg (by omega), if_neg (by omega), if_neg (by omega)]
               rw [e1, e1]; exact ⟨⟨_, rfl⟩, L, fs, FB, D, hd, heo, hr, hS.sel (by repeat constructor)⟩)
          · (try simp only [cx, ne_eq] at h5)
            try (exfalso; (first | omega | exact h5 trivial | contradiction | (first | omega | (simp at h5; done))); done)
            all_goals
            refine SatC.seq ?_
            refine SatC.weak (e' := [(0, _), (1, _), (5, _), (6, _), (8, _)]) (by repeat constructor) ?_
            refine SatC.region ?_
            refine SatL.pu (RunV.eql rfl rfl) rfl ?_
            refine SatL.pu (RunV.assign rfl) rfl ?_
            refine SatL.nil (SatE.thenC ?_)
            refine SatC.cond rfl (fun h6 => ?_) (fun h6 => ?_)
            · (try simp only [cx, ne_eq] at h6)
              try (exfalso; (first | omega | exact h6 trivial | contradiction | (first | omega | (simp at h6; done))); done)
              all_goals
              refine SatC.seq ?_
              refine SatC.region ?_
              refine SatL.pu (RunV.move rfl) rfl ?_
              first | refine SatL.pu (RunV.fieldAddrL rfl rfl rfl) rfl ?_ | refine SatL.pu (RunV.fieldAddr rfl rfl rfl) rfl ?_
              refine SatL.pu (RunV.load1 hS rfl rfl (by repeat constructor) rfl) rfl ?_
              refine SatL.op rfl (OpW.enter rfl rfl rfl (rfl) (crash_d y.n hd (hS.ownT (A := L) (by repeat constructor))) ?_)
              rintro r2 w2 ⟨L1, hd1, h⟩
              replace hS := hS.callT (A := L) (by repeat constructor) h
              refine SatL.nil (SatE.thenC ?_)
              refine SatC.region ?_
              refine SatL.pu (RunV.move rfl) rfl ?_
              first | refine SatL.pu (RunV.fieldAddrL rfl rfl rfl) rfl ?_ | refine SatL.pu (RunV.fieldAddr rfl rfl rfl) rfl ?_
              refine SatL.pu (RunV.load1 hS rfl rfl (by repeat constructor) rfl) rfl ?_
              refine SatL.op rfl (OpW.enter rfl rfl rfl (rfl) (rcrash_any y.n heo hr (hS.ownT (A := RO rb e fv FB D) (by repeat constructor))) ?_)
              rintro r3 w3 ⟨fs2, FB2, D2, _, hr2, h⟩
              replace hS := hS.callT (A := RO rb e fv FB D) (by repeat constructor) h
              simp only [RO, List.append_assoc, List.cons_append, List.nil_append, List.append_nil] at hS
              refine SatL.nil (SatE.blk_normal (SatE.thenC ?_))
              refine SatC.seq ?_
              refine SatC.weak (e' := [(6, _)]) (by repeat constructor) ?_
              refine SatC.region ?_
              refine SatL.pu (RunV.assign rfl) rfl ?_
              refine SatL.nil (SatE.thenC ?_)
              refine SatC.ret ?_
              refine SatE.ret1 rfl rfl ?_
              first
              | (have e1 : ∀ x, stepD x y = (aAppend x y.f y.b).2 := fun x => by unfold stepD; rw [if_pos (by omega)]
                 rw [e1, e1]; exact ⟨⟨_, rfl⟩, L1, fs2, FB2, D2, hd1, ok_append heo _ _, hr2, hS.sel (by repeat constructor)⟩)
              | (have e1 : ∀ x, stepD x y = (aSync x y.f).2 := fun x => by unfold stepD; rw [if_neg (by omega), if_pos (by omega)]
                 rw [e1, e1]; exact ⟨⟨_, rfl⟩, L1, fs2, FB2, D2, hd1, ok_sync heo _, hr2, hS.sel (by repeat constructor)⟩)
              | (have e1 : ∀ x, stepD x y = (aCut x y.f y.n).2 := fun x => by unfold stepD; rw [if_neg (by omega), if_neg (by omega), if_pos (by omega)]
                 rw [e1, e1]; exact ⟨⟨_, rfl⟩, L1, fs2, FB2, D2, hd1, ok_cut heo _ _, hr2, hS.sel (by repeat constructor)⟩)
              | (have e1 : ∀ x, stepD x y = (aRename x y.f y.n).2 := fun x => by unfold stepD; rw [if_neg (by omega), if_neg (by omega), if_neg (by omega), if_pos (by omega)]
                 rw [e1, e1]; exact ⟨⟨_, rfl⟩, L1, fs2, FB2, D2, hd1, ok_rename heo _ _, hr2, hS.sel (by repeat constructor)⟩)
              | (have e1 : ∀ x, stepD x y = aArm x y.n := fun x => by unfold stepD; rw [if_neg (by omega), if_neg (by omega), if_neg (by omega), if_neg (by omega), if_pos (by omega)]
                 rw [e1, e1]; exact ⟨⟨_, rfl⟩, L1, fs2, FB2, D2, hd1, ok_arm heo _ hyn.2, hr2, hS.sel (by repeat constructor)⟩)
              | (have e1 : ∀ x, stepD x y = aCrash x y.n := fun x => by unfold stepD; rw [if_neg (by omega), if_neg (by omega), if_neg (by omega), if_neg (by omega), if_neg (by omega), if_pos (by omega)]
                 rw [e1, e1]; exact ⟨⟨_, rfl⟩, L1, fs2, FB2, D2, hd1, ok_crash heo _, hr2, hS.sel (by repeat constructor)⟩)
              | (have e1 : ∀ x, stepD x y = aSpoil x y.f y.n 5 := fun x => by unfold stepD; rw [if_neg (by omega), if_neg (by omega), if_neg (by omega), if_neg (by omega), if_neg (by omega), if_neg (by omega), if_pos (by omega)]
                 rw [e1, e1]; exact ⟨⟨_, rfl⟩, L1, fs2, FB2, D2, hd1, ok_spoil heo _ _ _, hr2, hS.sel (by repeat constructor)⟩)
              | (have e1 : ∀ x, stepD x y = x := fun x => by unfold stepD; rw [if_neg (by omega), if_neg (by omega), if_neg (by omega), if_neg (by omega), if_neg (by omega), if_neg (by omega), if_neg (by omega)]
                 rw [e1, e1]; exact ⟨⟨_, rfl⟩, L, fs, FB, D, hd, heo, hr, hS.sel (by repeat constructor)⟩)
            · (try simp only [cx, ne_eq] at h6)
              try (exfalso; (first | omega | exact h6 trivial | contradiction | (first | omega | (simp at h6; done))); done)
              all_goals
              refine SatC.seq ?_
              refine SatC.region ?_
              refine SatL.pu (RunV.eql rfl rfl) rfl ?_
              refine SatL.pu (RunV.assign rfl) rfl ?_
              refine SatL.nil (SatE.thenC ?_)
              refine SatC.cond rfl (fun h7 => ?_) (fun h7 => ?_)
              · (try simp only [cx, ne_eq] at h7)
                try (exfalso; (first | omega | exact h7 trivial | contradiction | (first | omega | (simp at h7; done))); done)
                all_goals
                refine SatC.seq ?_
                refine SatC.drawnT 14 hS (hS.sel (R := [(b5, C 32 (sr y))]) (by repeat constructor)) (by kernel_rfl) ?_
                clear hS
                intro w2 hh hS hD
                refine SatD.tk 0 rfl hD (fun _ hw => RunV.move rfl) ?_
                first | refine SatD.tk 1 rfl hD (fun _ hw => RunV.fieldAddrL rfl rfl rfl) ?_ | refine SatD.tk 1 rfl hD (fun _ hw => RunV.fieldAddr rfl rfl rfl) ?_
                refine SatD.tk 2 rfl hD (fun _ hw => RunV.load1 hw rfl rfl (by repeat constructor) rfl) ?_
                first | refine SatD.tk 3 rfl hD (fun _ hw => RunV.fieldAddrL rfl rfl rfl) ?_ | refine SatD.tk 3 rfl hD (fun _ hw => RunV.fieldAddr rfl rfl rfl) ?_
                refine SatD.tk 4 rfl hD (fun _ hw => RunV.load1 hw rfl rfl (by repeat constructor) rfl) ?_
                refine SatD.tk 6 rfl hD (fun _ hw => RunV.move rfl) ?_
                first | refine SatD.tk 7 rfl hD (fun _ hw => RunV.fieldAddrL rfl rfl rfl) ?_ | refine SatD.tk 7 rfl hD (fun _ hw => RunV.fieldAddr rfl rfl rfl) ?_
                refine SatD.tk 8 rfl hD (fun _ hw => RunV.load1 hw rfl rfl (by repeat constructor) rfl) ?_
                first | refine SatD.tk 9 rfl hD (fun _ hw => RunV.fieldAddrL rfl rfl rfl) ?_ | refine SatD.tk 9 rfl hD (fun _ hw => RunV.fieldAddr rfl rfl rfl) ?_
                refine SatD.tk 10 rfl hD (fun _ hw => RunV.load1 hw rfl rfl (by repeat constructor) rfl) ?_
                refine SatD.ef 5 rfl (OpW.enter rfl rfl rfl (rfl) (spoil_d y.f y.n 5 hd (hS.ownT (A := L) (by repeat constructor))) ?_)
                rintro r3 w3 ⟨rfl, L1, hd1, h⟩
                replace hS := hS.callT (A := L) (by repeat constructor) h
                refine keepS (hS.sel (by repeat constructor)) (fun hD => ?_)
                refine SatD.ef 11 rfl (OpW.enter rfl rfl rfl (rfl) (rspoil_any y.f y.n 5 heo hr (hS.ownT (A := RO rb e fv FB D) (by repeat constructor))) ?_)
                rintro r4 w4 ⟨rfl, fs2, FB2, D2, _, hr2, h⟩
                replace hS := hS.callT (A := RO rb e fv FB D) (by repeat constructor) h
                simp only [RO, List.append_assoc, List.cons_append, List.nil_append, List.append_nil] at hS
                refine keepS (hS.sel (by repeat constructor)) (fun hD => ?_)
                refine SatD.tk 12 rfl hD (fun _ hw => RunV.beql rfl rfl rfl) ?_
                refine SatD.tk 13 rfl hD (fun _ hw => RunV.assign rfl) ?_
                refine SatD.done 0 (by kernel_rfl) (SatE.thenC ?_)
                clear hD
                refine SatC.ret (SatE.blk_ret (SatE.then_ret ?_))
                refine SatE.ret1 rfl rfl ?_
                first
                | (have e1 : ∀ x, stepD x y = (aAppend x y.f y.b).2 := fun x => by unfold stepD; rw [if_pos (by omega)]
                   rw [e1, e1]; exact ⟨⟨_, rfl⟩, L1, fs2, FB2, D2, hd1, ok_append heo _ _, hr2, hS.sel (by repeat constructor)⟩)
                | (have e1 : ∀ x, stepD x y = (aSync x y.f).2 := fun x => by unfold stepD; rw [if_neg (by omega), if_pos (by omega)]
                   rw [e1, e1]; exact ⟨⟨_, rfl⟩, L1, fs2, FB2, D2, hd1, ok_sync heo _, hr2, hS.sel (by repeat constructor)⟩)
                | (have e1 : ∀ x, stepD x y = (aCut x y.f y.n).2 := fun x => by unfold stepD; rw [if_neg (by omega), if_neg (by omega), if_pos (by omega)]
                   rw [e1, e1]; exact ⟨⟨_, rfl⟩, L1, fs2, FB2, D2, hd1, ok_cut heo _ _, hr2, hS.sel (by repeat constructor)⟩)
                | (have e1 : ∀ x, stepD x y = (aRename x y.f y.n).2 := fun x => by unfold stepD; rw [if_neg (by omega), if_neg (by omega), if_neg (by omega), if_pos (by omega)]
                   rw [e1, e1]; exact ⟨⟨_, rfl⟩, L1, fs2, FB2, D2, hd1, ok_rename heo _ _, hr2, hS.sel (by repeat constructor)⟩)
                | (have e1 : ∀ x, stepD x y = aArm x y.n := fun x => by unfold stepD; rw [if_neg (by omega), if_neg (by omega), if_neg (by omega), if_neg (by omega), if_pos (by omega)]
                   rw [e1, e1]; exact ⟨⟨_, rfl⟩, L1, fs2, FB2, D2, hd1, ok_arm heo _ hyn.2, hr2, hS.sel (by repeat constructor)⟩)
                | (have e1 : ∀ x, stepD x y = aCrash x y.n := fun x => by unfold stepD; rw [if_neg (by omega), if_neg (by omega), if_neg (by omega), if_neg (by omega), if_neg (by omega), if_pos (by omega)]
                   rw [e1, e1]; exact ⟨⟨_, rfl⟩, L1, fs2, FB2, D2, hd1, ok_crash heo _, hr2, hS.sel (by repeat constructor)⟩)
                | (have e1 : ∀ x, stepD x y = aSpoil x y.f y.n 5 := fun x => by unfold stepD; rw [if_neg (by omega), if_neg (by omega), if_neg (by omega), if_neg (by omega), if_neg (by omega), if_neg (by omega), if_pos (by omega)]
                   rw [e1, e1]; exact ⟨⟨_, rfl⟩, L1, fs2, FB2, D2, hd1, ok_spoil heo _ _ _, hr2, hS.sel (by repeat constructor)⟩)
                | (have e1 : ∀ x, stepD x y = x := fun x => by unfold stepD; rw [if_neg (by omega), if_neg (by omega), if_neg (by omega), if_neg (by omega), if_neg (by omega), if_neg (by omega), if_neg (by omega)]
                   rw [e1, e1]; exact ⟨⟨_, rfl⟩, L, fs, FB, D, hd, heo, hr, hS.sel (by repeat constructor)⟩)
              · (try simp only [cx, ne_eq] at h7)
                try (exfalso; (first | omega | exact h7 trivial | contradiction | (first | omega | (simp at h7; done))); done)
                all_goals
                refine SatC.skip (SatE.blk_normal (SatE.thenC ?_))
                refine SatC.seq ?_
                refine SatC.region ?_
                refine SatL.pu (RunV.assign rfl) rfl ?_
                refine SatL.nil (SatE.thenC ?_)
                refine SatC.ret ?_
                refine SatE.ret1 rfl rfl ?_
                first
                | (have e1 : ∀ x, stepD x y = (aAppend x y.f y.b).2 := fun x => by unfold stepD; rw [if_pos (by omega)]
                   rw [e1, e1]; exact ⟨⟨_, rfl⟩, L1, fs2, FB2, D2, hd1, ok_append heo _ _, hr2, hS.sel (by repeat constructor)⟩)
                | (have e1 : ∀ x, stepD x y = (aSync x y.f).2 := fun x => by unfold stepD; rw [if_neg (by omega), if_pos (by omega)]
                   rw [e1, e1]; exact ⟨⟨_, rfl⟩, L1, fs2, FB2, D2, hd1, ok_sync heo _, hr2, hS.sel (by repeat constructor)⟩)
                | (have e1 : ∀ x, stepD x y = (aCut x y.f y.n).2 := fun x => by unfold stepD; rw [if_neg (by omega), if_neg (by omega), if_pos (by omega)]
                   rw [e1, e1]; exact ⟨⟨_, rfl⟩, L1, fs2, FB2, D2, hd1, ok_cut heo _ _, hr2, hS.sel (by repeat constructor)⟩)
                | (have e1 : ∀ x, stepD x y = (aRename x y.f y.n).2 := fun x => by unfold stepD; rw [if_neg (by omega), if_neg (by omega), if_neg (by omega), if_pos (by omega)]
                   rw [e1, e1]; exact ⟨⟨_, rfl⟩, L1, fs2, FB2, D2, hd1, ok_rename heo _ _, hr2, hS.sel (by repeat constructor)⟩)
                | (have e1 : ∀ x, stepD x y = aArm x y.n := fun x => by unfold stepD; rw [if_neg (by omega), if_neg (by omega), if_neg (by omega), if_neg (by omega), if_pos (by omega)]
                   rw [e1, e1]; exact ⟨⟨_, rfl⟩, L1, fs2, FB2, D2, hd1, ok_arm heo _ hyn.2, hr2, hS.sel (by repeat constructor)⟩)
                | (have e1 : ∀ x, stepD x y = aCrash x y.n := fun x => by unfold stepD; rw [if_neg (by omega), if_neg (by omega), if_neg (by omega), if_neg (by omega), if_neg (by omega), if_pos (by omega)]
                   rw [e1, e1]; exact ⟨⟨_, rfl⟩, L1, fs2, FB2, D2, hd1, ok_crash heo _, hr2, hS.sel (by repeat constructor)⟩)
                | (have e1 : ∀ x, stepD x y = aSpoil x y.f y.n 5 := fun x => by unfold stepD; rw [if_neg (by omega), if_neg (by omega), if_neg (by omega), if_neg (by omega), if_neg (by omega), if_neg (by omega), if_pos (by omega)]
                   rw [e1, e1]; exact ⟨⟨_, rfl⟩, L1, fs2, FB2, D2, hd1, ok_spoil heo _ _ _, hr2, hS.sel (by repeat constructor)⟩)
                | (have e1 : ∀ x, stepD x y = x := fun x => by unfold stepD; rw [if_neg (by omega), if_neg (by omega), if_neg (by omega), if_neg (by omega), if_neg (by omega), if_neg (by omega), if_neg (by omega)]
                   rw [e1, e1]; exact ⟨⟨_, rfl⟩, L, fs, FB, D, hd, heo, hr, hS.sel (by repeat constructor)⟩)
end
end Go.Proofs.Ytahholhggohbnaa
