/- The document's Append, Sync, Cut, Rename, Arm, Spoil, Crash. -/
import Derived.Test.YtahholhggohbnaaRa
set_option linter.unusedSimpArgs false
set_option linter.unusedVariables false
set_option maxRecDepth 100000
set_option maxHeartbeats 4000000
namespace Go.Proofs.Ytahholhggohbnaa
open Go.RowKit
section
variable {b : Nat} {d : Dk} {fs : List Rf} {fv : Value} {FB D : List (Nat × Obj)} {w : World}
theorem rd_one {D : List (Nat × Obj)} {v : Value} {bs : List UInt8} (h : RdD D v bs) : v.oneCell' = true := by
  obtain ⟨⟨b, o, c, h⟩, _⟩ := h
  exact slv_one h
theorem aw_down {ok : Prop} [Decidable ok] {g : List Fa → List Fa} (h1 : d.down = true) : aWrite d ok g = (50, d) := by
  unfold aWrite
  rw [if_pos h1]
theorem aw_bad {ok : Prop} [Decidable ok] {g : List Fa → List Fa} (h1 : d.down = false) (h2 : ¬ ok) : aWrite d ok g = (2, d) := by
  unfold aWrite
  rw [if_neg (by rw [h1]; decide), if_pos h2]
theorem ap_down {n : Int} {bs : List UInt8} (h1 : d.down = true) : aAppend d n bs = (50, d) := by
  unfold aAppend
  rw [if_pos h1]
theorem ap_bad {n : Int} {bs : List UInt8} (h1 : d.down = false) (h2 : ¬ (0 ≤ n ∧ n < 4)) : aAppend d n bs = (2, d) := by
  unfold aAppend
  rw [if_neg (by rw [h1]; decide), if_pos h2]
theorem ap_full {n : Int} {bs : List UInt8} (h1 : d.down = false) (h2 : 0 ≤ n ∧ n < 4) (h3 : ¬ ((bs.length : Int) ≤ d.room - usedA d.fs)) : aAppend d n bs = (51, d) := by
  unfold aAppend
  rw [if_neg (by rw [h1]; decide), if_neg (not_not_intro h2), if_pos h3]
/-- What a call of the document's disk leaves. -/
def RPost (w : World) (b : Nat) (fv : Value) (FB D : List (Nat × Obj)) (d0 d' : Dk) (w' : World) : Prop := ∃ fs' FB' D', (∀ c ∈ D, c ∈ D') ∧ RRep d' fs' fv FB' D' ∧ St w ((RO b d0 fv FB D).map Prod.fst) (RO b d' fv FB' D') w'
theorem rappend_any (n : Int) (v : Value) (bs : List UInt8) (ho : d.Ok) (hr : RRep d fs fv FB D) (hbr : ∀ W', St w ((RO b d fv FB D).map Prod.fst) [] W' → RdRow W' v 1 (bs.map by1c)) (hown : Own w (RO b d fv FB D)) :
    Ret Try.prog 32 #[.pointer (some ⟨b, 0, none⟩), .int .i64 n, v] w fun u w' => u = .int .i64 (aAppend d n bs).1 ∧ RPost w b fv FB D d (aAppend d n bs).2 w' := by
  have hS := St.init hown
  have h4 := hr.four ho
  obtain ⟨hsl, hrd, hab⟩ := hr
  have hr : RRep d fs fv FB D := ⟨hsl, hrd, hab⟩
  obtain ⟨fc, hfv⟩ := hsl.slv
  rw [List.length_map] at hfv
  have hroom := ho.room
  have hus := ho.used
  unfold RPost
  generalize hX : (RO b d fv FB D).map Prod.fst = X at hS hbr ⊢
  obtain ⟨vb, vo, vc, hv, hvm, _, _⟩ := (hbr w (hS.sel .nil)).open
  simp only [List.length_map] at hv hvm
  refine Ret.enter Try.func32 Try.ntmps32 rfl rfl ?_
  simp only [argEnv, Nat.reduceAdd]
  refine SatC.seq ?_
  refine SatC.region ?_
  refine SatL.pu (RunV.assign rfl) rfl ?_
  refine SatL.nil (SatE.thenC ?_)
  refine SatC.seq ?_
  refine SatC.seq ?_
  refine SatC.region ?_
  refine SatL.pu (RunV.move rfl) rfl ?_
  first | refine SatL.pu (RunV.nil_ptr rfl) rfl ?_ | refine SatL.pu (RunV.nil_func rfl) rfl ?_ | refine SatL.pu (RunV.nil_yield rfl) rfl ?_
  first | refine SatL.pu (RunV.fieldAddrL rfl rfl rfl) rfl ?_ | refine SatL.pu (RunV.fieldAddr rfl rfl rfl) rfl ?_
  refine SatL.pu (RunV.load1 hS rfl rfl (by repeat constructor) rfl) rfl ?_
  refine SatL.nil (SatE.thenC ?_)
  refine SatC.cond rfl (fun h1 => ?_) (fun h1 => ?_)
  · (try simp only [cx, ne_eq] at h1)
    try (exfalso; (first | omega | exact h1 trivial | contradiction | (first | omega | (simp at h1; done))); done)
    all_goals
    refine SatC.seq ?_
    refine SatC.region ?_
    refine SatL.pu (RunV.assign rfl) rfl ?_
    refine SatL.nil (SatE.thenC ?_)
    refine SatC.ret (SatE.then_ret ?_)
    refine SatE.ret1 rfl rfl ?_
    rw [ap_down (by assumption)]
    exact ⟨rfl, fs, FB, D, fun c hc => hc, hr, hS.sel (by repeat constructor)⟩
  · (try simp only [cx, ne_eq] at h1)
    try (exfalso; (first | omega | exact h1 trivial | contradiction | (first | omega | (simp at h1; done))); done)
    all_goals
    refine SatC.skip (SatE.thenC ?_)
    refine SatC.seq ?_
    refine SatC.seq ?_
    refine SatC.region ?_
    refine SatL.pu (RunV.move rfl) rfl ?_
    refine SatL.pu (RunV.lss rfl rfl) rfl ?_
    refine SatL.pu (RunV.move rfl) rfl ?_
    refine SatL.guard rfl rfl rfl (fun h2 => ?_) (fun h2 => ?_)
    · (try simp only [cx, ne_eq] at h2)
      try (exfalso; (first | omega | exact h2 trivial | contradiction | (first | omega | (simp at h2; done))); done)
      all_goals
      refine SatL.pu (RunV.move rfl) rfl ?_
      refine SatL.guard_y rfl rfl ?_
      refine SatL.pu (RunV.gtr rfl rfl) rfl ?_
      refine SatL.pu (RunV.pick_f rfl rfl) rfl ?_
      refine SatL.nil (SatE.thenC ?_)
      refine SatC.cond rfl (fun h3 => ?_) (fun h3 => ?_)
      · (try simp only [cx, ne_eq] at h3)
        try (exfalso; (first | omega | exact h3 trivial | contradiction | (first | omega | (simp at h3; done))); done)
        all_goals
        refine SatC.seq ?_
        refine SatC.weak (e' := [(6, _)]) (by repeat constructor) ?_
        refine SatC.region ?_
        refine SatL.pu (RunV.assign rfl) rfl ?_
        refine SatL.nil (SatE.thenC ?_)
        refine SatC.ret (SatE.then_ret ?_)
        refine SatE.ret1 rfl rfl ?_
        first
        | (rw [ap_bad (by simpa using h1) (by omega)]; exact ⟨rfl, fs, FB, D, fun c hc => hc, hr, hS.sel (by repeat constructor)⟩)
        | (rw [ap_full (by simpa using h1) (by omega) (by omega)]; exact ⟨rfl, fs, FB, D, fun c hc => hc, hr, hS.sel (by repeat constructor)⟩)
        | (rw [app_yes (by simpa using h1) (by omega) (by omega)]
           refine ⟨congrArg (Value.int .i64) (by first | rw [if_pos (by assumption)] | rw [if_neg (by assumption)]), fs.set n.toNat ⟨v40, x.b ++ bs, x.s⟩, F48, B40 ++ D, fun c hc => List.mem_append_right _ hc, ⟨hsl48, ?_, by rw [rab_set hx (g := fun f => (f.1 ++ bs, f.2)) rfl, hab]; rfl⟩, ?_⟩
           · exact rset_rd (fun z hz => (hrd z hz).mono fun c hc => List.mem_append_right _ hc) (RdD.own hsl40 (fun c hc => List.mem_append_left _ hc) (by rw [List.length_append]; omega))
           · simp only [RO, burnD]
             exact hS.sel (by repeat constructor))
      · (try simp only [cx, ne_eq] at h3)
        try (exfalso; (first | omega | exact h3 trivial | contradiction | (first | omega | (simp at h3; done))); done)
        all_goals
        refine SatC.skip (SatE.thenC ?_)
        refine SatC.seq ?_
        refine SatC.seq ?_
        refine SatC.drawnT 10 hS (hS) (by kernel_rfl) ?_
        clear hS
        intro w1 hh hS hD
        refine SatD.tk 0 rfl hD (fun _ hw => RunV.move rfl) ?_
        first | refine SatD.tk 1 rfl hD (fun _ hw => RunV.lenR (by assumption) rfl rfl) ?_ | refine SatD.tk 1 rfl hD (fun _ hw => RunV.lenS rfl rfl) ?_
        refine SatD.tk 2 rfl hD (fun _ hw => RunV.move rfl) ?_
        first | refine SatD.tk 3 rfl hD (fun _ hw => RunV.nil_ptr rfl) ?_ | refine SatD.tk 3 rfl hD (fun _ hw => RunV.nil_func rfl) ?_ | refine SatD.tk 3 rfl hD (fun _ hw => RunV.nil_yield rfl) ?_
        first | refine SatD.tk 4 rfl hD (fun _ hw => RunV.fieldAddrL rfl rfl rfl) ?_ | refine SatD.tk 4 rfl hD (fun _ hw => RunV.fieldAddr rfl rfl rfl) ?_
        refine SatD.tk 5 rfl hD (fun _ hw => RunV.load1 hw rfl rfl (by repeat constructor) rfl) ?_
        refine SatD.tk 6 rfl hD (fun _ hw => RunV.move rfl) ?_
        refine SatD.ef 7 rfl (OpW.enter rfl rfl rfl (rfl) (rused_any ho hr (hS.ownT (A := RO b d fv FB D) (by repeat constructor))) ?_)
        rintro r2 w2 ⟨rfl, h⟩
        replace hS := St.callN hS h
        refine keepS (hS.sel (by repeat constructor)) (fun hD => ?_)
        refine SatD.tk 8 rfl hD (fun _ hw => RunV.sub rfl rfl (by first | exact wrapI64 (by omega) | rfl)) ?_
        refine SatD.tk 9 rfl hD (fun _ hw => RunV.gtr rfl rfl) ?_
        refine SatD.done 0 (by kernel_rfl) (SatE.thenC ?_)
        clear hD
        refine SatC.weak (e' := [(0, _), (1, _), (2, _), (6, _), (27, _)]) (by repeat constructor) ?_
        refine SatC.cond rfl (fun h4 => ?_) (fun h4 => ?_)
        · (try simp only [cx, ne_eq] at h4)
          try (exfalso; (first | omega | exact h4 trivial | contradiction | (first | omega | (simp at h4; done))); done)
          all_goals
          refine SatC.seq ?_
          refine SatC.region ?_
          refine SatL.pu (RunV.assign rfl) rfl ?_
          refine SatL.nil (SatE.thenC ?_)
          refine SatC.ret (SatE.then_ret ?_)
          refine SatE.ret1 rfl rfl ?_
          first
          | (rw [ap_bad (by simpa using h1) (by omega)]; exact ⟨rfl, fs, FB, D, fun c hc => hc, hr, hS.sel (by repeat constructor)⟩)
          | (rw [ap_full (by simpa using h1) (by omega) (by omega)]; exact ⟨rfl, fs, FB, D, fun c hc => hc, hr, hS.sel (by repeat constructor)⟩)
          | (rw [app_yes (by simpa using h1) (by omega) (by omega)]
             refine ⟨congrArg (Value.int .i64) (by first | rw [if_pos (by assumption)] | rw [if_neg (by assumption)]), fs.set n.toNat ⟨v40, x.b ++ bs, x.s⟩, F48, B40 ++ D, fun c hc => List.mem_append_right _ hc, ⟨hsl48, ?_, by rw [rab_set hx (g := fun f => (f.1 ++ bs, f.2)) rfl, hab]; rfl⟩, ?_⟩
             · exact rset_rd (fun z hz => (hrd z hz).mono fun c hc => List.mem_append_right _ hc) (RdD.own hsl40 (fun c hc => List.mem_append_left _ hc) (by rw [List.length_append]; omega))
             · simp only [RO, burnD]
               exact hS.sel (by repeat constructor))
        · (try simp only [cx, ne_eq] at h4)
          try (exfalso; (first | omega | exact h4 trivial | contradiction | (first | omega | (simp at h4; done))); done)
          all_goals
          refine SatC.skip (SatE.thenC ?_)
          refine SatC.seq ?_
          obtain ⟨x, hx⟩ := get_some fs n.toNat (by omega)
          have hxrd := hrd x (List.mem_of_getElem? hx)
          obtain ⟨⟨xb, xo, xc, hxv⟩, hxr⟩ := hxrd
          have hxl : x.b.length ≤ usedA d.fs := by rw [← hab]; exact mem_used (f := (x.b, x.s)) (List.mem_of_getElem? (rget_ab hx))
          refine SatC.region ?_
          refine SatL.pu (RunV.assign rfl) rfl ?_
          refine SatL.nil (SatE.thenC ?_)
          refine SatC.seq ?_
          refine SatC.region ?_
          refine SatL.pu (RunV.move rfl) rfl ?_
          refine SatL.pu (RunV.move rfl) rfl ?_
          first | refine SatL.pu (RunV.nil_ptr rfl) rfl ?_ | refine SatL.pu (RunV.nil_func rfl) rfl ?_ | refine SatL.pu (RunV.nil_yield rfl) rfl ?_
          first | refine SatL.pu (RunV.fieldAddrL rfl rfl rfl) rfl ?_ | refine SatL.pu (RunV.fieldAddr rfl rfl rfl) rfl ?_
          refine SatL.pu (RunV.load1 hS rfl rfl (by repeat constructor) rfl) rfl ?_
          refine SatL.pu (RunV.move rfl) rfl ?_
          first | refine SatL.pu (RunV.indexR (by assumption) rfl rfl rfl (by omega) (by omega) rfl) rfl ?_ | refine SatL.pu (RunV.indexS rfl rfl rfl (by omega) (by omega) rfl) rfl ?_
          first | refine SatL.pu (RunV.fieldAddrL rfl rfl rfl) rfl ?_ | refine SatL.pu (RunV.fieldAddr rfl rfl rfl) rfl ?_
          refine SatL.pu (RunV.loadR1g n.toNat 0 (Sl.rd hsl hS (by repeat constructor)) rfl rfl (by omega) (map_get hx) rfl) rfl ?_
          refine SatL.op rfl (OpW.appendB (news := x.b.map by1c) (B := []) (rows := []) .nil hS (.here (B := [])) hxv (by obtain ⟨b1, o1, c1, h1, _, h2, _⟩ := (hxr _ (fun c hc => (hS.sel (R := D) (by repeat constructor)).own c hc)).open; exact RdC.same h1 hxv h2 (List.length_map _)) (List.length_map _) rfl rfl rfl rfl rfl rfl rfl (by1c_one' _) (by simp only [List.length_nil]; omega) (by simp only [List.length_nil]; omega) rfl ?_)
          clear hS
          intro v37 B37 w3 hsl37 hS
          rw [List.nil_append] at hsl37
          obtain ⟨vb2, vo2, vc2, hv2, _, hc2, _⟩ := (hbr _ (hS.sel .nil)).open
          rw [List.length_map] at hv2
          refine SatL.pu (RunV.assign rfl) rfl ?_
          refine SatL.nil (SatE.thenC ?_)
          refine SatC.seq ?_
          refine SatC.region ?_
          refine SatL.pu (RunV.move rfl) rfl ?_
          refine SatL.pu (RunV.move rfl) rfl ?_
          refine SatL.op rfl (OpW.appendB (news := bs.map by1c) hsl37 hS (by repeat constructor) hv2 hc2 (List.length_map _) rfl rfl rfl rfl rfl rfl rfl (by1c_one' _) (by rw [List.length_map]; omega) (by rw [List.length_map]; omega) rfl ?_)
          clear hS
          intro v40 B40 w4 hsl40 hS
          rw [← List.map_append] at hsl40
          refine SatL.pu (RunV.assign rfl) rfl ?_
          refine SatL.nil (SatE.thenC ?_)
          refine SatC.seq ?_
          refine SatC.weak (e' := [(0, _), (1, _), (6, _), (7, _)]) (by repeat constructor) ?_
          refine SatC.region ?_
          refine SatL.pu (RunV.move rfl) rfl ?_
          first | refine SatL.pu (RunV.nil_ptr rfl) rfl ?_ | refine SatL.pu (RunV.nil_func rfl) rfl ?_ | refine SatL.pu (RunV.nil_yield rfl) rfl ?_
          first | refine SatL.pu (RunV.fieldAddrL rfl rfl rfl) rfl ?_ | refine SatL.pu (RunV.fieldAddr rfl rfl rfl) rfl ?_
          refine SatL.pu (RunV.load1 hS rfl rfl (by repeat constructor) rfl) rfl ?_
          refine SatL.pu (RunV.move rfl) rfl ?_
          refine SatL.pu (RunV.move rfl) rfl ?_
          first | refine SatL.pu (RunV.indexR (by assumption) rfl rfl rfl (by omega) (by omega) rfl) rfl ?_ | refine SatL.pu (RunV.indexS rfl rfl rfl (by omega) (by omega) rfl) rfl ?_
          first | refine SatL.pu (RunV.fieldAddrL rfl rfl rfl) rfl ?_ | refine SatL.pu (RunV.fieldAddr rfl rfl rfl) rfl ?_
          refine SatL.op rfl (OpW.storeSlJ (i := n.toNat) (j := 0) hsl hS (by repeat constructor) rfl rfl (by omega) (map_get hx) (by decide) rfl hsl40.one ?_)
          clear hS
          intro F48 w5 hsl48 hS
          change Sl 47 2 fv ((fs.map rr).set n.toNat (rr ⟨v40, x.b ++ bs, x.s⟩)) F48 at hsl48
          rw [rmap_set] at hsl48
          refine SatL.nil (SatE.thenC ?_)
          refine SatC.seq ?_
          refine SatC.seq ?_
          refine SatC.region ?_
          refine SatL.pu (RunV.move rfl) rfl ?_
          refine SatL.op rfl (OpW.enter rfl rfl rfl (rfl) (goes_any (d := d) ho.fuse (hS.ownT (A := [(b, C 44 [.int .i64 d.room, fv, .int .i64 d.fuse, .bool d.down])]) (by repeat constructor))) ?_)
          rintro r6 w6 ⟨rfl, h⟩
          replace hS := hS.callT (A := [(b, C 44 [.int .i64 d.room, fv, .int .i64 d.fuse, .bool d.down])]) (by repeat constructor) h
          refine SatL.nil (SatE.thenC ?_)
          refine SatC.weak (e' := [(6, _), (50, _)]) (by repeat constructor) ?_
          refine SatC.cond rfl (fun h5 => ?_) (fun h5 => ?_)
          · (try simp only [cx, ne_eq] at h5)
            try (exfalso; (first | omega | exact h5 trivial | contradiction | (first | omega | (simp at h5; done))); done)
            all_goals
            refine SatC.seq ?_
            refine SatC.region ?_
            refine SatL.pu (RunV.assign rfl) rfl ?_
            refine SatL.nil (SatE.thenC ?_)
            refine SatC.ret (SatE.then_ret ?_)
            refine SatE.ret1 rfl rfl ?_
            first
            | (rw [ap_bad (by simpa using h1) (by omega)]; exact ⟨rfl, fs, FB, D, fun c hc => hc, hr, hS.sel (by repeat constructor)⟩)
            | (rw [ap_full (by simpa using h1) (by omega) (by omega)]; exact ⟨rfl, fs, FB, D, fun c hc => hc, hr, hS.sel (by repeat constructor)⟩)
            | (rw [app_yes (by simpa using h1) (by omega) (by omega)]
               refine ⟨congrArg (Value.int .i64) (by first | rw [if_pos (by assumption)] | rw [if_neg (by assumption)]), fs.set n.toNat ⟨v40, x.b ++ bs, x.s⟩, F48, B40 ++ D, fun c hc => List.mem_append_right _ hc, ⟨hsl48, ?_, by rw [rab_set hx (g := fun f => (f.1 ++ bs, f.2)) rfl, hab]; rfl⟩, ?_⟩
               · exact rset_rd (fun z hz => (hrd z hz).mono fun c hc => List.mem_append_right _ hc) (RdD.own hsl40 (fun c hc => List.mem_append_left _ hc) (by rw [List.length_append]; omega))
               · simp only [RO, burnD]
                 exact hS.sel (by repeat constructor))
          · (try simp only [cx, ne_eq] at h5)
            try (exfalso; (first | omega | exact h5 trivial | contradiction | (first | omega | (simp at h5; done))); done)
            all_goals
            refine SatC.skip (SatE.thenC ?_)
            refine SatC.seq ?_
            refine SatC.region ?_
            refine SatL.pu (RunV.assign rfl) rfl ?_
            refine SatL.nil (SatE.thenC ?_)
            refine SatC.ret ?_
            refine SatE.ret1 rfl rfl ?_
            first
            | (rw [ap_bad (by simpa using h1) (by omega)]; exact ⟨rfl, fs, FB, D, fun c hc => hc, hr, hS.sel (by repeat constructor)⟩)
            | (rw [ap_full (by simpa using h1) (by omega) (by omega)]; exact ⟨rfl, fs, FB, D, fun c hc => hc, hr, hS.sel (by repeat constructor)⟩)
            | (rw [app_yes (by simpa using h1) (by omega) (by omega)]
               refine ⟨congrArg (Value.int .i64) (by first | rw [if_pos (by assumption)] | rw [if_neg (by assumption)]), fs.set n.toNat ⟨v40, x.b ++ bs, x.s⟩, F48, B40 ++ D, fun c hc => List.mem_append_right _ hc, ⟨hsl48, ?_, by rw [rab_set hx (g := fun f => (f.1 ++ bs, f.2)) rfl, hab]; rfl⟩, ?_⟩
               · exact rset_rd (fun z hz => (hrd z hz).mono fun c hc => List.mem_append_right _ hc) (RdD.own hsl40 (fun c hc => List.mem_append_left _ hc) (by rw [List.length_append]; omega))
               · simp only [RO, burnD]
                 exact hS.sel (by repeat constructor))
    · (try simp only [cx, ne_eq] at h2)
      try (exfalso; (first | omega | exact h2 trivial | contradiction | (first | omega | (simp at h2; done))); done)
      all_goals
      refine SatL.guard_n rfl rfl rfl rfl ?_
      refine SatL.pu (RunV.pick_t rfl rfl) rfl ?_
      refine SatL.nil (SatE.thenC ?_)
      refine SatC.cond_t rfl ?_
      refine SatC.seq ?_
      refine SatC.weak (e' := [(6, _)]) (by repeat constructor) ?_
      refine SatC.region ?_
      refine SatL.pu (RunV.assign rfl) rfl ?_
      refine SatL.nil (SatE.thenC ?_)
      refine SatC.ret (SatE.then_ret ?_)
      refine SatE.ret1 rfl rfl ?_
      first
      | (rw [ap_bad (by simpa using h1) (by omega)]; exact ⟨rfl, fs, FB, D, fun c hc => hc, hr, hS.sel (by repeat constructor)⟩)
      | (rw [ap_full (by simpa using h1) (by omega) (by omega)]; exact ⟨rfl, fs, FB, D, fun c hc => hc, hr, hS.sel (by repeat constructor)⟩)
      | (rw [app_yes (by simpa using h1) (by omega) (by omega)]
         refine ⟨congrArg (Value.int .i64) (by first | rw [if_pos (by assumption)] | rw [if_neg (by assumption)]), fs.set n.toNat ⟨v40, x.b ++ bs, x.s⟩, F48, B40 ++ D, fun c hc => List.mem_append_right _ hc, ⟨hsl48, ?_, by rw [rab_set hx (g := fun f => (f.1 ++ bs, f.2)) rfl, hab]; rfl⟩, ?_⟩
         · exact rset_rd (fun z hz => (hrd z hz).mono fun c hc => List.mem_append_right _ hc) (RdD.own hsl40 (fun c hc => List.mem_append_left _ hc) (by rw [List.length_append]; omega))
         · simp only [RO, burnD]
           exact hS.sel (by repeat constructor))
end
end Go.Proofs.Ytahholhggohbnaa
