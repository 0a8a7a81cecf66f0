/- The document's Sync, Cut, Rename, Arm, Spoil, Crash. -/
import Derived.Test.YtahholhggohbnaaRb
set_option linter.unusedSimpArgs false
set_option linter.unusedVariables false
set_option maxRecDepth 100000
set_option maxHeartbeats 4000000
namespace Go.Proofs.Ytahholhggohbnaa
open Go.RowKit
theorem RdD.take {D : List (Nat × Obj)} {v : Value} {bs : List UInt8} (h : RdD D v bs) {m : Nat} (hm : m ≤ bs.length) : RdD D (cutM v m m 1) (bs.take m) := by
  obtain ⟨⟨b, o, c, hv⟩, hr⟩ := h
  have hc := SlV.cutM 1 hv hm
  have hl : (bs.take m).length = m := by rw [List.length_take]; omega
  refine ⟨⟨b, o, m, by rw [hl]; exact hc⟩, fun w hw => ?_⟩
  obtain ⟨b1, o1, c1, h1, hmx, h2, _⟩ := (hr w hw).open
  rw [List.length_map] at hmx
  refine RdRow.of hc (by rw [List.length_map, hl]) (by rw [List.length_map, hl]; omega) ?_ (by decide)
  rw [List.map_take]
  exact (RdC.same h1 hv h2 (List.length_map _)).take
theorem rab_ren {fs : List Rf} {x : Rf} {i j : Nat} (hx : fs[i]? = some x) : rab ((fs.set j x).set i ⟨.slice none 0 0, [], 0⟩) = ((rab fs).set j ((rab fs)[i]?.getD ([], 0))).set i ([], 0) := by
  rw [rget_ab hx]
  unfold rab
  rw [List.map_set, List.map_set]
  rfl
section
variable {b : Nat} {d : Dk} {fs : List Rf} {fv : Value} {FB D : List (Nat × Obj)} {w : World}
theorem rsync_any (n : Int) (ho : d.Ok) (hr : RRep d fs fv FB D) (hown : Own w (RO b d fv FB D)) :
    Ret Try.prog 33 #[.pointer (some ⟨b, 0, none⟩), .int .i64 n] w fun u w' => u = .int .i64 (aSync d n).1 ∧ RPost w b fv FB D d (aSync d n).2 w' := by
  have hS := St.init hown
  have h4 := hr.four ho
  obtain ⟨hsl, hrd, hab⟩ := hr
  have hr : RRep d fs fv FB D := ⟨hsl, hrd, hab⟩
  obtain ⟨fc, hfv⟩ := hsl.slv
  rw [List.length_map] at hfv
  unfold RPost
  generalize hX : (RO b d fv FB D).map Prod.fst = X at hS ⊢
  refine Ret.enter Try.func33 Try.ntmps33 rfl rfl ?_
  simp only [argEnv, Nat.reduceAdd]
  refine SatC.seq ?_
  refine SatC.region ?_
  refine SatL.pu (RunV.assign rfl) rfl ?_
  refine SatL.nil (SatE.thenC ?_)
  refine SatC.seq ?_
  refine SatC.seq ?_
  refine SatC.region ?_
  refine SatL.pu (RunV.move rfl) rfl ?_
  first | refine SatL.pu (RunV.nil_ptr rfl) rfl ?_ | refine SatL.pu (RunV.nil_func rfl) rfl ?_ | refine SatL.pu (RunV.nil_yield rfl) rfl ?_
  first | refine SatL.pu (RunV.fieldAddrL rfl rfl rfl) rfl ?_ | refine SatL.pu (RunV.fieldAddr rfl rfl rfl) rfl ?_
  refine SatL.pu (RunV.load1 hS rfl rfl (by repeat constructor) rfl) rfl ?_
  refine SatL.nil (SatE.thenC ?_)
  refine SatC.cond rfl (fun h1 => ?_) (fun h1 => ?_)
  · (try simp only [cx, ne_eq] at h1)
    try (exfalso; (first | omega | exact h1 trivial | contradiction | (first | omega | (simp at h1; done))); done)
    all_goals
    refine SatC.seq ?_
    refine SatC.region ?_
    refine SatL.pu (RunV.assign rfl) rfl ?_
    refine SatL.nil (SatE.thenC ?_)
    refine SatC.ret (SatE.then_ret ?_)
    refine SatE.ret1 rfl rfl ?_
    rw [show aSync d n = (50, d) from aw_down (by assumption)]
    exact ⟨rfl, fs, FB, D, fun c hc => hc, hr, hS.sel (by repeat constructor)⟩
  · (try simp only [cx, ne_eq] at h1)
    try (exfalso; (first | omega | exact h1 trivial | contradiction | (first | omega | (simp at h1; done))); done)
    all_goals
    refine SatC.skip (SatE.thenC ?_)
    refine SatC.seq ?_
    refine SatC.seq ?_
    refine SatC.region ?_
    refine SatL.pu (RunV.move rfl) rfl ?_
    refine SatL.pu (RunV.lss rfl rfl) rfl ?_
    refine SatL.pu (RunV.move rfl) rfl ?_
    refine SatL.guard rfl rfl rfl (fun h2 => ?_) (fun h2 => ?_)
    · (try simp only [cx, ne_eq] at h2)
      try (exfalso; (first | omega | exact h2 trivial | contradiction | (first | omega | (simp at h2; done))); done)
      all_goals
      refine SatL.pu (RunV.move rfl) rfl ?_
      refine SatL.guard_y rfl rfl ?_
      refine SatL.pu (RunV.gtr rfl rfl) rfl ?_
      refine SatL.pu (RunV.pick_f rfl rfl) rfl ?_
      refine SatL.nil (SatE.thenC ?_)
      refine SatC.cond rfl (fun h3 => ?_) (fun h3 => ?_)
      · (try simp only [cx, ne_eq] at h3)
        try (exfalso; (first | omega | exact h3 trivial | contradiction | (first | omega | (simp at h3; done))); done)
        all_goals
        refine SatC.seq ?_
        refine SatC.weak (e' := [(4, _)]) (by repeat constructor) ?_
        refine SatC.region ?_
        refine SatL.pu (RunV.assign rfl) rfl ?_
        refine SatL.nil (SatE.thenC ?_)
        refine SatC.ret (SatE.then_ret ?_)
        refine SatE.ret1 rfl rfl ?_
        first
        | (rw [show aSync d n = (2, d) from aw_bad (by simpa using h1) (by omega)]; exact ⟨rfl, fs, FB, D, fun c hc => hc, hr, hS.sel (by repeat constructor)⟩)
        | (have hz : d.fuse = 0 := by assumption
           rw [show aSync d n = (50, _) from aw_burn (by simpa using h1) (by omega) hz]
           rw [decide_eq_true hz, Bool.or_true, show burnF d.fuse = d.fuse from if_neg (by omega)] at hS
           exact ⟨rfl, fs, FB, D, fun c hc => hc, ⟨hsl, hrd, hab⟩, hS.sel (by repeat constructor)⟩)
        | (have hz : ¬ d.fuse = 0 := by assumption
           rw [show aSync d n = (0, _) from aw_yes (by simpa using h1) (by omega) hz]
           rw [decide_eq_false hz, Bool.or_false] at hS
           exact ⟨rfl, fs.set n.toNat ⟨x.v, x.b, (x.b.length : Int)⟩, F32, D, fun c hc => hc, ⟨hsl32, rset_rd hrd (hrd x (List.mem_of_getElem? hx)), by rw [rab_set hx (g := fun f => (f.1, (f.1.length : Int))) rfl, hab]⟩, hS.sel (by repeat constructor)⟩)
      · (try simp only [cx, ne_eq] at h3)
        try (exfalso; (first | omega | exact h3 trivial | contradiction | (first | omega | (simp at h3; done))); done)
        all_goals
        refine SatC.skip (SatE.thenC ?_)
        refine SatC.seq ?_
        refine SatC.seq ?_
        refine SatC.region ?_
        refine SatL.pu (RunV.move rfl) rfl ?_
        refine SatL.op rfl (OpW.enter rfl rfl rfl (rfl) (goes_any (d := d) ho.fuse (hS.ownT (A := [(b, C 44 [.int .i64 d.room, fv, .int .i64 d.fuse, .bool d.down])]) (by repeat constructor))) ?_)
        rintro r1 w1 ⟨rfl, h⟩
        replace hS := hS.callT (A := [(b, C 44 [.int .i64 d.room, fv, .int .i64 d.fuse, .bool d.down])]) (by repeat constructor) h
        refine SatL.nil (SatE.thenC ?_)
        refine SatC.cond rfl (fun h4 => ?_) (fun h4 => ?_)
        · (try simp only [cx, ne_eq] at h4)
          try (exfalso; (first | omega | exact h4 trivial | contradiction | (first | omega | (simp at h4; done))); done)
          all_goals
          refine SatC.seq ?_
          refine SatC.weak (e' := [(4, _)]) (by repeat constructor) ?_
          refine SatC.region ?_
          refine SatL.pu (RunV.assign rfl) rfl ?_
          refine SatL.nil (SatE.thenC ?_)
          refine SatC.ret (SatE.then_ret ?_)
          refine SatE.ret1 rfl rfl ?_
          first
          | (rw [show aSync d n = (2, d) from aw_bad (by simpa using h1) (by omega)]; exact ⟨rfl, fs, FB, D, fun c hc => hc, hr, hS.sel (by repeat constructor)⟩)
          | (have hz : d.fuse = 0 := by assumption
             rw [show aSync d n = (50, _) from aw_burn (by simpa using h1) (by omega) hz]
             rw [decide_eq_true hz, Bool.or_true, show burnF d.fuse = d.fuse from if_neg (by omega)] at hS
             exact ⟨rfl, fs, FB, D, fun c hc => hc, ⟨hsl, hrd, hab⟩, hS.sel (by repeat constructor)⟩)
          | (have hz : ¬ d.fuse = 0 := by assumption
             rw [show aSync d n = (0, _) from aw_yes (by simpa using h1) (by omega) hz]
             rw [decide_eq_false hz, Bool.or_false] at hS
             exact ⟨rfl, fs.set n.toNat ⟨x.v, x.b, (x.b.length : Int)⟩, F32, D, fun c hc => hc, ⟨hsl32, rset_rd hrd (hrd x (List.mem_of_getElem? hx)), by rw [rab_set hx (g := fun f => (f.1, (f.1.length : Int))) rfl, hab]⟩, hS.sel (by repeat constructor)⟩)
        · (try simp only [cx, ne_eq] at h4)
          try (exfalso; (first | omega | exact h4 trivial | contradiction | (first | omega | (simp at h4; done))); done)
          all_goals
          refine SatC.skip (SatE.thenC ?_)
          refine SatC.seq ?_
          refine SatC.weak (e' := [(0, _), (1, _), (4, _)]) (by repeat constructor) ?_
          obtain ⟨x, hx⟩ := get_some fs n.toNat (by omega)
          have hxrd := hrd x (List.mem_of_getElem? hx)
          obtain ⟨⟨xb, xo, xc, hxv⟩, hxr⟩ := hxrd
          refine SatC.drawnT 16 hS (hS) (by kernel_rfl) ?_
          clear hS
          intro w2 hh hS hD
          refine SatD.tk 0 rfl hD (fun _ hw => RunV.move rfl) ?_
          first | refine SatD.tk 1 rfl hD (fun _ hw => RunV.nil_ptr rfl) ?_ | refine SatD.tk 1 rfl hD (fun _ hw => RunV.nil_func rfl) ?_ | refine SatD.tk 1 rfl hD (fun _ hw => RunV.nil_yield rfl) ?_
          first | refine SatD.tk 2 rfl hD (fun _ hw => RunV.fieldAddrL rfl rfl rfl) ?_ | refine SatD.tk 2 rfl hD (fun _ hw => RunV.fieldAddr rfl rfl rfl) ?_
          refine SatD.tk 3 rfl hD (fun _ hw => RunV.load1 hw rfl rfl (by repeat constructor) rfl) ?_
          refine SatD.tk 4 rfl hD (fun _ hw => RunV.move rfl) ?_
          refine SatD.tk 5 rfl hD (fun _ hw => RunV.move rfl) ?_
          first | refine SatD.tk 6 rfl hD (fun _ hw => RunV.nil_ptr rfl) ?_ | refine SatD.tk 6 rfl hD (fun _ hw => RunV.nil_func rfl) ?_ | refine SatD.tk 6 rfl hD (fun _ hw => RunV.nil_yield rfl) ?_
          first | refine SatD.tk 7 rfl hD (fun _ hw => RunV.fieldAddrL rfl rfl rfl) ?_ | refine SatD.tk 7 rfl hD (fun _ hw => RunV.fieldAddr rfl rfl rfl) ?_
          refine SatD.tk 8 rfl hD (fun _ hw => RunV.load1 hw rfl rfl (by repeat constructor) rfl) ?_
          refine SatD.tk 9 rfl hD (fun _ hw => RunV.move rfl) ?_
          first | refine SatD.tk 10 rfl hD (fun _ hw => RunV.indexR (by assumption) rfl rfl rfl (by omega) (by omega) rfl) ?_ | refine SatD.tk 10 rfl hD (fun _ hw => RunV.indexS rfl rfl rfl (by omega) (by omega) rfl) ?_
          first | refine SatD.tk 11 rfl hD (fun _ hw => RunV.fieldAddrL rfl rfl rfl) ?_ | refine SatD.tk 11 rfl hD (fun _ hw => RunV.fieldAddr rfl rfl rfl) ?_
          refine SatD.tk 12 rfl hD (fun _ hw => RunV.loadR1g n.toNat 0 (Sl.rd hsl hw (by repeat constructor)) rfl rfl (by omega) (map_get hx) rfl) ?_
          first | refine SatD.tk 13 rfl hD (fun _ hw => RunV.lenR (by assumption) rfl rfl) ?_ | refine SatD.tk 13 rfl hD (fun _ hw => RunV.lenS rfl rfl) ?_
          first | refine SatD.tkp 14 rfl [15] hD (fun _ hw => RunV.indexR (by assumption) rfl rfl rfl (by omega) (by omega) rfl) ?_ | refine SatD.tkp 14 rfl [15] hD (fun _ hw => RunV.indexS rfl rfl rfl (by omega) (by omega) rfl) ?_
          first | refine SatD.tk 15 rfl hD (fun _ hw => RunV.fieldAddrL rfl rfl rfl) ?_ | refine SatD.tk 15 rfl hD (fun _ hw => RunV.fieldAddr rfl rfl rfl) ?_
          refine SatD.effF (by kernel_rfl) rfl rfl (OpW.storeSlJ (i := n.toNat) (j := 1) hsl hS (by repeat constructor) rfl rfl (by omega) (map_get hx) (by decide) rfl rfl ?_)
          clear hS
          intro F32 w3 hsl32 hS
          change Sl 47 2 fv ((fs.map rr).set n.toNat (rr ⟨x.v, x.b, (x.b.length : Int)⟩)) F32 at hsl32
          rw [rmap_set] at hsl32
          refine SatD.done 0 (by kernel_rfl) (SatE.thenC ?_)
          clear hD
          refine SatC.seq ?_
          refine SatC.weak (e' := [(4, _)]) (by repeat constructor) ?_
          refine SatC.region ?_
          refine SatL.pu (RunV.assign rfl) rfl ?_
          refine SatL.nil (SatE.thenC ?_)
          refine SatC.ret ?_
          refine SatE.ret1 rfl rfl ?_
          first
          | (rw [show aSync d n = (2, d) from aw_bad (by simpa using h1) (by omega)]; exact ⟨rfl, fs, FB, D, fun c hc => hc, hr, hS.sel (by repeat constructor)⟩)
          | (have hz : d.fuse = 0 := by assumption
             rw [show aSync d n = (50, _) from aw_burn (by simpa using h1) (by omega) hz]
             rw [decide_eq_true hz, Bool.or_true, show burnF d.fuse = d.fuse from if_neg (by omega)] at hS
             exact ⟨rfl, fs, FB, D, fun c hc => hc, ⟨hsl, hrd, hab⟩, hS.sel (by repeat constructor)⟩)
          | (have hz : ¬ d.fuse = 0 := by assumption
             rw [show aSync d n = (0, _) from aw_yes (by simpa using h1) (by omega) hz]
             rw [decide_eq_false hz, Bool.or_false] at hS
             exact ⟨rfl, fs.set n.toNat ⟨x.v, x.b, (x.b.length : Int)⟩, F32, D, fun c hc => hc, ⟨hsl32, rset_rd hrd (hrd x (List.mem_of_getElem? hx)), by rw [rab_set hx (g := fun f => (f.1, (f.1.length : Int))) rfl, hab]⟩, hS.sel (by repeat constructor)⟩)
    · (try simp only [cx, ne_eq] at h2)
      try (exfalso; (first | omega | exact h2 trivial | contradiction | (first | omega | (simp at h2; done))); done)
      all_goals
      refine SatL.guard_n rfl rfl rfl rfl ?_
      refine SatL.pu (RunV.pick_t rfl rfl) rfl ?_
      refine SatL.nil (SatE.thenC ?_)
      refine SatC.cond_t rfl ?_
      refine SatC.seq ?_
      refine SatC.weak (e' := [(4, _)]) (by repeat constructor) ?_
      refine SatC.region ?_
      refine SatL.pu (RunV.assign rfl) rfl ?_
      refine SatL.nil (SatE.thenC ?_)
      refine SatC.ret (SatE.then_ret ?_)
      refine SatE.ret1 rfl rfl ?_
      first
      | (rw [show aSync d n = (2, d) from aw_bad (by simpa using h1) (by omega)]; exact ⟨rfl, fs, FB, D, fun c hc => hc, hr, hS.sel (by repeat constructor)⟩)
      | (have hz : d.fuse = 0 := by assumption
         rw [show aSync d n = (50, _) from aw_burn (by simpa using h1) (by omega) hz]
         rw [decide_eq_true hz, Bool.or_true, show burnF d.fuse = d.fuse from if_neg (by omega)] at hS
         exact ⟨rfl, fs, FB, D, fun c hc => hc, ⟨hsl, hrd, hab⟩, hS.sel (by repeat constructor)⟩)
      | (have hz : ¬ d.fuse = 0 := by assumption
         rw [show aSync d n = (0, _) from aw_yes (by simpa using h1) (by omega) hz]
         rw [decide_eq_false hz, Bool.or_false] at hS
         exact ⟨rfl, fs.set n.toNat ⟨x.v, x.b, (x.b.length : Int)⟩, F32, D, fun c hc => hc, ⟨hsl32, rset_rd hrd (hrd x (List.mem_of_getElem? hx)), by rw [rab_set hx (g := fun f => (f.1, (f.1.length : Int))) rfl, hab]⟩, hS.sel (by repeat constructor)⟩)
theorem rcut_any (n m : Int) (ho : d.Ok) (hr : RRep d fs fv FB D) (hown : Own w (RO b d fv FB D)) :
    Ret Try.prog 34 #[.pointer (some ⟨b, 0, none⟩), .int .i64 n, .int .i64 m] w fun u w' => u = .int .i64 (aCut d n m).1 ∧ RPost w b fv FB D d (aCut d n m).2 w' := by
  have hS := St.init hown
  have h4 := hr.four ho
  obtain ⟨hsl, hrd, hab⟩ := hr
  have hr : RRep d fs fv FB D := ⟨hsl, hrd, hab⟩
  obtain ⟨fc, hfv⟩ := hsl.slv
  rw [List.length_map] at hfv
  unfold RPost
  generalize hX : (RO b d fv FB D).map Prod.fst = X at hS ⊢
  by_cases hn : 0 ≤ n ∧ n < 4
  · obtain ⟨x, hx⟩ := get_some fs n.toNat (by omega)
    have hxrd := hrd x (List.mem_of_getElem? hx)
    obtain ⟨⟨xb, xo, xc, hxv⟩, hxr⟩ := hxrd
    have hlA : lenA d.fs n = x.b.length := by unfold lenA; rw [← hab, rget_ab hx]; rfl
    refine Ret.enter Try.func34 Try.ntmps34 rfl rfl ?_
    simp only [argEnv, Nat.reduceAdd]
    refine SatC.seq ?_
    refine SatC.region ?_
    refine SatL.pu (RunV.assign rfl) rfl ?_
    refine SatL.nil (SatE.thenC ?_)
    refine SatC.seq ?_
    refine SatC.seq ?_
    refine SatC.region ?_
    refine SatL.pu (RunV.move rfl) rfl ?_
    first | refine SatL.pu (RunV.nil_ptr rfl) rfl ?_ | refine SatL.pu (RunV.nil_func rfl) rfl ?_ | refine SatL.pu (RunV.nil_yield rfl) rfl ?_
    first | refine SatL.pu (RunV.fieldAddrL rfl rfl rfl) rfl ?_ | refine SatL.pu (RunV.fieldAddr rfl rfl rfl) rfl ?_
    refine SatL.pu (RunV.load1 hS rfl rfl (by repeat constructor) rfl) rfl ?_
    refine SatL.nil (SatE.thenC ?_)
    refine SatC.cond rfl (fun h1 => ?_) (fun h1 => ?_)
    · (try simp only [cx, ne_eq] at h1)
      try (exfalso; (first | omega | exact h1 trivial | contradiction | (first | omega | (simp at h1; done))); done)
      all_goals
      refine SatC.seq ?_
      refine SatC.region ?_
      refine SatL.pu (RunV.assign rfl) rfl ?_
      refine SatL.nil (SatE.thenC ?_)
      refine SatC.ret (SatE.then_ret ?_)
      refine SatE.ret1 rfl rfl ?_
      rw [show aCut d n m = (50, d) from aw_down (by assumption)]
      exact ⟨rfl, fs, FB, D, fun c hc => hc, hr, hS.sel (by repeat constructor)⟩
    · (try simp only [cx, ne_eq] at h1)
      try (exfalso; (first | omega | exact h1 trivial | contradiction | (first | omega | (simp at h1; done))); done)
      all_goals
      refine SatC.skip (SatE.thenC ?_)
      refine SatC.seq ?_
      refine SatC.seq ?_
      refine SatC.region ?_
      refine SatL.pu (RunV.move rfl) rfl ?_
      refine SatL.pu (RunV.lss rfl rfl) rfl ?_
      refine SatL.pu (RunV.move rfl) rfl ?_
      refine SatL.guard rfl rfl rfl (fun h2 => ?_) (fun h2 => ?_)
      · (try simp only [cx, ne_eq] at h2)
        try (exfalso; (first | omega | exact h2 trivial | contradiction | (first | omega | (simp at h2; done))); done)
        all_goals
        refine SatL.pu (RunV.move rfl) rfl ?_
        refine SatL.guard_y rfl rfl ?_
        refine SatL.pu (RunV.gtr rfl rfl) rfl ?_
        refine SatL.pu (RunV.pick_f rfl rfl) rfl ?_
        refine SatL.pu (RunV.move rfl) rfl ?_
        refine SatL.guard rfl rfl rfl (fun h3 => ?_) (fun h3 => ?_)
        · (try simp only [cx, ne_eq] at h3)
          try (exfalso; (first | omega | exact h3 trivial | contradiction | (first | omega | (simp at h3; done))); done)
          all_goals
          refine SatL.pu (RunV.move rfl) rfl ?_
          refine SatL.guard_y rfl rfl ?_
          refine SatL.pu (RunV.lss rfl rfl) rfl ?_
          refine SatL.pu (RunV.pick_f rfl rfl) rfl ?_
          refine SatL.pu (RunV.move rfl) rfl ?_
          refine SatL.guard rfl rfl rfl (fun h4 => ?_) (fun h4 => ?_)
          · (try simp only [cx, ne_eq] at h4)
            try (exfalso; (first | omega | exact h4 trivial | contradiction | (first | omega | (simp at h4; done))); done)
            all_goals
            refine SatL.pu (RunV.move rfl) rfl ?_
            refine SatL.guard_y rfl rfl ?_
            refine SatL.pu (RunV.move rfl) rfl ?_
            refine SatL.guard_y rfl rfl ?_
            first | refine SatL.pu (RunV.nil_ptr rfl) rfl ?_ | refine SatL.pu (RunV.nil_func rfl) rfl ?_ | refine SatL.pu (RunV.nil_yield rfl) rfl ?_
            refine SatL.guard_y rfl rfl ?_
            first | refine SatL.pu (RunV.fieldAddrL rfl rfl rfl) rfl ?_ | refine SatL.pu (RunV.fieldAddr rfl rfl rfl) rfl ?_
            refine SatL.guard_y rfl rfl ?_
            refine SatL.pu (RunV.load1 hS rfl rfl (by repeat constructor) rfl) rfl ?_
            refine SatL.guard_y rfl rfl ?_
            refine SatL.pu (RunV.move rfl) rfl ?_
            refine SatL.guard_y rfl rfl ?_
            first | refine SatL.pu (RunV.indexR (by assumption) rfl rfl rfl (by omega) (by omega) rfl) rfl ?_ | refine SatL.pu (RunV.indexS rfl rfl rfl (by omega) (by omega) rfl) rfl ?_
            refine SatL.guard_y rfl rfl ?_
            first | refine SatL.pu (RunV.fieldAddrL rfl rfl rfl) rfl ?_ | refine SatL.pu (RunV.fieldAddr rfl rfl rfl) rfl ?_
            refine SatL.guard_y rfl rfl ?_
            refine SatL.pu (RunV.loadR1g n.toNat 0 (Sl.rd hsl hS (by repeat constructor)) rfl rfl (by omega) (map_get hx) rfl) rfl ?_
            refine SatL.guard_y rfl rfl ?_
            first | refine SatL.pu (RunV.lenR (by assumption) rfl rfl) rfl ?_ | refine SatL.pu (RunV.lenS rfl rfl) rfl ?_
            refine SatL.guard_y rfl rfl ?_
            refine SatL.pu (RunV.gtr rfl rfl) rfl ?_
            refine SatL.pu (RunV.pick_f rfl rfl) rfl ?_
            refine SatL.nil (SatE.thenC ?_)
            refine SatC.weak (e' := [(0, _), (1, _), (2, _), (6, _), (33, _)]) (by repeat constructor) ?_
            refine SatC.cond rfl (fun h5 => ?_) (fun h5 => ?_)
            · (try simp only [cx, ne_eq] at h5)
              try (exfalso; (first | omega | exact h5 trivial | contradiction | (first | omega | (simp at h5; done))); done)
              all_goals
              refine SatC.seq ?_
              refine SatC.region ?_
              refine SatL.pu (RunV.assign rfl) rfl ?_
              refine SatL.nil (SatE.thenC ?_)
              refine SatC.ret (SatE.then_ret ?_)
              refine SatE.ret1 rfl rfl ?_
              first
              | (rw [show aCut d n m = (2, d) from aw_bad (by simpa using h1) (by rw [hlA]; omega)]; exact ⟨rfl, fs, FB, D, fun c hc => hc, hr, hS.sel (by repeat constructor)⟩)
              | (have hz : d.fuse = 0 := by assumption
                 rw [show aCut d n m = (50, _) from aw_burn (by simpa using h1) (by rw [hlA]; omega) hz]
                 rw [decide_eq_true hz, Bool.or_true, show burnF d.fuse = d.fuse from if_neg (by omega)] at hS
                 exact ⟨rfl, fs, FB, D, fun c hc => hc, ⟨hsl, hrd, hab⟩, hS.sel (by repeat constructor)⟩)
              | (have hz : ¬ d.fuse = 0 := by assumption
                 rw [show aCut d n m = (0, _) from aw_yes (by simpa using h1) (by rw [hlA]; omega) hz]
                 rw [decide_eq_false hz, Bool.or_false] at hS
                 exact ⟨rfl, fs.set n.toNat ⟨cutM x.v m.toNat m.toNat 1, x.b.take m.toNat, m⟩, F54, D, fun c hc => hc, ⟨hsl54, rset_rd hrd ((hrd x (List.mem_of_getElem? hx)).take (by omega)), by rw [rab_set hx (g := fun f => (f.1.take m.toNat, m)) rfl, hab]⟩, hS.sel (by repeat constructor)⟩)
            · (try simp only [cx, ne_eq] at h5)
              try (exfalso; (first | omega | exact h5 trivial | contradiction | (first | omega | (simp at h5; done))); done)
              all_goals
              refine SatC.skip (SatE.thenC ?_)
              refine SatC.seq ?_
              refine SatC.seq ?_
              refine SatC.region ?_
              refine SatL.pu (RunV.move rfl) rfl ?_
              refine SatL.op rfl (OpW.enter rfl rfl rfl (rfl) (goes_any (d := d) ho.fuse (hS.ownT (A := [(b, C 44 [.int .i64 d.room, fv, .int .i64 d.fuse, .bool d.down])]) (by repeat constructor))) ?_)
              rintro r1 w1 ⟨rfl, h⟩
              replace hS := hS.callT (A := [(b, C 44 [.int .i64 d.room, fv, .int .i64 d.fuse, .bool d.down])]) (by repeat constructor) h
              refine SatL.nil (SatE.thenC ?_)
              refine SatC.cond rfl (fun h6 => ?_) (fun h6 => ?_)
              · (try simp only [cx, ne_eq] at h6)
                try (exfalso; (first | omega | exact h6 trivial | contradiction | (first | omega | (simp at h6; done))); done)
                all_goals
                refine SatC.seq ?_
                refine SatC.region ?_
                refine SatL.pu (RunV.assign rfl) rfl ?_
                refine SatL.nil (SatE.thenC ?_)
                refine SatC.ret (SatE.then_ret ?_)
                refine SatE.ret1 rfl rfl ?_
                first
                | (rw [show aCut d n m = (2, d) from aw_bad (by simpa using h1) (by rw [hlA]; omega)]; exact ⟨rfl, fs, FB, D, fun c hc => hc, hr, hS.sel (by repeat constructor)⟩)
                | (have hz : d.fuse = 0 := by assumption
                   rw [show aCut d n m = (50, _) from aw_burn (by simpa using h1) (by rw [hlA]; omega) hz]
                   rw [decide_eq_true hz, Bool.or_true, show burnF d.fuse = d.fuse from if_neg (by omega)] at hS
                   exact ⟨rfl, fs, FB, D, fun c hc => hc, ⟨hsl, hrd, hab⟩, hS.sel (by repeat constructor)⟩)
                | (have hz : ¬ d.fuse = 0 := by assumption
                   rw [show aCut d n m = (0, _) from aw_yes (by simpa using h1) (by rw [hlA]; omega) hz]
                   rw [decide_eq_false hz, Bool.or_false] at hS
                   exact ⟨rfl, fs.set n.toNat ⟨cutM x.v m.toNat m.toNat 1, x.b.take m.toNat, m⟩, F54, D, fun c hc => hc, ⟨hsl54, rset_rd hrd ((hrd x (List.mem_of_getElem? hx)).take (by omega)), by rw [rab_set hx (g := fun f => (f.1.take m.toNat, m)) rfl, hab]⟩, hS.sel (by repeat constructor)⟩)
              · (try simp only [cx, ne_eq] at h6)
                try (exfalso; (first | omega | exact h6 trivial | contradiction | (first | omega | (simp at h6; done))); done)
                all_goals
                refine SatC.skip (SatE.thenC ?_)
                refine SatC.seq ?_
                refine SatC.drawnT 19 hS (hS) (by kernel_rfl) ?_
                clear hS
                intro w2 hh hS hD
                refine SatD.tk 0 rfl hD (fun _ hw => RunV.move rfl) ?_
                first | refine SatD.tk 1 rfl hD (fun _ hw => RunV.nil_ptr rfl) ?_ | refine SatD.tk 1 rfl hD (fun _ hw => RunV.nil_func rfl) ?_ | refine SatD.tk 1 rfl hD (fun _ hw => RunV.nil_yield rfl) ?_
                first | refine SatD.tk 2 rfl hD (fun _ hw => RunV.fieldAddrL rfl rfl rfl) ?_ | refine SatD.tk 2 rfl hD (fun _ hw => RunV.fieldAddr rfl rfl rfl) ?_
                refine SatD.tk 3 rfl hD (fun _ hw => RunV.load1 hw rfl rfl (by repeat constructor) rfl) ?_
                refine SatD.tk 4 rfl hD (fun _ hw => RunV.move rfl) ?_
                refine SatD.tk 5 rfl hD (fun _ hw => RunV.move rfl) ?_
                first | refine SatD.tk 6 rfl hD (fun _ hw => RunV.nil_ptr rfl) ?_ | refine SatD.tk 6 rfl hD (fun _ hw => RunV.nil_func rfl) ?_ | refine SatD.tk 6 rfl hD (fun _ hw => RunV.nil_yield rfl) ?_
                first | refine SatD.tk 7 rfl hD (fun _ hw => RunV.fieldAddrL rfl rfl rfl) ?_ | refine SatD.tk 7 rfl hD (fun _ hw => RunV.fieldAddr rfl rfl rfl) ?_
                refine SatD.tk 8 rfl hD (fun _ hw => RunV.load1 hw rfl rfl (by repeat constructor) rfl) ?_
                refine SatD.tk 9 rfl hD (fun _ hw => RunV.move rfl) ?_
                first | refine SatD.tk 10 rfl hD (fun _ hw => RunV.indexR (by assumption) rfl rfl rfl (by omega) (by omega) rfl) ?_ | refine SatD.tk 10 rfl hD (fun _ hw => RunV.indexS rfl rfl rfl (by omega) (by omega) rfl) ?_
                first | refine SatD.tk 11 rfl hD (fun _ hw => RunV.fieldAddrL rfl rfl rfl) ?_ | refine SatD.tk 11 rfl hD (fun _ hw => RunV.fieldAddr rfl rfl rfl) ?_
                refine SatD.tk 12 rfl hD (fun _ hw => RunV.loadR1g n.toNat 0 (Sl.rd hsl hw (by repeat constructor)) rfl rfl (by omega) (map_get hx) rfl) ?_
                refine SatD.tk 13 rfl hD (fun _ hw => RunV.move rfl) ?_
                refine SatD.tk 14 rfl hD (fun _ hw => RunV.move rfl) ?_
                refine SatD.tk 15 rfl hD (fun _ hw => RunV.cutHMv hxv rfl rfl rfl rfl rfl (by omega) (by omega) (by omega)) ?_
                refine SatD.tk 16 rfl hD (fun _ hw => RunV.move rfl) ?_
                refine SatD.tk 17 rfl hD (fun _ hw => RunV.build (v := .agg #[cutM x.v m.toNat m.toNat 1, .int .i64 m]) rfl (by obtain ⟨A1, e1, _⟩ := (SlV.cutM 1 hxv (h := m.toNat) (by omega)).eq; rw [e1]; simp [go_sem]; try rfl)) ?_
                first | refine SatD.tk 18 rfl hD (fun _ hw => RunV.indexR (by assumption) rfl rfl rfl (by omega) (by omega) rfl) ?_ | refine SatD.tk 18 rfl hD (fun _ hw => RunV.indexS rfl rfl rfl (by omega) (by omega) rfl) ?_
                refine SatD.effF (by kernel_rfl) rfl rfl (OpW.storeSl (i := n.toNat) (r := rr ⟨cutM x.v m.toNat m.toNat 1, x.b.take m.toNat, m⟩) hsl hS (by repeat constructor) rfl rfl .agg rfl (by rw [List.length_map]; omega) rfl (by simp only [List.all_cons, List.all_nil, slv_one (SlV.cutM 1 hxv (h := m.toNat) (by omega)), Bool.and_true]; rfl) ?_)
                clear hS
                intro F54 w3 hsl54 hS
                rw [rmap_set] at hsl54
                refine SatD.done 0 (by kernel_rfl) (SatE.thenC ?_)
                clear hD
                refine SatC.seq ?_
                refine SatC.weak (e' := [(6, _)]) (by repeat constructor) ?_
                refine SatC.region ?_
                refine SatL.pu (RunV.assign rfl) rfl ?_
                refine SatL.nil (SatE.thenC ?_)
                refine SatC.ret ?_
                refine SatE.ret1 rfl rfl ?_
                first
                | (rw [show aCut d n m = (2, d) from aw_bad (by simpa using h1) (by rw [hlA]; omega)]; exact ⟨rfl, fs, FB, D, fun c hc => hc, hr, hS.sel (by repeat constructor)⟩)
                | (have hz : d.fuse = 0 := by assumption
                   rw [show aCut d n m = (50, _) from aw_burn (by simpa using h1) (by rw [hlA]; omega) hz]
                   rw [decide_eq_true hz, Bool.or_true, show burnF d.fuse = d.fuse from if_neg (by omega)] at hS
                   exact ⟨rfl, fs, FB, D, fun c hc => hc, ⟨hsl, hrd, hab⟩, hS.sel (by repeat constructor)⟩)
                | (have hz : ¬ d.fuse = 0 := by assumption
                   rw [show aCut d n m = (0, _) from aw_yes (by simpa using h1) (by rw [hlA]; omega) hz]
                   rw [decide_eq_false hz, Bool.or_false] at hS
                   exact ⟨rfl, fs.set n.toNat ⟨cutM x.v m.toNat m.toNat 1, x.b.take m.toNat, m⟩, F54, D, fun c hc => hc, ⟨hsl54, rset_rd hrd ((hrd x (List.mem_of_getElem? hx)).take (by omega)), by rw [rab_set hx (g := fun f => (f.1.take m.toNat, m)) rfl, hab]⟩, hS.sel (by repeat constructor)⟩)
          · (try simp only [cx, ne_eq] at h4)
            try (exfalso; (first | omega | exact h4 trivial | contradiction | (first | omega | (simp at h4; done))); done)
            all_goals
            refine SatL.guard_n rfl rfl rfl rfl ?_
            refine SatL.guard_n rfl rfl rfl rfl ?_
            refine SatL.guard_n rfl rfl rfl rfl ?_
            refine SatL.guard_n rfl rfl rfl rfl ?_
            refine SatL.guard_n rfl rfl rfl rfl ?_
            refine SatL.guard_n rfl rfl rfl rfl ?_
            refine SatL.guard_n rfl rfl rfl rfl ?_
            refine SatL.guard_n rfl rfl rfl rfl ?_
            refine SatL.guard_n rfl rfl rfl rfl ?_
            refine SatL.guard_n rfl rfl rfl rfl ?_
            refine SatL.pu (RunV.pick_t rfl rfl) rfl ?_
            refine SatL.nil (SatE.thenC ?_)
            refine SatC.weak (e' := [(0, _), (1, _), (2, _), (6, _), (33, _)]) (by repeat constructor) ?_
            refine SatC.cond_t rfl ?_
            refine SatC.seq ?_
            refine SatC.region ?_
            refine SatL.pu (RunV.assign rfl) rfl ?_
            refine SatL.nil (SatE.thenC ?_)
            refine SatC.ret (SatE.then_ret ?_)
            refine SatE.ret1 rfl rfl ?_
            first
            | (rw [show aCut d n m = (2, d) from aw_bad (by simpa using h1) (by rw [hlA]; omega)]; exact ⟨rfl, fs, FB, D, fun c hc => hc, hr, hS.sel (by repeat constructor)⟩)
            | (have hz : d.fuse = 0 := by assumption
               rw [show aCut d n m = (50, _) from aw_burn (by simpa using h1) (by rw [hlA]; omega) hz]
               rw [decide_eq_true hz, Bool.or_true, show burnF d.fuse = d.fuse from if_neg (by omega)] at hS
               exact ⟨rfl, fs, FB, D, fun c hc => hc, ⟨hsl, hrd, hab⟩, hS.sel (by repeat constructor)⟩)
            | (have hz : ¬ d.fuse = 0 := by assumption
               rw [show aCut d n m = (0, _) from aw_yes (by simpa using h1) (by rw [hlA]; omega) hz]
               rw [decide_eq_false hz, Bool.or_false] at hS
               exact ⟨rfl, fs.set n.toNat ⟨cutM x.v m.toNat m.toNat 1, x.b.take m.toNat, m⟩, F54, D, fun c hc => hc, ⟨hsl54, rset_rd hrd ((hrd x (List.mem_of_getElem? hx)).take (by omega)), by rw [rab_set hx (g := fun f => (f.1.take m.toNat, m)) rfl, hab]⟩, hS.sel (by repeat constructor)⟩)
        · (try simp only [cx, ne_eq] at h3)
          try (exfalso; (first | omega | exact h3 trivial | contradiction | (first | omega | (simp at h3; done))); done)
          all_goals
          refine SatL.guard_n rfl rfl rfl rfl ?_
          refine SatL.pu (RunV.pick_t rfl rfl) rfl ?_
          refine SatL.pu (RunV.move rfl) rfl ?_
          refine SatL.guard_n rfl rfl rfl rfl ?_
          refine SatL.guard_n rfl rfl rfl rfl ?_
          refine SatL.guard_n rfl rfl rfl rfl ?_
          refine SatL.guard_n rfl rfl rfl rfl ?_
          refine SatL.guard_n rfl rfl rfl rfl ?_
          refine SatL.guard_n rfl rfl rfl rfl ?_
          refine SatL.guard_n rfl rfl rfl rfl ?_
          refine SatL.guard_n rfl rfl rfl rfl ?_
          refine SatL.guard_n rfl rfl rfl rfl ?_
          refine SatL.guard_n rfl rfl rfl rfl ?_
          refine SatL.guard_n rfl rfl rfl rfl ?_
          refine SatL.pu (RunV.pick_t rfl rfl) rfl ?_
          refine SatL.nil (SatE.thenC ?_)
          refine SatC.weak (e' := [(0, _), (1, _), (2, _), (6, _), (33, _)]) (by repeat constructor) ?_
          refine SatC.cond_t rfl ?_
          refine SatC.seq ?_
          refine SatC.region ?_
          refine SatL.pu (RunV.assign rfl) rfl ?_
          refine SatL.nil (SatE.thenC ?_)
          refine SatC.ret (SatE.then_ret ?_)
          refine SatE.ret1 rfl rfl ?_
          first
          | (rw [show aCut d n m = (2, d) from aw_bad (by simpa using h1) (by rw [hlA]; omega)]; exact ⟨rfl, fs, FB, D, fun c hc => hc, hr, hS.sel (by repeat constructor)⟩)
          | (have hz : d.fuse = 0 := by assumption
             rw [show aCut d n m = (50, _) from aw_burn (by simpa using h1) (by rw [hlA]; omega) hz]
             rw [decide_eq_true hz, Bool.or_true, show burnF d.fuse = d.fuse from if_neg (by omega)] at hS
             exact ⟨rfl, fs, FB, D, fun c hc => hc, ⟨hsl, hrd, hab⟩, hS.sel (by repeat constructor)⟩)
          | (have hz : ¬ d.fuse = 0 := by assumption
             rw [show aCut d n m = (0, _) from aw_yes (by simpa using h1) (by rw [hlA]; omega) hz]
             rw [decide_eq_false hz, Bool.or_false] at hS
             exact ⟨rfl, fs.set n.toNat ⟨cutM x.v m.toNat m.toNat 1, x.b.take m.toNat, m⟩, F54, D, fun c hc => hc, ⟨hsl54, rset_rd hrd ((hrd x (List.mem_of_getElem? hx)).take (by omega)), by rw [rab_set hx (g := fun f => (f.1.take m.toNat, m)) rfl, hab]⟩, hS.sel (by repeat constructor)⟩)
      · (try simp only [cx, ne_eq] at h2)
        try (exfalso; (first | omega | exact h2 trivial | contradiction | (first | omega | (simp at h2; done))); done)
        all_goals
        refine SatL.guard_n rfl rfl rfl rfl ?_
        refine SatL.pu (RunV.pick_t rfl rfl) rfl ?_
        refine SatL.pu (RunV.move rfl) rfl ?_
        refine SatL.guard_n rfl rfl rfl rfl ?_
        refine SatL.guard_n rfl rfl rfl rfl ?_
        refine SatL.pu (RunV.pick_t rfl rfl) rfl ?_
        refine SatL.pu (RunV.move rfl) rfl ?_
        refine SatL.guard_n rfl rfl rfl rfl ?_
        refine SatL.guard_n rfl rfl rfl rfl ?_
        refine SatL.guard_n rfl rfl rfl rfl ?_
        refine SatL.guard_n rfl rfl rfl rfl ?_
        refine SatL.guard_n rfl rfl rfl rfl ?_
        refine SatL.guard_n rfl rfl rfl rfl ?_
        refine SatL.guard_n rfl rfl rfl rfl ?_
        refine SatL.guard_n rfl rfl rfl rfl ?_
        refine SatL.guard_n rfl rfl rfl rfl ?_
        refine SatL.guard_n rfl rfl rfl rfl ?_
        refine SatL.guard_n rfl rfl rfl rfl ?_
        refine SatL.pu (RunV.pick_t rfl rfl) rfl ?_
        refine SatL.nil (SatE.thenC ?_)
        refine SatC.weak (e' := [(0, _), (1, _), (2, _), (6, _), (33, _)]) (by repeat constructor) ?_
        refine SatC.cond_t rfl ?_
        refine SatC.seq ?_
        refine SatC.region ?_
        refine SatL.pu (RunV.assign rfl) rfl ?_
        refine SatL.nil (SatE.thenC ?_)
        refine SatC.ret (SatE.then_ret ?_)
        refine SatE.ret1 rfl rfl ?_
        first
        | (rw [show aCut d n m = (2, d) from aw_bad (by simpa using h1) (by rw [hlA]; omega)]; exact ⟨rfl, fs, FB, D, fun c hc => hc, hr, hS.sel (by repeat constructor)⟩)
        | (have hz : d.fuse = 0 := by assumption
           rw [show aCut d n m = (50, _) from aw_burn (by simpa using h1) (by rw [hlA]; omega) hz]
           rw [decide_eq_true hz, Bool.or_true, show burnF d.fuse = d.fuse from if_neg (by omega)] at hS
           exact ⟨rfl, fs, FB, D, fun c hc => hc, ⟨hsl, hrd, hab⟩, hS.sel (by repeat constructor)⟩)
        | (have hz : ¬ d.fuse = 0 := by assumption
           rw [show aCut d n m = (0, _) from aw_yes (by simpa using h1) (by rw [hlA]; omega) hz]
           rw [decide_eq_false hz, Bool.or_false] at hS
           exact ⟨rfl, fs.set n.toNat ⟨cutM x.v m.toNat m.toNat 1, x.b.take m.toNat, m⟩, F54, D, fun c hc => hc, ⟨hsl54, rset_rd hrd ((hrd x (List.mem_of_getElem? hx)).take (by omega)), by rw [rab_set hx (g := fun f => (f.1.take m.toNat, m)) rfl, hab]⟩, hS.sel (by repeat constructor)⟩)
  · refine Ret.enter Try.func34 Try.ntmps34 rfl rfl ?_
    simp only [argEnv, Nat.reduceAdd]
    refine SatC.seq ?_
    refine SatC.region ?_
    refine SatL.pu (RunV.assign rfl) rfl ?_
    refine SatL.nil (SatE.thenC ?_)
    refine SatC.seq ?_
    refine SatC.seq ?_
    refine SatC.region ?_
    refine SatL.pu (RunV.move rfl) rfl ?_
    first | refine SatL.pu (RunV.nil_ptr rfl) rfl ?_ | refine SatL.pu (RunV.nil_func rfl) rfl ?_ | refine SatL.pu (RunV.nil_yield rfl) rfl ?_
    first | refine SatL.pu (RunV.fieldAddrL rfl rfl rfl) rfl ?_ | refine SatL.pu (RunV.fieldAddr rfl rfl rfl) rfl ?_
    refine SatL.pu (RunV.load1 hS rfl rfl (by repeat constructor) rfl) rfl ?_
    refine SatL.nil (SatE.thenC ?_)
    refine SatC.cond rfl (fun h1 => ?_) (fun h1 => ?_)
    · (try simp only [cx, ne_eq] at h1)
      try (exfalso; (first | omega | exact h1 trivial | contradiction | (first | omega | (simp at h1; done))); done)
      all_goals
      refine SatC.seq ?_
      refine SatC.region ?_
      refine SatL.pu (RunV.assign rfl) rfl ?_
      refine SatL.nil (SatE.thenC ?_)
      refine SatC.ret (SatE.then_ret ?_)
      refine SatE.ret1 rfl rfl ?_
      rw [show aCut d n m = (50, d) from aw_down (by assumption)]
      exact ⟨rfl, fs, FB, D, fun c hc => hc, hr, hS.sel (by repeat constructor)⟩
    · (try simp only [cx, ne_eq] at h1)
      try (exfalso; (first | omega | exact h1 trivial | contradiction | (first | omega | (simp at h1; done))); done)
      all_goals
      refine SatC.skip (SatE.thenC ?_)
      refine SatC.seq ?_
      refine SatC.seq ?_
      refine SatC.region ?_
      refine SatL.pu (RunV.move rfl) rfl ?_
      refine SatL.pu (RunV.lss rfl rfl) rfl ?_
      refine SatL.pu (RunV.move rfl) rfl ?_
      refine SatL.guard rfl rfl rfl (fun h2 => ?_) (fun h2 => ?_)
      · (try simp only [cx, ne_eq] at h2)
        try (exfalso; (first | omega | exact h2 trivial | contradiction | (first | omega | (simp at h2; done))); done)
        all_goals
        refine SatL.pu (RunV.move rfl) rfl ?_
        refine SatL.guard_y rfl rfl ?_
        refine SatL.pu (RunV.gtr rfl rfl) rfl ?_
        refine SatL.pu (RunV.pick_f rfl rfl) rfl ?_
        refine SatL.pu (RunV.move rfl) rfl ?_
        refine SatL.guard rfl rfl rfl (fun h3 => ?_) (fun h3 => ?_)
        · (try simp only [cx, ne_eq] at h3)
          try (exfalso; (first | omega | exact h3 trivial | contradiction | (first | omega | (simp at h3; done))); done)
          all_goals
          refine SatL.pu (RunV.move rfl) rfl ?_
          refine SatL.guard_y rfl rfl ?_
          refine SatL.pu (RunV.lss rfl rfl) rfl ?_
          refine SatL.pu (RunV.pick_f rfl rfl) rfl ?_
          refine SatL.pu (RunV.move rfl) rfl ?_
          refine SatL.guard rfl rfl rfl (fun h4 => ?_) (fun h4 => ?_)
          · (try simp only [cx, ne_eq] at h4)
            try (exfalso; (first | omega | exact h4 trivial | contradiction | (first | omega | (simp at h4; done))); done)
            all_goals
            refine SatL.pu (RunV.move rfl) rfl ?_
            refine SatL.guard_y rfl rfl ?_
            refine SatL.pu (RunV.move rfl) rfl ?_
            refine SatL.guard_y rfl rfl ?_
            first | refine SatL.pu (RunV.nil_ptr rfl) rfl ?_ | refine SatL.pu (RunV.nil_func rfl) rfl ?_ | refine SatL.pu (RunV.nil_yield rfl) rfl ?_
            refine SatL.guard_y rfl rfl ?_
            first | refine SatL.pu (RunV.fieldAddrL rfl rfl rfl) rfl ?_ | refine SatL.pu (RunV.fieldAddr rfl rfl rfl) rfl ?_
            refine SatL.guard_y rfl rfl ?_
            refine SatL.pu (RunV.load1 hS rfl rfl (by repeat constructor) rfl) rfl ?_
            refine SatL.guard_y rfl rfl ?_
            refine SatL.pu (RunV.move rfl) rfl ?_
            refine SatL.guard_y rfl rfl ?_
            first | refine SatL.pu (RunV.indexR (by assumption) rfl rfl rfl (by omega) (by omega) rfl) rfl ?_ | refine SatL.pu (RunV.indexS rfl rfl rfl (by omega) (by omega) rfl) rfl ?_
            refine SatL.guard_y rfl rfl ?_
            first | refine SatL.pu (RunV.fieldAddrL rfl rfl rfl) rfl ?_ | refine SatL.pu (RunV.fieldAddr rfl rfl rfl) rfl ?_
            refine SatL.guard_y rfl rfl ?_
            first | refine SatL.pu (RunV.loadR1f (RdC.st (by assumption) hS List.not_mem_nil) rfl rfl (by first | assumption | exact map_get (by assumption)) rfl) rfl ?_ | refine SatL.pu (RunV.loadR1f (Sl.rd (by assumption) hS (by repeat constructor)) rfl rfl (by first | assumption | exact map_get (by assumption)) rfl) rfl ?_
            refine SatL.guard_y rfl rfl ?_
            first | refine SatL.pu (RunV.lenR (by assumption) rfl rfl) rfl ?_ | refine SatL.pu (RunV.lenS rfl rfl) rfl ?_
            refine SatL.guard_y rfl rfl ?_
            refine SatL.pu (RunV.gtr rfl rfl) rfl ?_
            refine SatL.pu (RunV.pick_f rfl rfl) rfl ?_
            refine SatL.nil (SatE.thenC ?_)
            refine SatC.weak (e' := [(0, _), (1, _), (2, _), (6, _), (33, _)]) (by repeat constructor) ?_
            refine SatC.cond rfl (fun h5 => ?_) (fun h5 => ?_)
            · (try simp only [cx, ne_eq] at h5)
              try (exfalso; (first | omega | exact h5 trivial | contradiction | (first | omega | (simp at h5; done))); done)
              all_goals
              refine SatC.seq ?_
              refine SatC.region ?_
              refine SatL.pu (RunV.assign rfl) rfl ?_
              refine SatL.nil (SatE.thenC ?_)
              refine SatC.ret (SatE.then_ret ?_)
              refine SatE.ret1 rfl rfl ?_
              rw [show aCut d n m = (2, d) from aw_bad (by simpa using h1) (fun h => hn h.1)]
              exact ⟨rfl, fs, FB, D, fun c hc => hc, hr, hS.sel (by repeat constructor)⟩
            · (try simp only [cx, ne_eq] at h5)
              try (exfalso; (first | omega | exact h5 trivial | contradiction | (first | omega | (simp at h5; done))); done)
              all_goals
              refine SatC.skip (SatE.thenC ?_)
              refine SatC.seq ?_
              refine SatC.seq ?_
              refine SatC.region ?_
              refine SatL.pu (RunV.move rfl) rfl ?_
              -- STOP -- CALL 45
              done
          · (try simp only [cx, ne_eq] at h4)
            try (exfalso; (first | omega | exact h4 trivial | contradiction | (first | omega | (simp at h4; done))); done)
            all_goals
            refine SatL.guard_n rfl rfl rfl rfl ?_
            refine SatL.guard_n rfl rfl rfl rfl ?_
            refine SatL.guard_n rfl rfl rfl rfl ?_
            refine SatL.guard_n rfl rfl rfl rfl ?_
            refine SatL.guard_n rfl rfl rfl rfl ?_
            refine SatL.guard_n rfl rfl rfl rfl ?_
            refine SatL.guard_n rfl rfl rfl rfl ?_
            refine SatL.guard_n rfl rfl rfl rfl ?_
            refine SatL.guard_n rfl rfl rfl rfl ?_
            refine SatL.guard_n rfl rfl rfl rfl ?_
            refine SatL.pu (RunV.pick_t rfl rfl) rfl ?_
            refine SatL.nil (SatE.thenC ?_)
            refine SatC.weak (e' := [(0, _), (1, _), (2, _), (6, _), (33, _)]) (by repeat constructor) ?_
            refine SatC.cond_t rfl ?_
            refine SatC.seq ?_
            refine SatC.region ?_
            refine SatL.pu (RunV.assign rfl) rfl ?_
            refine SatL.nil (SatE.thenC ?_)
            refine SatC.ret (SatE.then_ret ?_)
            refine SatE.ret1 rfl rfl ?_
            rw [show aCut d n m = (2, d) from aw_bad (by simpa using h1) (fun h => hn h.1)]
            exact ⟨rfl, fs, FB, D, fun c hc => hc, hr, hS.sel (by repeat constructor)⟩
        · (try simp only [cx, ne_eq] at h3)
          try (exfalso; (first | omega | exact h3 trivial | contradiction | (first | omega | (simp at h3; done))); done)
          all_goals
          refine SatL.guard_n rfl rfl rfl rfl ?_
          refine SatL.pu (RunV.pick_t rfl rfl) rfl ?_
          refine SatL.pu (RunV.move rfl) rfl ?_
          refine SatL.guard_n rfl rfl rfl rfl ?_
          refine SatL.guard_n rfl rfl rfl rfl ?_
          refine SatL.guard_n rfl rfl rfl rfl ?_
          refine SatL.guard_n rfl rfl rfl rfl ?_
          refine SatL.guard_n rfl rfl rfl rfl ?_
          refine SatL.guard_n rfl rfl rfl rfl ?_
          refine SatL.guard_n rfl rfl rfl rfl ?_
          refine SatL.guard_n rfl rfl rfl rfl ?_
          refine SatL.guard_n rfl rfl rfl rfl ?_
          refine SatL.guard_n rfl rfl rfl rfl ?_
          refine SatL.guard_n rfl rfl rfl rfl ?_
          refine SatL.pu (RunV.pick_t rfl rfl) rfl ?_
          refine SatL.nil (SatE.thenC ?_)
          refine SatC.weak (e' := [(0, _), (1, _), (2, _), (6, _), (33, _)]) (by repeat constructor) ?_
          refine SatC.cond_t rfl ?_
          refine SatC.seq ?_
          refine SatC.region ?_
          refine SatL.pu (RunV.assign rfl) rfl ?_
          refine SatL.nil (SatE.thenC ?_)
          refine SatC.ret (SatE.then_ret ?_)
          refine SatE.ret1 rfl rfl ?_
          rw [show aCut d n m = (2, d) from aw_bad (by simpa using h1) (fun h => hn h.1)]
          exact ⟨rfl, fs, FB, D, fun c hc => hc, hr, hS.sel (by repeat constructor)⟩
      · (try simp only [cx, ne_eq] at h2)
        try (exfalso; (first | omega | exact h2 trivial | contradiction | (first | omega | (simp at h2; done))); done)
        all_goals
        refine SatL.guard_n rfl rfl rfl rfl ?_
        refine SatL.pu (RunV.pick_t rfl rfl) rfl ?_
        refine SatL.pu (RunV.move rfl) rfl ?_
        refine SatL.guard_n rfl rfl rfl rfl ?_
        refine SatL.guard_n rfl rfl rfl rfl ?_
        refine SatL.pu (RunV.pick_t rfl rfl) rfl ?_
        refine SatL.pu (RunV.move rfl) rfl ?_
        refine SatL.guard_n rfl rfl rfl rfl ?_
        refine SatL.guard_n rfl rfl rfl rfl ?_
        refine SatL.guard_n rfl rfl rfl rfl ?_
        refine SatL.guard_n rfl rfl rfl rfl ?_
        refine SatL.guard_n rfl rfl rfl rfl ?_
        refine SatL.guard_n rfl rfl rfl rfl ?_
        refine SatL.guard_n rfl rfl rfl rfl ?_
        refine SatL.guard_n rfl rfl rfl rfl ?_
        refine SatL.guard_n rfl rfl rfl rfl ?_
        refine SatL.guard_n rfl rfl rfl rfl ?_
        refine SatL.guard_n rfl rfl rfl rfl ?_
        refine SatL.pu (RunV.pick_t rfl rfl) rfl ?_
        refine SatL.nil (SatE.thenC ?_)
        refine SatC.weak (e' := [(0, _), (1, _), (2, _), (6, _), (33, _)]) (by repeat constructor) ?_
        refine SatC.cond_t rfl ?_
        refine SatC.seq ?_
        refine SatC.region ?_
        refine SatL.pu (RunV.assign rfl) rfl ?_
        refine SatL.nil (SatE.thenC ?_)
        refine SatC.ret (SatE.then_ret ?_)
        refine SatE.ret1 rfl rfl ?_
        rw [show aCut d n m = (2, d) from aw_bad (by simpa using h1) (fun h => hn h.1)]
        exact ⟨rfl, fs, FB, D, fun c hc => hc, hr, hS.sel (by repeat constructor)⟩
theorem rrename_any (n m : Int) (ho : d.Ok) (hr : RRep d fs fv FB D) (hown : Own w (RO b d fv FB D)) :
    Ret Try.prog 35 #[.pointer (some ⟨b, 0, none⟩), .int .i64 n, .int .i64 m] w fun u w' => u = .int .i64 (aRename d n m).1 ∧ RPost w b fv FB D d (aRename d n m).2 w' := by
  have hS := St.init hown
  have h4 := hr.four ho
  obtain ⟨hsl, hrd, hab⟩ := hr
  have hr : RRep d fs fv FB D := ⟨hsl, hrd, hab⟩
  obtain ⟨fc, hfv⟩ := hsl.slv
  rw [List.length_map] at hfv
  unfold RPost
  generalize hX : (RO b d fv FB D).map Prod.fst = X at hS ⊢
  refine Ret.enter Try.func35 Try.ntmps35 rfl rfl ?_
  simp only [argEnv, Nat.reduceAdd]
  refine SatC.seq ?_
  refine SatC.region ?_
  refine SatL.pu (RunV.assign rfl) rfl ?_
  refine SatL.nil (SatE.thenC ?_)
  refine SatC.seq ?_
  refine SatC.seq ?_
  refine SatC.region ?_
  refine SatL.pu (RunV.move rfl) rfl ?_
  first | refine SatL.pu (RunV.nil_ptr rfl) rfl ?_ | refine SatL.pu (RunV.nil_func rfl) rfl ?_ | refine SatL.pu (RunV.nil_yield rfl) rfl ?_
  first | refine SatL.pu (RunV.fieldAddrL rfl rfl rfl) rfl ?_ | refine SatL.pu (RunV.fieldAddr rfl rfl rfl) rfl ?_
  refine SatL.pu (RunV.load1 hS rfl rfl (by repeat constructor) rfl) rfl ?_
  refine SatL.nil (SatE.thenC ?_)
  refine SatC.cond rfl (fun h1 => ?_) (fun h1 => ?_)
  · (try simp only [cx, ne_eq] at h1)
    try (exfalso; (first | omega | exact h1 trivial | contradiction | (first | omega | (simp at h1; done))); done)
    all_goals
    refine SatC.seq ?_
    refine SatC.region ?_
    refine SatL.pu (RunV.assign rfl) rfl ?_
    refine SatL.nil (SatE.thenC ?_)
    refine SatC.ret (SatE.then_ret ?_)
    refine SatE.ret1 rfl rfl ?_
    rw [show aRename d n m = (50, d) from aw_down (by assumption)]
    exact ⟨rfl, fs, FB, D, fun c hc => hc, hr, hS.sel (by repeat constructor)⟩
  · (try simp only [cx, ne_eq] at h1)
    try (exfalso; (first | omega | exact h1 trivial | contradiction | (first | omega | (simp at h1; done))); done)
    all_goals
    refine SatC.skip (SatE.thenC ?_)
    refine SatC.seq ?_
    refine SatC.seq ?_
    refine SatC.region ?_
    refine SatL.pu (RunV.move rfl) rfl ?_
    refine SatL.pu (RunV.lss rfl rfl) rfl ?_
    refine SatL.pu (RunV.move rfl) rfl ?_
    refine SatL.guard rfl rfl rfl (fun h2 => ?_) (fun h2 => ?_)
    · (try simp only [cx, ne_eq] at h2)
      try (exfalso; (first | omega | exact h2 trivial | contradiction | (first | omega | (simp at h2; done))); done)
      all_goals
      refine SatL.pu (RunV.move rfl) rfl ?_
      refine SatL.guard_y rfl rfl ?_
      refine SatL.pu (RunV.gtr rfl rfl) rfl ?_
      refine SatL.pu (RunV.pick_f rfl rfl) rfl ?_
      refine SatL.pu (RunV.move rfl) rfl ?_
      refine SatL.guard rfl rfl rfl (fun h3 => ?_) (fun h3 => ?_)
      · (try simp only [cx, ne_eq] at h3)
        try (exfalso; (first | omega | exact h3 trivial | contradiction | (first | omega | (simp at h3; done))); done)
        all_goals
        refine SatL.pu (RunV.move rfl) rfl ?_
        refine SatL.guard_y rfl rfl ?_
        refine SatL.pu (RunV.lss rfl rfl) rfl ?_
        refine SatL.pu (RunV.pick_f rfl rfl) rfl ?_
        refine SatL.pu (RunV.move rfl) rfl ?_
        refine SatL.guard rfl rfl rfl (fun h4 => ?_) (fun h4 => ?_)
        · (try simp only [cx, ne_eq] at h4)
          try (exfalso; (first | omega | exact h4 trivial | contradiction | (first | omega | (simp at h4; done))); done)
          all_goals
          refine SatL.pu (RunV.move rfl) rfl ?_
          refine SatL.guard_y rfl rfl ?_
          refine SatL.pu (RunV.gtr rfl rfl) rfl ?_
          refine SatL.pu (RunV.pick_f rfl rfl) rfl ?_
          refine SatL.pu (RunV.move rfl) rfl ?_
          refine SatL.guard rfl rfl rfl (fun h5 => ?_) (fun h5 => ?_)
          · (try simp only [cx, ne_eq] at h5)
            try (exfalso; (first | omega | exact h5 trivial | contradiction | (first | omega | (simp at h5; done))); done)
            all_goals
            refine SatL.pu (RunV.move rfl) rfl ?_
            refine SatL.guard_y rfl rfl ?_
            refine SatL.pu (RunV.move rfl) rfl ?_
            refine SatL.guard_y rfl rfl ?_
            refine SatL.pu (RunV.eql rfl rfl) rfl ?_
            refine SatL.pu (RunV.pick_f rfl rfl) rfl ?_
            refine SatL.nil (SatE.thenC ?_)
            refine SatC.weak (e' := [(0, _), (1, _), (2, _), (6, _), (29, _)]) (by repeat constructor) ?_
            refine SatC.cond rfl (fun h6 => ?_) (fun h6 => ?_)
            · (try simp only [cx, ne_eq] at h6)
              try (exfalso; (first | omega | exact h6 trivial | contradiction | (first | omega | (simp at h6; done))); done)
              all_goals
              refine SatC.seq ?_
              refine SatC.region ?_
              refine SatL.pu (RunV.assign rfl) rfl ?_
              refine SatL.nil (SatE.thenC ?_)
              refine SatC.ret (SatE.then_ret ?_)
              refine SatE.ret1 rfl rfl ?_
              first
              | (rw [show aRename d n m = (2, d) from aw_bad (by simpa using h1) (by omega)]; exact ⟨rfl, fs, FB, D, fun c hc => hc, hr, hS.sel (by repeat constructor)⟩)
              | (have hz : d.fuse = 0 := by assumption
                 rw [show aRename d n m = (50, _) from aw_burn (by simpa using h1) (by omega) hz]
                 rw [decide_eq_true hz, Bool.or_true, show burnF d.fuse = d.fuse from if_neg (by omega)] at hS
                 exact ⟨rfl, fs, FB, D, fun c hc => hc, ⟨hsl, hrd, hab⟩, hS.sel (by repeat constructor)⟩)
              | (have hz : ¬ d.fuse = 0 := by assumption
                 rw [show aRename d n m = (0, _) from aw_yes (by simpa using h1) (by omega) hz]
                 rw [decide_eq_false hz, Bool.or_false] at hS
                 exact ⟨rfl, (fs.set m.toNat x).set n.toNat ⟨.slice none 0 0, [], 0⟩, F51, D, fun c hc => hc, ⟨hsl51, rset_rd (rset_rd hrd hxrd) RdD.nil, by rw [rab_ren hx, hab]⟩, hS.sel (by repeat constructor)⟩)
            · (try simp only [cx, ne_eq] at h6)
              try (exfalso; (first | omega | exact h6 trivial | contradiction | (first | omega | (simp at h6; done))); done)
              all_goals
              refine SatC.skip (SatE.thenC ?_)
              refine SatC.seq ?_
              refine SatC.seq ?_
              refine SatC.region ?_
              refine SatL.pu (RunV.move rfl) rfl ?_
              refine SatL.op rfl (OpW.enter rfl rfl rfl (rfl) (goes_any (d := d) ho.fuse (hS.ownT (A := [(b, C 44 [.int .i64 d.room, fv, .int .i64 d.fuse, .bool d.down])]) (by repeat constructor))) ?_)
              rintro r1 w1 ⟨rfl, h⟩
              replace hS := hS.callT (A := [(b, C 44 [.int .i64 d.room, fv, .int .i64 d.fuse, .bool d.down])]) (by repeat constructor) h
              refine SatL.nil (SatE.thenC ?_)
              refine SatC.cond rfl (fun h7 => ?_) (fun h7 => ?_)
              · (try simp only [cx, ne_eq] at h7)
                try (exfalso; (first | omega | exact h7 trivial | contradiction | (first | omega | (simp at h7; done))); done)
                all_goals
                refine SatC.seq ?_
                refine SatC.region ?_
                refine SatL.pu (RunV.assign rfl) rfl ?_
                refine SatL.nil (SatE.thenC ?_)
                refine SatC.ret (SatE.then_ret ?_)
                refine SatE.ret1 rfl rfl ?_
                first
                | (rw [show aRename d n m = (2, d) from aw_bad (by simpa using h1) (by omega)]; exact ⟨rfl, fs, FB, D, fun c hc => hc, hr, hS.sel (by repeat constructor)⟩)
                | (have hz : d.fuse = 0 := by assumption
                   rw [show aRename d n m = (50, _) from aw_burn (by simpa using h1) (by omega) hz]
                   rw [decide_eq_true hz, Bool.or_true, show burnF d.fuse = d.fuse from if_neg (by omega)] at hS
                   exact ⟨rfl, fs, FB, D, fun c hc => hc, ⟨hsl, hrd, hab⟩, hS.sel (by repeat constructor)⟩)
                | (have hz : ¬ d.fuse = 0 := by assumption
                   rw [show aRename d n m = (0, _) from aw_yes (by simpa using h1) (by omega) hz]
                   rw [decide_eq_false hz, Bool.or_false] at hS
                   exact ⟨rfl, (fs.set m.toNat x).set n.toNat ⟨.slice none 0 0, [], 0⟩, F51, D, fun c hc => hc, ⟨hsl51, rset_rd (rset_rd hrd hxrd) RdD.nil, by rw [rab_ren hx, hab]⟩, hS.sel (by repeat constructor)⟩)
              · (try simp only [cx, ne_eq] at h7)
                try (exfalso; (first | omega | exact h7 trivial | contradiction | (first | omega | (simp at h7; done))); done)
                all_goals
                refine SatC.skip (SatE.thenC ?_)
                refine SatC.seq ?_
                obtain ⟨x, hx⟩ := get_some fs n.toNat (by omega)
                have hxrd := hrd x (List.mem_of_getElem? hx)
                have hx1 := rd_one hxrd
                refine SatC.drawnT 13 hS (hS) (by kernel_rfl) ?_
                clear hS
                intro w2 hh hS hD
                refine SatD.tk 0 rfl hD (fun _ hw => RunV.move rfl) ?_
                first | refine SatD.tk 1 rfl hD (fun _ hw => RunV.nil_ptr rfl) ?_ | refine SatD.tk 1 rfl hD (fun _ hw => RunV.nil_func rfl) ?_ | refine SatD.tk 1 rfl hD (fun _ hw => RunV.nil_yield rfl) ?_
                first | refine SatD.tk 2 rfl hD (fun _ hw => RunV.fieldAddrL rfl rfl rfl) ?_ | refine SatD.tk 2 rfl hD (fun _ hw => RunV.fieldAddr rfl rfl rfl) ?_
                refine SatD.tk 3 rfl hD (fun _ hw => RunV.load1 hw rfl rfl (by repeat constructor) rfl) ?_
                refine SatD.tk 4 rfl hD (fun _ hw => RunV.move rfl) ?_
                refine SatD.tk 5 rfl hD (fun _ hw => RunV.move rfl) ?_
                first | refine SatD.tk 6 rfl hD (fun _ hw => RunV.nil_ptr rfl) ?_ | refine SatD.tk 6 rfl hD (fun _ hw => RunV.nil_func rfl) ?_ | refine SatD.tk 6 rfl hD (fun _ hw => RunV.nil_yield rfl) ?_
                first | refine SatD.tk 7 rfl hD (fun _ hw => RunV.fieldAddrL rfl rfl rfl) ?_ | refine SatD.tk 7 rfl hD (fun _ hw => RunV.fieldAddr rfl rfl rfl) ?_
                refine SatD.tk 8 rfl hD (fun _ hw => RunV.load1 hw rfl rfl (by repeat constructor) rfl) ?_
                refine SatD.tk 9 rfl hD (fun _ hw => RunV.move rfl) ?_
                first | refine SatD.tk 10 rfl hD (fun _ hw => RunV.indexR (by assumption) rfl rfl rfl (by omega) (by omega) rfl) ?_ | refine SatD.tk 10 rfl hD (fun _ hw => RunV.indexS rfl rfl rfl (by omega) (by omega) rfl) ?_
                refine SatD.tk 11 rfl hD (fun _ hw => RunV.loadRNz (Sl.rd hsl hw (by repeat constructor)) rfl rfl (map_get hx)) ?_
                first | refine SatD.tk 12 rfl hD (fun _ hw => RunV.indexR (by assumption) rfl rfl rfl (by omega) (by omega) rfl) ?_ | refine SatD.tk 12 rfl hD (fun _ hw => RunV.indexS rfl rfl rfl (by omega) (by omega) rfl) ?_
                refine SatD.effF (by kernel_rfl) rfl rfl (OpW.storeSl (i := m.toNat) (r := rr x) hsl hS (by repeat constructor) rfl rfl .agg rfl (by rw [List.length_map]; omega) rfl (by simp only [List.all_cons, List.all_nil, hx1, Bool.and_true]; rfl) ?_)
                clear hS
                intro F44 w3 hsl44 hS
                rw [rmap_set] at hsl44
                obtain ⟨fc2, hfv2⟩ := hsl44.slv
                rw [List.length_map, List.length_set] at hfv2
                refine SatD.done 0 (by kernel_rfl) (SatE.thenC ?_)
                clear hD
                refine SatC.seq ?_
                refine SatC.weak (e' := [(0, _), (1, _), (6, _)]) (by repeat constructor) ?_
                refine SatC.region ?_
                refine SatL.pu (RunV.move rfl) rfl ?_
                first | refine SatL.pu (RunV.nil_ptr rfl) rfl ?_ | refine SatL.pu (RunV.nil_func rfl) rfl ?_ | refine SatL.pu (RunV.nil_yield rfl) rfl ?_
                first | refine SatL.pu (RunV.fieldAddrL rfl rfl rfl) rfl ?_ | refine SatL.pu (RunV.fieldAddr rfl rfl rfl) rfl ?_
                refine SatL.pu (RunV.load1 hS rfl rfl (by repeat constructor) rfl) rfl ?_
                refine SatL.pu (RunV.move rfl) rfl ?_
                refine SatL.pu (RunV.build rfl (by simp [go_sem]; try rfl)) rfl ?_
                refine SatL.pu (RunV.indexR hfv2 rfl rfl rfl (by omega) (by omega) rfl) rfl ?_
                refine SatL.op rfl (OpW.storeSl (i := n.toNat) (r := rr ⟨.slice none 0 0, [], 0⟩) hsl44 hS (by repeat constructor) rfl rfl .agg rfl (by rw [List.length_map, List.length_set]; omega) rfl rfl ?_)
                clear hS
                intro F51 w4 hsl51 hS
                rw [rmap_set] at hsl51
                refine SatL.nil (SatE.thenC ?_)
                refine SatC.seq ?_
                refine SatC.region ?_
                refine SatL.pu (RunV.assign rfl) rfl ?_
                refine SatL.nil (SatE.thenC ?_)
                refine SatC.ret ?_
                refine SatE.ret1 rfl rfl ?_
                first
                | (rw [show aRename d n m = (2, d) from aw_bad (by simpa using h1) (by omega)]; exact ⟨rfl, fs, FB, D, fun c hc => hc, hr, hS.sel (by repeat constructor)⟩)
                | (have hz : d.fuse = 0 := by assumption
                   rw [show aRename d n m = (50, _) from aw_burn (by simpa using h1) (by omega) hz]
                   rw [decide_eq_true hz, Bool.or_true, show burnF d.fuse = d.fuse from if_neg (by omega)] at hS
                   exact ⟨rfl, fs, FB, D, fun c hc => hc, ⟨hsl, hrd, hab⟩, hS.sel (by repeat constructor)⟩)
                | (have hz : ¬ d.fuse = 0 := by assumption
                   rw [show aRename d n m = (0, _) from aw_yes (by simpa using h1) (by omega) hz]
                   rw [decide_eq_false hz, Bool.or_false] at hS
                   exact ⟨rfl, (fs.set m.toNat x).set n.toNat ⟨.slice none 0 0, [], 0⟩, F51, D, fun c hc => hc, ⟨hsl51, rset_rd (rset_rd hrd hxrd) RdD.nil, by rw [rab_ren hx, hab]⟩, hS.sel (by repeat constructor)⟩)
          · (try simp only [cx, ne_eq] at h5)
            try (exfalso; (first | omega | exact h5 trivial | contradiction | (first | omega | (simp at h5; done))); done)
            all_goals
            refine SatL.guard_n rfl rfl rfl rfl ?_
            refine SatL.guard_n rfl rfl rfl rfl ?_
            refine SatL.pu (RunV.pick_t rfl rfl) rfl ?_
            refine SatL.nil (SatE.thenC ?_)
            refine SatC.weak (e' := [(0, _), (1, _), (2, _), (6, _), (29, _)]) (by repeat constructor) ?_
            refine SatC.cond_t rfl ?_
            refine SatC.seq ?_
            refine SatC.region ?_
            refine SatL.pu (RunV.assign rfl) rfl ?_
            refine SatL.nil (SatE.thenC ?_)
            refine SatC.ret (SatE.then_ret ?_)
            refine SatE.ret1 rfl rfl ?_
            first
            | (rw [show aRename d n m = (2, d) from aw_bad (by simpa using h1) (by omega)]; exact ⟨rfl, fs, FB, D, fun c hc => hc, hr, hS.sel (by repeat constructor)⟩)
            | (have hz : d.fuse = 0 := by assumption
               rw [show aRename d n m = (50, _) from aw_burn (by simpa using h1) (by omega) hz]
               rw [decide_eq_true hz, Bool.or_true, show burnF d.fuse = d.fuse from if_neg (by omega)] at hS
               exact ⟨rfl, fs, FB, D, fun c hc => hc, ⟨hsl, hrd, hab⟩, hS.sel (by repeat constructor)⟩)
            | (have hz : ¬ d.fuse = 0 := by assumption
               rw [show aRename d n m = (0, _) from aw_yes (by simpa using h1) (by omega) hz]
               rw [decide_eq_false hz, Bool.or_false] at hS
               exact ⟨rfl, (fs.set m.toNat x).set n.toNat ⟨.slice none 0 0, [], 0⟩, F51, D, fun c hc => hc, ⟨hsl51, rset_rd (rset_rd hrd hxrd) RdD.nil, by rw [rab_ren hx, hab]⟩, hS.sel (by repeat constructor)⟩)
        · (try simp only [cx, ne_eq] at h4)
          try (exfalso; (first | omega | exact h4 trivial | contradiction | (first | omega | (simp at h4; done))); done)
          all_goals
          refine SatL.guard_n rfl rfl rfl rfl ?_
          refine SatL.pu (RunV.pick_t rfl rfl) rfl ?_
          refine SatL.pu (RunV.move rfl) rfl ?_
          refine SatL.guard_n rfl rfl rfl rfl ?_
          refine SatL.guard_n rfl rfl rfl rfl ?_
          refine SatL.guard_n rfl rfl rfl rfl ?_
          refine SatL.pu (RunV.pick_t rfl rfl) rfl ?_
          refine SatL.nil (SatE.thenC ?_)
          refine SatC.weak (e' := [(0, _), (1, _), (2, _), (6, _), (29, _)]) (by repeat constructor) ?_
          refine SatC.cond_t rfl ?_
          refine SatC.seq ?_
          refine SatC.region ?_
          refine SatL.pu (RunV.assign rfl) rfl ?_
          refine SatL.nil (SatE.thenC ?_)
          refine SatC.ret (SatE.then_ret ?_)
          refine SatE.ret1 rfl rfl ?_
          first
          | (rw [show aRename d n m = (2, d) from aw_bad (by simpa using h1) (by omega)]; exact ⟨rfl, fs, FB, D, fun c hc => hc, hr, hS.sel (by repeat constructor)⟩)
          | (have hz : d.fuse = 0 := by assumption
             rw [show aRename d n m = (50, _) from aw_burn (by simpa using h1) (by omega) hz]
             rw [decide_eq_true hz, Bool.or_true, show burnF d.fuse = d.fuse from if_neg (by omega)] at hS
             exact ⟨rfl, fs, FB, D, fun c hc => hc, ⟨hsl, hrd, hab⟩, hS.sel (by repeat constructor)⟩)
          | (have hz : ¬ d.fuse = 0 := by assumption
             rw [show aRename d n m = (0, _) from aw_yes (by simpa using h1) (by omega) hz]
             rw [decide_eq_false hz, Bool.or_false] at hS
             exact ⟨rfl, (fs.set m.toNat x).set n.toNat ⟨.slice none 0 0, [], 0⟩, F51, D, fun c hc => hc, ⟨hsl51, rset_rd (rset_rd hrd hxrd) RdD.nil, by rw [rab_ren hx, hab]⟩, hS.sel (by repeat constructor)⟩)
      · (try simp only [cx, ne_eq] at h3)
        try (exfalso; (first | omega | exact h3 trivial | contradiction | (first | omega | (simp at h3; done))); done)
        all_goals
        refine SatL.guard_n rfl rfl rfl rfl ?_
        refine SatL.pu (RunV.pick_t rfl rfl) rfl ?_
        refine SatL.pu (RunV.move rfl) rfl ?_
        refine SatL.guard_n rfl rfl rfl rfl ?_
        refine SatL.guard_n rfl rfl rfl rfl ?_
        refine SatL.pu (RunV.pick_t rfl rfl) rfl ?_
        refine SatL.pu (RunV.move rfl) rfl ?_
        refine SatL.guard_n rfl rfl rfl rfl ?_
        refine SatL.guard_n rfl rfl rfl rfl ?_
        refine SatL.guard_n rfl rfl rfl rfl ?_
        refine SatL.pu (RunV.pick_t rfl rfl) rfl ?_
        refine SatL.nil (SatE.thenC ?_)
        refine SatC.weak (e' := [(0, _), (1, _), (2, _), (6, _), (29, _)]) (by repeat constructor) ?_
        refine SatC.cond_t rfl ?_
        refine SatC.seq ?_
        refine SatC.region ?_
        refine SatL.pu (RunV.assign rfl) rfl ?_
        refine SatL.nil (SatE.thenC ?_)
        refine SatC.ret (SatE.then_ret ?_)
        refine SatE.ret1 rfl rfl ?_
        first
        | (rw [show aRename d n m = (2, d) from aw_bad (by simpa using h1) (by omega)]; exact ⟨rfl, fs, FB, D, fun c hc => hc, hr, hS.sel (by repeat constructor)⟩)
        | (have hz : d.fuse = 0 := by assumption
           rw [show aRename d n m = (50, _) from aw_burn (by simpa using h1) (by omega) hz]
           rw [decide_eq_true hz, Bool.or_true, show burnF d.fuse = d.fuse from if_neg (by omega)] at hS
           exact ⟨rfl, fs, FB, D, fun c hc => hc, ⟨hsl, hrd, hab⟩, hS.sel (by repeat constructor)⟩)
        | (have hz : ¬ d.fuse = 0 := by assumption
           rw [show aRename d n m = (0, _) from aw_yes (by simpa using h1) (by omega) hz]
           rw [decide_eq_false hz, Bool.or_false] at hS
           exact ⟨rfl, (fs.set m.toNat x).set n.toNat ⟨.slice none 0 0, [], 0⟩, F51, D, fun c hc => hc, ⟨hsl51, rset_rd (rset_rd hrd hxrd) RdD.nil, by rw [rab_ren hx, hab]⟩, hS.sel (by repeat constructor)⟩)
    · (try simp only [cx, ne_eq] at h2)
      try (exfalso; (first | omega | exact h2 trivial | contradiction | (first | omega | (simp at h2; done))); done)
      all_goals
      refine SatL.guard_n rfl rfl rfl rfl ?_
      refine SatL.pu (RunV.pick_t rfl rfl) rfl ?_
      refine SatL.pu (RunV.move rfl) rfl ?_
      refine SatL.guard_n rfl rfl rfl rfl ?_
      refine SatL.guard_n rfl rfl rfl rfl ?_
      refine SatL.pu (RunV.pick_t rfl rfl) rfl ?_
      refine SatL.pu (RunV.move rfl) rfl ?_
      refine SatL.guard_n rfl rfl rfl rfl ?_
      refine SatL.guard_n rfl rfl rfl rfl ?_
      refine SatL.pu (RunV.pick_t rfl rfl) rfl ?_
      refine SatL.pu (RunV.move rfl) rfl ?_
      refine SatL.guard_n rfl rfl rfl rfl ?_
      refine SatL.guard_n rfl rfl rfl rfl ?_
      refine SatL.guard_n rfl rfl rfl rfl ?_
      refine SatL.pu (RunV.pick_t rfl rfl) rfl ?_
      refine SatL.nil (SatE.thenC ?_)
      refine SatC.weak (e' := [(0, _), (1, _), (2, _), (6, _), (29, _)]) (by repeat constructor) ?_
      refine SatC.cond_t rfl ?_
      refine SatC.seq ?_
      refine SatC.region ?_
      refine SatL.pu (RunV.assign rfl) rfl ?_
      refine SatL.nil (SatE.thenC ?_)
      refine SatC.ret (SatE.then_ret ?_)
      refine SatE.ret1 rfl rfl ?_
      first
      | (rw [show aRename d n m = (2, d) from aw_bad (by simpa using h1) (by omega)]; exact ⟨rfl, fs, FB, D, fun c hc => hc, hr, hS.sel (by repeat constructor)⟩)
      | (have hz : d.fuse = 0 := by assumption
         rw [show aRename d n m = (50, _) from aw_burn (by simpa using h1) (by omega) hz]
         rw [decide_eq_true hz, Bool.or_true, show burnF d.fuse = d.fuse from if_neg (by omega)] at hS
         exact ⟨rfl, fs, FB, D, fun c hc => hc, ⟨hsl, hrd, hab⟩, hS.sel (by repeat constructor)⟩)
      | (have hz : ¬ d.fuse = 0 := by assumption
         rw [show aRename d n m = (0, _) from aw_yes (by simpa using h1) (by omega) hz]
         rw [decide_eq_false hz, Bool.or_false] at hS
         exact ⟨rfl, (fs.set m.toNat x).set n.toNat ⟨.slice none 0 0, [], 0⟩, F51, D, fun c hc => hc, ⟨hsl51, rset_rd (rset_rd hrd hxrd) RdD.nil, by rw [rab_ren hx, hab]⟩, hS.sel (by repeat constructor)⟩)
theorem rarm_any (n : Int) (hn : -9223372036854775808 ≤ n ∧ n ≤ 9223372036854775807) (ho : d.Ok) (hr : RRep d fs fv FB D) (hown : Own w (RO b d fv FB D)) :
    Ret Try.prog 36 #[.pointer (some ⟨b, 0, none⟩), .int .i64 n] w fun u w' => RPost w b fv FB D d (aArm d n) w' := by
  have hS := St.init hown
  obtain ⟨hsl, hrd, hab⟩ := hr
  unfold RPost
  generalize hX : (RO b d fv FB D).map Prod.fst = X at hS ⊢
  refine Ret.enter Try.func36 Try.ntmps36 rfl rfl ?_
  simp only [argEnv, Nat.reduceAdd]
  refine SatC.seq ?_
  refine SatC.seq ?_
  refine SatC.region ?_
  refine SatL.pu (RunV.move rfl) rfl ?_
  refine SatL.pu (RunV.lss rfl rfl) rfl ?_
  refine SatL.nil (SatE.thenC ?_)
  refine SatC.cond rfl (fun h1 => ?_) (fun h1 => ?_)
  · (try simp only [cx, ne_eq] at h1)
    try (exfalso; (first | omega | exact h1 trivial | contradiction | (first | omega | (simp at h1; done))); done)
    all_goals
    refine SatC.region ?_
    refine SatL.pu (RunV.assign rfl) rfl ?_
    refine SatL.nil (SatE.thenC ?_)
    refine SatC.region ?_
    refine SatL.pu (RunV.move rfl) rfl ?_
    refine SatL.pu (RunV.move rfl) rfl ?_
    first | refine SatL.pu (RunV.nil_ptr rfl) rfl ?_ | refine SatL.pu (RunV.nil_func rfl) rfl ?_ | refine SatL.pu (RunV.nil_yield rfl) rfl ?_
    first | refine SatL.pu (RunV.fieldAddrL rfl rfl rfl) rfl ?_ | refine SatL.pu (RunV.fieldAddr rfl rfl rfl) rfl ?_
    refine SatL.op rfl (OpW.store hS rfl rfl (by repeat constructor) (by repeat constructor) (by repeat constructor) rfl rfl ?_)
    clear hS
    intro w1 hS
    refine SatL.nil ?_
    refine SatE.fin0 rfl ?_
    unfold aArm
    first
    | (rw [show max n (-1) = -1 from by omega]; exact ⟨fs, FB, D, fun c hc => hc, ⟨hsl, hrd, hab⟩, hS.sel (by repeat constructor)⟩)
    | (rw [show max n (-1) = n from by omega]; exact ⟨fs, FB, D, fun c hc => hc, ⟨hsl, hrd, hab⟩, hS.sel (by repeat constructor)⟩)
  · (try simp only [cx, ne_eq] at h1)
    try (exfalso; (first | omega | exact h1 trivial | contradiction | (first | omega | (simp at h1; done))); done)
    all_goals
    refine SatC.skip (SatE.thenC ?_)
    refine SatC.region ?_
    refine SatL.pu (RunV.move rfl) rfl ?_
    refine SatL.pu (RunV.move rfl) rfl ?_
    first | refine SatL.pu (RunV.nil_ptr rfl) rfl ?_ | refine SatL.pu (RunV.nil_func rfl) rfl ?_ | refine SatL.pu (RunV.nil_yield rfl) rfl ?_
    first | refine SatL.pu (RunV.fieldAddrL rfl rfl rfl) rfl ?_ | refine SatL.pu (RunV.fieldAddr rfl rfl rfl) rfl ?_
    refine SatL.op rfl (OpW.store hS rfl rfl (by repeat constructor) (by repeat constructor) (by repeat constructor) rfl rfl ?_)
    clear hS
    intro w1 hS
    refine SatL.nil ?_
    refine SatE.fin0 rfl ?_
    unfold aArm
    first
    | (rw [show max n (-1) = -1 from by omega]; exact ⟨fs, FB, D, fun c hc => hc, ⟨hsl, hrd, hab⟩, hS.sel (by repeat constructor)⟩)
    | (rw [show max n (-1) = n from by omega]; exact ⟨fs, FB, D, fun c hc => hc, ⟨hsl, hrd, hab⟩, hS.sel (by repeat constructor)⟩)
end
end Go.Proofs.Ytahholhggohbnaa
