/- The document's Spoil and Crash. -/
import Derived.Test.YtahholhggohbnaaRc
set_option linter.unusedSimpArgs false
set_option linter.unusedVariables false
set_option maxRecDepth 100000
set_option maxHeartbeats 4000000
namespace Go.Proofs.Ytahholhggohbnaa
open Go.RowKit
theorem rcrash_get {fa : List Fa} {gs : List Rf} {x : Rf} {k : Nat} {keep : Int} (hx : gs[k]? = some x) (hk : k < fa.length) (h : rab gs = (fa.take k).map (crashF keep) ++ fa.drop k) : fa[k]? = some (x.b, x.s) := by
  have e := rget_ab hx
  rw [h, List.getElem?_append_right (by rw [List.length_map, List.length_take]; omega), List.length_map, List.length_take, List.getElem?_drop] at e
  rw [← e]
  congr 1
  omega
theorem rcrash_step {fa : List Fa} {gs : List Rf} {x y : Rf} {k : Nat} {keep : Int} (hx : gs[k]? = some x) (hk : k < fa.length) (h : rab gs = (fa.take k).map (crashF keep) ++ fa.drop k) (hy : (y.b, y.s) = crashF keep (x.b, x.s)) :
    rab (gs.set k y) = (fa.take (k + 1)).map (crashF keep) ++ fa.drop (k + 1) := by
  have e := rcrash_get hx hk h
  have e1 : rab (gs.set k y) = (rab gs).set k (y.b, y.s) := by unfold rab; rw [List.map_set]
  have hl : ((fa.take k).map (crashF keep)).length = k := by rw [List.length_map, List.length_take]; omega
  have hd : fa.drop k = fa[k] :: fa.drop (k + 1) := List.drop_eq_getElem_cons hk
  have ek : fa[k] = (x.b, x.s) := by rw [List.getElem?_eq_getElem hk] at e; simpa using e
  rw [e1, h, List.set_append_right (h := by omega), hl, Nat.sub_self, hd, List.set_cons_zero, hy, List.take_add_one, e]
  simp only [Option.toList_some, List.map_append, List.map_cons, List.map_nil, List.append_assoc, List.cons_append, List.nil_append]
section
variable {b : Nat} {d : Dk} {fs : List Rf} {fv : Value} {FB D : List (Nat × Obj)} {w : World}
theorem rspoil_any (n i : Int) (m : UInt8) (ho : d.Ok) (hr : RRep d fs fv FB D) (hown : Own w (RO b d fv FB D)) :
    Ret Try.prog 38 #[.pointer (some ⟨b, 0, none⟩), .int .i64 n, .int .i64 i, byt m] w fun u w' => u = .bool (decide (spoilOk d n i)) ∧ RPost w b fv FB D d (aSpoil d n i m) w' := by
  have hS := St.init hown
  have h4 := hr.four ho
  obtain ⟨hsl, hrd, hab⟩ := hr
  have hr : RRep d fs fv FB D := ⟨hsl, hrd, hab⟩
  obtain ⟨fc, hfv⟩ := hsl.slv
  rw [List.length_map] at hfv
  have hroom := ho.room
  have hus := ho.used
  unfold RPost
  generalize hX : (RO b d fv FB D).map Prod.fst = X at hS ⊢
  by_cases hn : 0 ≤ n ∧ n < 4
  · obtain ⟨x, hx⟩ := get_some fs n.toNat (by omega)
    have hxrd := hrd x (List.mem_of_getElem? hx)
    obtain ⟨⟨xb, xo, xc, hxv⟩, hxr⟩ := hxrd
    have hlA : lenA d.fs n = x.b.length := by unfold lenA; rw [← hab, rget_ab hx]; rfl
    have hxl : x.b.length ≤ usedA d.fs := by rw [← hab]; exact mem_used (f := (x.b, x.s)) (List.mem_of_getElem? (rget_ab hx))
    refine Ret.enter Try.func38 Try.ntmps38 rfl rfl ?_
    simp only [argEnv, Nat.reduceAdd]
    refine SatC.seq ?_
    refine SatC.region ?_
    refine SatL.pu (RunV.assign rfl) rfl ?_
    refine SatL.nil (SatE.thenC ?_)
    refine SatC.seq ?_
    refine SatC.seq ?_
    refine SatC.region ?_
    refine SatL.pu (RunV.move rfl) rfl ?_
    refine SatL.pu (RunV.lss rfl rfl) rfl ?_
    refine SatL.pu (RunV.move rfl) rfl ?_
    refine SatL.guard rfl rfl rfl (fun h1 => ?_) (fun h1 => ?_)
    · (try simp only [cx, ne_eq] at h1)
      try (exfalso; (first | omega | exact h1 trivial | contradiction | (first | omega | (simp at h1; done))); done)
      all_goals
      refine SatL.pu (RunV.move rfl) rfl ?_
      refine SatL.guard_y rfl rfl ?_
      refine SatL.pu (RunV.gtr rfl rfl) rfl ?_
      refine SatL.pu (RunV.pick_f rfl rfl) rfl ?_
      refine SatL.pu (RunV.move rfl) rfl ?_
      refine SatL.guard rfl rfl rfl (fun h2 => ?_) (fun h2 => ?_)
      · (try simp only [cx, ne_eq] at h2)
        try (exfalso; (first | omega | exact h2 trivial | contradiction | (first | omega | (simp at h2; done))); done)
        all_goals
        refine SatL.pu (RunV.move rfl) rfl ?_
        refine SatL.guard_y rfl rfl ?_
        refine SatL.pu (RunV.lss rfl rfl) rfl ?_
        refine SatL.pu (RunV.pick_f rfl rfl) rfl ?_
        refine SatL.pu (RunV.move rfl) rfl ?_
        refine SatL.guard rfl rfl rfl (fun h3 => ?_) (fun h3 => ?_)
        · (try simp only [cx, ne_eq] at h3)
          try (exfalso; (first | omega | exact h3 trivial | contradiction | (first | omega | (simp at h3; done))); done)
          all_goals
          refine SatL.pu (RunV.move rfl) rfl ?_
          refine SatL.guard_y rfl rfl ?_
          refine SatL.pu (RunV.move rfl) rfl ?_
          refine SatL.guard_y rfl rfl ?_
          first | refine SatL.pu (RunV.nil_ptr rfl) rfl ?_ | refine SatL.pu (RunV.nil_func rfl) rfl ?_ | refine SatL.pu (RunV.nil_yield rfl) rfl ?_
          refine SatL.guard_y rfl rfl ?_
          first | refine SatL.pu (RunV.fieldAddrL rfl rfl rfl) rfl ?_ | refine SatL.pu (RunV.fieldAddr rfl rfl rfl) rfl ?_
          refine SatL.guard_y rfl rfl ?_
          refine SatL.pu (RunV.load1 hS rfl rfl (by repeat constructor) rfl) rfl ?_
          refine SatL.guard_y rfl rfl ?_
          refine SatL.pu (RunV.move rfl) rfl ?_
          refine SatL.guard_y rfl rfl ?_
          first | refine SatL.pu (RunV.indexR (by assumption) rfl rfl rfl (by omega) (by omega) rfl) rfl ?_ | refine SatL.pu (RunV.indexS rfl rfl rfl (by omega) (by omega) rfl) rfl ?_
          refine SatL.guard_y rfl rfl ?_
          first | refine SatL.pu (RunV.fieldAddrL rfl rfl rfl) rfl ?_ | refine SatL.pu (RunV.fieldAddr rfl rfl rfl) rfl ?_
          refine SatL.guard_y rfl rfl ?_
          refine SatL.pu (RunV.loadR1g n.toNat 0 (Sl.rd hsl hS (by repeat constructor)) rfl rfl (by omega) (map_get hx) rfl) rfl ?_
          refine SatL.guard_y rfl rfl ?_
          first | refine SatL.pu (RunV.lenR (by assumption) rfl rfl) rfl ?_ | refine SatL.pu (RunV.lenS rfl rfl) rfl ?_
          refine SatL.guard_y rfl rfl ?_
          refine SatL.pu (RunV.geq rfl rfl) rfl ?_
          refine SatL.pu (RunV.pick_f rfl rfl) rfl ?_
          refine SatL.nil (SatE.thenC ?_)
          refine SatC.weak (e' := [(0, _), (1, _), (2, _), (3, _), (8, _), (32, _)]) (by repeat constructor) ?_
          refine SatC.cond rfl (fun h4 => ?_) (fun h4 => ?_)
          · (try simp only [cx, ne_eq] at h4)
            try (exfalso; (first | omega | exact h4 trivial | contradiction | (first | omega | (simp at h4; done))); done)
            all_goals
            refine SatC.seq ?_
            refine SatC.region ?_
            refine SatL.pu (RunV.assign rfl) rfl ?_
            refine SatL.nil (SatE.thenC ?_)
            refine SatC.ret (SatE.then_ret ?_)
            refine SatE.ret1 rfl rfl ?_
            first
            | (have hno : ¬ spoilOk d n i := by unfold spoilOk; rw [hlA]; omega
               rw [spoil_no hno, decide_eq_false hno]
               exact ⟨rfl, fs, FB, D, fun c hc => hc, hr, hS.sel (by repeat constructor)⟩)
            | (have hyes : spoilOk d n i := by unfold spoilOk; rw [hlA]; omega
               rw [spoil_yes hyes, decide_eq_true hyes]
               refine ⟨rfl, fs.set n.toNat ⟨v42, x.b.set i.toNat (c ^^^ m), x.s⟩, F59, B51 ++ D, fun c hc => List.mem_append_right _ hc, ⟨hsl59, ?_, by rw [rab_set hx (g := fun f => (f.1.set i.toNat (f.1[i.toNat]?.getD 0 ^^^ m), f.2)) (by simp only [hc, Option.getD_some]), hab]⟩, hS.sel (by repeat constructor)⟩
               exact rset_rd (fun z hz => (hrd z hz).mono fun c hc => List.mem_append_right _ hc) (RdD.own (by simpa only [List.map_set] using hsl51) (fun c hc => List.mem_append_left _ hc) (by rw [List.length_set]; omega)))
          · (try simp only [cx, ne_eq] at h4)
            try (exfalso; (first | omega | exact h4 trivial | contradiction | (first | omega | (simp at h4; done))); done)
            all_goals
            refine SatC.skip (SatE.thenC ?_)
            refine SatC.seq ?_
            refine SatC.region ?_
            refine SatL.pu (RunV.assign rfl) rfl ?_
            refine SatL.nil (SatE.thenC ?_)
            refine SatC.seq ?_
            refine SatC.region ?_
            refine SatL.pu (RunV.move rfl) rfl ?_
            refine SatL.pu (RunV.move rfl) rfl ?_
            first | refine SatL.pu (RunV.nil_ptr rfl) rfl ?_ | refine SatL.pu (RunV.nil_func rfl) rfl ?_ | refine SatL.pu (RunV.nil_yield rfl) rfl ?_
            first | refine SatL.pu (RunV.fieldAddrL rfl rfl rfl) rfl ?_ | refine SatL.pu (RunV.fieldAddr rfl rfl rfl) rfl ?_
            refine SatL.pu (RunV.load1 hS rfl rfl (by repeat constructor) rfl) rfl ?_
            refine SatL.pu (RunV.move rfl) rfl ?_
            first | refine SatL.pu (RunV.indexR (by assumption) rfl rfl rfl (by omega) (by omega) rfl) rfl ?_ | refine SatL.pu (RunV.indexS rfl rfl rfl (by omega) (by omega) rfl) rfl ?_
            first | refine SatL.pu (RunV.fieldAddrL rfl rfl rfl) rfl ?_ | refine SatL.pu (RunV.fieldAddr rfl rfl rfl) rfl ?_
            refine SatL.pu (RunV.loadR1g n.toNat 0 (Sl.rd hsl hS (by repeat constructor)) rfl rfl (by omega) (map_get hx) rfl) rfl ?_
            refine SatL.op rfl (OpW.appendB (news := x.b.map by1c) (B := []) (rows := []) .nil hS (.here (B := [])) hxv (by obtain ⟨b1, o1, c1, h1, _, h2, _⟩ := (hxr _ (fun c hc => (hS.sel (R := D) (by repeat constructor)).own c hc)).open; exact RdC.same h1 hxv h2 (List.length_map _)) (List.length_map _) rfl rfl rfl rfl rfl rfl rfl (by1c_one' _) (by simp only [List.length_nil]; omega) (by simp only [List.length_nil]; omega) rfl ?_)
            clear hS
            intro v42 B42 w1 hsl42 hS
            rw [List.nil_append] at hsl42
            obtain ⟨c42, hv42⟩ := hsl42.slv
            rw [List.length_map] at hv42
            refine SatL.pu (RunV.assign rfl) rfl ?_
            refine SatL.nil (SatE.thenC ?_)
            refine SatC.seq ?_
            obtain ⟨c, hc⟩ := get_some x.b i.toNat (by omega)
            refine SatC.region ?_
            refine SatL.pu (RunV.move rfl) rfl ?_
            refine SatL.pu (RunV.move rfl) rfl ?_
            refine SatL.pu (RunV.move rfl) rfl ?_
            refine SatL.pu (RunV.move rfl) rfl ?_
            first | refine SatL.pu (RunV.indexR (by assumption) rfl rfl rfl (by omega) (by omega) rfl) rfl ?_ | refine SatL.pu (RunV.indexS rfl rfl rfl (by omega) (by omega) rfl) rfl ?_
            refine SatL.pu (RunV.loadR1z (Sl.rd hsl42 hS (by repeat constructor)) rfl rfl (map_get hc) rfl) rfl ?_
            refine SatL.pu (RunV.move rfl) rfl ?_
            refine SatL.pu (RunV.xor8 (c := c.toBitVec) (d := m.toBitVec) rfl rfl) rfl ?_
            first | refine SatL.pu (RunV.indexR (by assumption) rfl rfl rfl (by omega) (by omega) rfl) rfl ?_ | refine SatL.pu (RunV.indexS rfl rfl rfl (by omega) (by omega) rfl) rfl ?_
            refine SatL.op rfl (OpW.storeSl (r := by1c (c ^^^ m)) hsl42 hS (by repeat constructor) rfl rfl (IsCells.one rfl) rfl (by rw [List.length_map]; omega) rfl rfl ?_)
            clear hS
            intro B51 w2 hsl51 hS
            refine SatL.nil (SatE.thenC ?_)
            refine SatC.seq ?_
            refine SatC.weak (e' := [(0, _), (1, _), (8, _), (9, _)]) (by repeat constructor) ?_
            refine SatC.region ?_
            refine SatL.pu (RunV.move rfl) rfl ?_
            first | refine SatL.pu (RunV.nil_ptr rfl) rfl ?_ | refine SatL.pu (RunV.nil_func rfl) rfl ?_ | refine SatL.pu (RunV.nil_yield rfl) rfl ?_
            first | refine SatL.pu (RunV.fieldAddrL rfl rfl rfl) rfl ?_ | refine SatL.pu (RunV.fieldAddr rfl rfl rfl) rfl ?_
            refine SatL.pu (RunV.load1 hS rfl rfl (by repeat constructor) rfl) rfl ?_
            refine SatL.pu (RunV.move rfl) rfl ?_
            refine SatL.pu (RunV.move rfl) rfl ?_
            first | refine SatL.pu (RunV.indexR (by assumption) rfl rfl rfl (by omega) (by omega) rfl) rfl ?_ | refine SatL.pu (RunV.indexS rfl rfl rfl (by omega) (by omega) rfl) rfl ?_
            first | refine SatL.pu (RunV.fieldAddrL rfl rfl rfl) rfl ?_ | refine SatL.pu (RunV.fieldAddr rfl rfl rfl) rfl ?_
            refine SatL.op rfl (OpW.storeSlJ (i := n.toNat) (j := 0) hsl hS (by repeat constructor) rfl rfl (by omega) (map_get hx) (by decide) rfl hsl51.one ?_)
            clear hS
            intro F59 w3 hsl59 hS
            change Sl 47 2 fv ((fs.map rr).set n.toNat (rr ⟨v42, x.b.set i.toNat (c ^^^ m), x.s⟩)) F59 at hsl59
            rw [rmap_set] at hsl59
            refine SatL.nil (SatE.thenC ?_)
            refine SatC.seq ?_
            refine SatC.region ?_
            refine SatL.pu (RunV.assign rfl) rfl ?_
            refine SatL.nil (SatE.thenC ?_)
            refine SatC.ret ?_
            refine SatE.ret1 rfl rfl ?_
            first
            | (have hno : ¬ spoilOk d n i := by unfold spoilOk; rw [hlA]; omega
               rw [spoil_no hno, decide_eq_false hno]
               exact ⟨rfl, fs, FB, D, fun c hc => hc, hr, hS.sel (by repeat constructor)⟩)
            | (have hyes : spoilOk d n i := by unfold spoilOk; rw [hlA]; omega
               rw [spoil_yes hyes, decide_eq_true hyes]
               refine ⟨rfl, fs.set n.toNat ⟨v42, x.b.set i.toNat (c ^^^ m), x.s⟩, F59, B51 ++ D, fun c hc => List.mem_append_right _ hc, ⟨hsl59, ?_, by rw [rab_set hx (g := fun f => (f.1.set i.toNat (f.1[i.toNat]?.getD 0 ^^^ m), f.2)) (by simp only [hc, Option.getD_some]), hab]⟩, hS.sel (by repeat constructor)⟩
               exact rset_rd (fun z hz => (hrd z hz).mono fun c hc => List.mem_append_right _ hc) (RdD.own (by simpa only [List.map_set] using hsl51) (fun c hc => List.mem_append_left _ hc) (by rw [List.length_set]; omega)))
        · (try simp only [cx, ne_eq] at h3)
          try (exfalso; (first | omega | exact h3 trivial | contradiction | (first | omega | (simp at h3; done))); done)
          all_goals
          refine SatL.guard_n rfl rfl rfl rfl ?_
          refine SatL.guard_n rfl rfl rfl rfl ?_
          refine SatL.guard_n rfl rfl rfl rfl ?_
          refine SatL.guard_n rfl rfl rfl rfl ?_
          refine SatL.guard_n rfl rfl rfl rfl ?_
          refine SatL.guard_n rfl rfl rfl rfl ?_
          refine SatL.guard_n rfl rfl rfl rfl ?_
          refine SatL.guard_n rfl rfl rfl rfl ?_
          refine SatL.guard_n rfl rfl rfl rfl ?_
          refine SatL.guard_n rfl rfl rfl rfl ?_
          refine SatL.pu (RunV.pick_t rfl rfl) rfl ?_
          refine SatL.nil (SatE.thenC ?_)
          refine SatC.weak (e' := [(0, _), (1, _), (2, _), (3, _), (8, _), (32, _)]) (by repeat constructor) ?_
          refine SatC.cond_t rfl ?_
          refine SatC.seq ?_
          refine SatC.region ?_
          refine SatL.pu (RunV.assign rfl) rfl ?_
          refine SatL.nil (SatE.thenC ?_)
          refine SatC.ret (SatE.then_ret ?_)
          refine SatE.ret1 rfl rfl ?_
          first
          | (have hno : ¬ spoilOk d n i := by unfold spoilOk; rw [hlA]; omega
             rw [spoil_no hno, decide_eq_false hno]
             exact ⟨rfl, fs, FB, D, fun c hc => hc, hr, hS.sel (by repeat constructor)⟩)
          | (have hyes : spoilOk d n i := by unfold spoilOk; rw [hlA]; omega
             rw [spoil_yes hyes, decide_eq_true hyes]
             refine ⟨rfl, fs.set n.toNat ⟨v42, x.b.set i.toNat (c ^^^ m), x.s⟩, F59, B51 ++ D, fun c hc => List.mem_append_right _ hc, ⟨hsl59, ?_, by rw [rab_set hx (g := fun f => (f.1.set i.toNat (f.1[i.toNat]?.getD 0 ^^^ m), f.2)) (by simp only [hc, Option.getD_some]), hab]⟩, hS.sel (by repeat constructor)⟩
             exact rset_rd (fun z hz => (hrd z hz).mono fun c hc => List.mem_append_right _ hc) (RdD.own (by simpa only [List.map_set] using hsl51) (fun c hc => List.mem_append_left _ hc) (by rw [List.length_set]; omega)))
      · (try simp only [cx, ne_eq] at h2)
        try (exfalso; (first | omega | exact h2 trivial | contradiction | (first | omega | (simp at h2; done))); done)
        all_goals
        refine SatL.guard_n rfl rfl rfl rfl ?_
        refine SatL.pu (RunV.pick_t rfl rfl) rfl ?_
        refine SatL.pu (RunV.move rfl) rfl ?_
        refine SatL.guard_n rfl rfl rfl rfl ?_
        refine SatL.guard_n rfl rfl rfl rfl ?_
        refine SatL.guard_n rfl rfl rfl rfl ?_
        refine SatL.guard_n rfl rfl rfl rfl ?_
        refine SatL.guard_n rfl rfl rfl rfl ?_
        refine SatL.guard_n rfl rfl rfl rfl ?_
        refine SatL.guard_n rfl rfl rfl rfl ?_
        refine SatL.guard_n rfl rfl rfl rfl ?_
        refine SatL.guard_n rfl rfl rfl rfl ?_
        refine SatL.guard_n rfl rfl rfl rfl ?_
        refine SatL.guard_n rfl rfl rfl rfl ?_
        refine SatL.pu (RunV.pick_t rfl rfl) rfl ?_
        refine SatL.nil (SatE.thenC ?_)
        refine SatC.weak (e' := [(0, _), (1, _), (2, _), (3, _), (8, _), (32, _)]) (by repeat constructor) ?_
        refine SatC.cond_t rfl ?_
        refine SatC.seq ?_
        refine SatC.region ?_
        refine SatL.pu (RunV.assign rfl) rfl ?_
        refine SatL.nil (SatE.thenC ?_)
        refine SatC.ret (SatE.then_ret ?_)
        refine SatE.ret1 rfl rfl ?_
        first
        | (have hno : ¬ spoilOk d n i := by unfold spoilOk; rw [hlA]; omega
           rw [spoil_no hno, decide_eq_false hno]
           exact ⟨rfl, fs, FB, D, fun c hc => hc, hr, hS.sel (by repeat constructor)⟩)
        | (have hyes : spoilOk d n i := by unfold spoilOk; rw [hlA]; omega
           rw [spoil_yes hyes, decide_eq_true hyes]
           refine ⟨rfl, fs.set n.toNat ⟨v42, x.b.set i.toNat (c ^^^ m), x.s⟩, F59, B51 ++ D, fun c hc => List.mem_append_right _ hc, ⟨hsl59, ?_, by rw [rab_set hx (g := fun f => (f.1.set i.toNat (f.1[i.toNat]?.getD 0 ^^^ m), f.2)) (by simp only [hc, Option.getD_some]), hab]⟩, hS.sel (by repeat constructor)⟩
           exact rset_rd (fun z hz => (hrd z hz).mono fun c hc => List.mem_append_right _ hc) (RdD.own (by simpa only [List.map_set] using hsl51) (fun c hc => List.mem_append_left _ hc) (by rw [List.length_set]; omega)))
    · (try simp only [cx, ne_eq] at h1)
      try (exfalso; (first | omega | exact h1 trivial | contradiction | (first | omega | (simp at h1; done))); done)
      all_goals
      refine SatL.guard_n rfl rfl rfl rfl ?_
      refine SatL.pu (RunV.pick_t rfl rfl) rfl ?_
      refine SatL.pu (RunV.move rfl) rfl ?_
      refine SatL.guard_n rfl rfl rfl rfl ?_
      refine SatL.guard_n rfl rfl rfl rfl ?_
      refine SatL.pu (RunV.pick_t rfl rfl) rfl ?_
      refine SatL.pu (RunV.move rfl) rfl ?_
      refine SatL.guard_n rfl rfl rfl rfl ?_
      refine SatL.guard_n rfl rfl rfl rfl ?_
      refine SatL.guard_n rfl rfl rfl rfl ?_
      refine SatL.guard_n rfl rfl rfl rfl ?_
      refine SatL.guard_n rfl rfl rfl rfl ?_
      refine SatL.guard_n rfl rfl rfl rfl ?_
      refine SatL.guard_n rfl rfl rfl rfl ?_
      refine SatL.guard_n rfl rfl rfl rfl ?_
      refine SatL.guard_n rfl rfl rfl rfl ?_
      refine SatL.guard_n rfl rfl rfl rfl ?_
      refine SatL.guard_n rfl rfl rfl rfl ?_
      refine SatL.pu (RunV.pick_t rfl rfl) rfl ?_
      refine SatL.nil (SatE.thenC ?_)
      refine SatC.weak (e' := [(0, _), (1, _), (2, _), (3, _), (8, _), (32, _)]) (by repeat constructor) ?_
      refine SatC.cond_t rfl ?_
      refine SatC.seq ?_
      refine SatC.region ?_
      refine SatL.pu (RunV.assign rfl) rfl ?_
      refine SatL.nil (SatE.thenC ?_)
      refine SatC.ret (SatE.then_ret ?_)
      refine SatE.ret1 rfl rfl ?_
      first
      | (have hno : ¬ spoilOk d n i := by unfold spoilOk; rw [hlA]; omega
         rw [spoil_no hno, decide_eq_false hno]
         exact ⟨rfl, fs, FB, D, fun c hc => hc, hr, hS.sel (by repeat constructor)⟩)
      | (have hyes : spoilOk d n i := by unfold spoilOk; rw [hlA]; omega
         rw [spoil_yes hyes, decide_eq_true hyes]
         refine ⟨rfl, fs.set n.toNat ⟨v42, x.b.set i.toNat (c ^^^ m), x.s⟩, F59, B51 ++ D, fun c hc => List.mem_append_right _ hc, ⟨hsl59, ?_, by rw [rab_set hx (g := fun f => (f.1.set i.toNat (f.1[i.toNat]?.getD 0 ^^^ m), f.2)) (by simp only [hc, Option.getD_some]), hab]⟩, hS.sel (by repeat constructor)⟩
         exact rset_rd (fun z hz => (hrd z hz).mono fun c hc => List.mem_append_right _ hc) (RdD.own (by simpa only [List.map_set] using hsl51) (fun c hc => List.mem_append_left _ hc) (by rw [List.length_set]; omega)))
  · have hno : ¬ spoilOk d n i := fun h => hn h.1
    rw [spoil_no hno, decide_eq_false hno]
    refine Ret.enter Try.func38 Try.ntmps38 rfl rfl ?_
    simp only [argEnv, Nat.reduceAdd]
    refine SatC.seq ?_
    refine SatC.region ?_
    refine SatL.pu (RunV.assign rfl) rfl ?_
    refine SatL.nil (SatE.thenC ?_)
    refine SatC.seq ?_
    refine SatC.seq ?_
    refine SatC.region ?_
    refine SatL.pu (RunV.move rfl) rfl ?_
    refine SatL.pu (RunV.lss rfl rfl) rfl ?_
    refine SatL.pu (RunV.move rfl) rfl ?_
    refine SatL.guard rfl rfl rfl (fun h1 => ?_) (fun h1 => ?_)
    · (try simp only [cx, ne_eq] at h1)
      try (exfalso; (first | omega | exact h1 trivial | contradiction | (first | omega | (simp at h1; done))); done)
      all_goals
      refine SatL.pu (RunV.move rfl) rfl ?_
      refine SatL.guard_y rfl rfl ?_
      refine SatL.pu (RunV.gtr rfl rfl) rfl ?_
      refine SatL.pu (RunV.pick_f rfl rfl) rfl ?_
      refine SatL.pu (RunV.move rfl) rfl ?_
      refine SatL.guard rfl rfl rfl (fun h2 => ?_) (fun h2 => ?_)
      · (try simp only [cx, ne_eq] at h2)
        try (exfalso; (first | omega | exact h2 trivial | contradiction | (first | omega | (simp at h2; done))); done)
        all_goals
        refine SatL.pu (RunV.move rfl) rfl ?_
        refine SatL.guard_y rfl rfl ?_
        refine SatL.pu (RunV.lss rfl rfl) rfl ?_
        refine SatL.pu (RunV.pick_f rfl rfl) rfl ?_
        refine SatL.pu (RunV.move rfl) rfl ?_
        refine SatL.guard rfl rfl rfl (fun h3 => ?_) (fun h3 => ?_)
        · (try simp only [cx, ne_eq] at h3)
          try (exfalso; (first | omega | exact h3 trivial | contradiction | (first | omega | (simp at h3; done))); done)
          all_goals
          refine SatL.pu (RunV.move rfl) rfl ?_
          refine SatL.guard_y rfl rfl ?_
          refine SatL.pu (RunV.move rfl) rfl ?_
          refine SatL.guard_y rfl rfl ?_
          first | refine SatL.pu (RunV.nil_ptr rfl) rfl ?_ | refine SatL.pu (RunV.nil_func rfl) rfl ?_ | refine SatL.pu (RunV.nil_yield rfl) rfl ?_
          refine SatL.guard_y rfl rfl ?_
          first | refine SatL.pu (RunV.fieldAddrL rfl rfl rfl) rfl ?_ | refine SatL.pu (RunV.fieldAddr rfl rfl rfl) rfl ?_
          refine SatL.guard_y rfl rfl ?_
          refine SatL.pu (RunV.load1 hS rfl rfl (by repeat constructor) rfl) rfl ?_
          refine SatL.guard_y rfl rfl ?_
          refine SatL.pu (RunV.move rfl) rfl ?_
          refine SatL.guard_y rfl rfl ?_
          first | refine SatL.pu (RunV.indexR (by assumption) rfl rfl rfl (by omega) (by omega) rfl) rfl ?_ | refine SatL.pu (RunV.indexS rfl rfl rfl (by omega) (by omega) rfl) rfl ?_
          refine SatL.guard_y rfl rfl ?_
          first | refine SatL.pu (RunV.fieldAddrL rfl rfl rfl) rfl ?_ | refine SatL.pu (RunV.fieldAddr rfl rfl rfl) rfl ?_
          refine SatL.guard_y rfl rfl ?_
          first | refine SatL.pu (RunV.loadR1f (RdC.st (by assumption) hS List.not_mem_nil) rfl rfl (by first | assumption | exact map_get (by assumption)) rfl) rfl ?_ | refine SatL.pu (RunV.loadR1f (Sl.rd (by assumption) hS (by repeat constructor)) rfl rfl (by first | assumption | exact map_get (by assumption)) rfl) rfl ?_
          refine SatL.guard_y rfl rfl ?_
          first | refine SatL.pu (RunV.lenR (by assumption) rfl rfl) rfl ?_ | refine SatL.pu (RunV.lenS rfl rfl) rfl ?_
          refine SatL.guard_y rfl rfl ?_
          refine SatL.pu (RunV.geq rfl rfl) rfl ?_
          refine SatL.pu (RunV.pick_f rfl rfl) rfl ?_
          refine SatL.nil (SatE.thenC ?_)
          refine SatC.weak (e' := [(0, _), (1, _), (2, _), (3, _), (8, _), (32, _)]) (by repeat constructor) ?_
          refine SatC.cond rfl (fun h4 => ?_) (fun h4 => ?_)
          · (try simp only [cx, ne_eq] at h4)
            try (exfalso; (first | omega | exact h4 trivial | contradiction | (first | omega | (simp at h4; done))); done)
            all_goals
            refine SatC.seq ?_
            refine SatC.region ?_
            refine SatL.pu (RunV.assign rfl) rfl ?_
            refine SatL.nil (SatE.thenC ?_)
            refine SatC.ret (SatE.then_ret ?_)
            refine SatE.ret1 rfl rfl ?_
            exact ⟨rfl, fs, FB, D, fun c hc => hc, hr, hS.sel (by repeat constructor)⟩
          · (try simp only [cx, ne_eq] at h4)
            try (exfalso; (first | omega | exact h4 trivial | contradiction | (first | omega | (simp at h4; done))); done)
            all_goals
            refine SatC.skip (SatE.thenC ?_)
            refine SatC.seq ?_
            refine SatC.region ?_
            refine SatL.pu (RunV.assign rfl) rfl ?_
            refine SatL.nil (SatE.thenC ?_)
            refine SatC.seq ?_
            refine SatC.region ?_
            refine SatL.pu (RunV.move rfl) rfl ?_
            refine SatL.pu (RunV.move rfl) rfl ?_
            first | refine SatL.pu (RunV.nil_ptr rfl) rfl ?_ | refine SatL.pu (RunV.nil_func rfl) rfl ?_ | refine SatL.pu (RunV.nil_yield rfl) rfl ?_
            first | refine SatL.pu (RunV.fieldAddrL rfl rfl rfl) rfl ?_ | refine SatL.pu (RunV.fieldAddr rfl rfl rfl) rfl ?_
            refine SatL.pu (RunV.load1 hS rfl rfl (by repeat constructor) rfl) rfl ?_
            refine SatL.pu (RunV.move rfl) rfl ?_
            first | refine SatL.pu (RunV.indexR (by assumption) rfl rfl rfl (by omega) (by omega) rfl) rfl ?_ | refine SatL.pu (RunV.indexS rfl rfl rfl (by omega) (by omega) rfl) rfl ?_
            first | refine SatL.pu (RunV.fieldAddrL rfl rfl rfl) rfl ?_ | refine SatL.pu (RunV.fieldAddr rfl rfl rfl) rfl ?_
            first | refine SatL.pu (RunV.loadR1f (RdC.st (by assumption) hS List.not_mem_nil) rfl rfl (by first | assumption | exact map_get (by assumption)) rfl) rfl ?_ | refine SatL.pu (RunV.loadR1f (Sl.rd (by assumption) hS (by repeat constructor)) rfl rfl (by first | assumption | exact map_get (by assumption)) rfl) rfl ?_
            -- STOP -- BUILTIN append
            done
        · (try simp only [cx, ne_eq] at h3)
          try (exfalso; (first | omega | exact h3 trivial | contradiction | (first | omega | (simp at h3; done))); done)
          all_goals
          refine SatL.guard_n rfl rfl rfl rfl ?_
          refine SatL.guard_n rfl rfl rfl rfl ?_
          refine SatL.guard_n rfl rfl rfl rfl ?_
          refine SatL.guard_n rfl rfl rfl rfl ?_
          refine SatL.guard_n rfl rfl rfl rfl ?_
          refine SatL.guard_n rfl rfl rfl rfl ?_
          refine SatL.guard_n rfl rfl rfl rfl ?_
          refine SatL.guard_n rfl rfl rfl rfl ?_
          refine SatL.guard_n rfl rfl rfl rfl ?_
          refine SatL.guard_n rfl rfl rfl rfl ?_
          refine SatL.pu (RunV.pick_t rfl rfl) rfl ?_
          refine SatL.nil (SatE.thenC ?_)
          refine SatC.weak (e' := [(0, _), (1, _), (2, _), (3, _), (8, _), (32, _)]) (by repeat constructor) ?_
          refine SatC.cond_t rfl ?_
          refine SatC.seq ?_
          refine SatC.region ?_
          refine SatL.pu (RunV.assign rfl) rfl ?_
          refine SatL.nil (SatE.thenC ?_)
          refine SatC.ret (SatE.then_ret ?_)
          refine SatE.ret1 rfl rfl ?_
          exact ⟨rfl, fs, FB, D, fun c hc => hc, hr, hS.sel (by repeat constructor)⟩
      · (try simp only [cx, ne_eq] at h2)
        try (exfalso; (first | omega | exact h2 trivial | contradiction | (first | omega | (simp at h2; done))); done)
        all_goals
        refine SatL.guard_n rfl rfl rfl rfl ?_
        refine SatL.pu (RunV.pick_t rfl rfl) rfl ?_
        refine SatL.pu (RunV.move rfl) rfl ?_
        refine SatL.guard_n rfl rfl rfl rfl ?_
        refine SatL.guard_n rfl rfl rfl rfl ?_
        refine SatL.guard_n rfl rfl rfl rfl ?_
        refine SatL.guard_n rfl rfl rfl rfl ?_
        refine SatL.guard_n rfl rfl rfl rfl ?_
        refine SatL.guard_n rfl rfl rfl rfl ?_
        refine SatL.guard_n rfl rfl rfl rfl ?_
        refine SatL.guard_n rfl rfl rfl rfl ?_
        refine SatL.guard_n rfl rfl rfl rfl ?_
        refine SatL.guard_n rfl rfl rfl rfl ?_
        refine SatL.guard_n rfl rfl rfl rfl ?_
        refine SatL.pu (RunV.pick_t rfl rfl) rfl ?_
        refine SatL.nil (SatE.thenC ?_)
        refine SatC.weak (e' := [(0, _), (1, _), (2, _), (3, _), (8, _), (32, _)]) (by repeat constructor) ?_
        refine SatC.cond_t rfl ?_
        refine SatC.seq ?_
        refine SatC.region ?_
        refine SatL.pu (RunV.assign rfl) rfl ?_
        refine SatL.nil (SatE.thenC ?_)
        refine SatC.ret (SatE.then_ret ?_)
        refine SatE.ret1 rfl rfl ?_
        exact ⟨rfl, fs, FB, D, fun c hc => hc, hr, hS.sel (by repeat constructor)⟩
    · (try simp only [cx, ne_eq] at h1)
      try (exfalso; (first | omega | exact h1 trivial | contradiction | (first | omega | (simp at h1; done))); done)
      all_goals
      refine SatL.guard_n rfl rfl rfl rfl ?_
      refine SatL.pu (RunV.pick_t rfl rfl) rfl ?_
      refine SatL.pu (RunV.move rfl) rfl ?_
      refine SatL.guard_n rfl rfl rfl rfl ?_
      refine SatL.guard_n rfl rfl rfl rfl ?_
      refine SatL.pu (RunV.pick_t rfl rfl) rfl ?_
      refine SatL.pu (RunV.move rfl) rfl ?_
      refine SatL.guard_n rfl rfl rfl rfl ?_
      refine SatL.guard_n rfl rfl rfl rfl ?_
      refine SatL.guard_n rfl rfl rfl rfl ?_
      refine SatL.guard_n rfl rfl rfl rfl ?_
      refine SatL.guard_n rfl rfl rfl rfl ?_
      refine SatL.guard_n rfl rfl rfl rfl ?_
      refine SatL.guard_n rfl rfl rfl rfl ?_
      refine SatL.guard_n rfl rfl rfl rfl ?_
      refine SatL.guard_n rfl rfl rfl rfl ?_
      refine SatL.guard_n rfl rfl rfl rfl ?_
      refine SatL.guard_n rfl rfl rfl rfl ?_
      refine SatL.pu (RunV.pick_t rfl rfl) rfl ?_
      refine SatL.nil (SatE.thenC ?_)
      refine SatC.weak (e' := [(0, _), (1, _), (2, _), (3, _), (8, _), (32, _)]) (by repeat constructor) ?_
      refine SatC.cond_t rfl ?_
      refine SatC.seq ?_
      refine SatC.region ?_
      refine SatL.pu (RunV.assign rfl) rfl ?_
      refine SatL.nil (SatE.thenC ?_)
      refine SatC.ret (SatE.then_ret ?_)
      refine SatE.ret1 rfl rfl ?_
      exact ⟨rfl, fs, FB, D, fun c hc => hc, hr, hS.sel (by repeat constructor)⟩
theorem rcrash_any (keep : Int) (ho : d.Ok) (hr : RRep d fs fv FB D) (hown : Own w (RO b d fv FB D)) :
    Ret Try.prog 37 #[.pointer (some ⟨b, 0, none⟩), .int .i64 keep] w fun u w' => RPost w b fv FB D d (aCrash d keep) w' := by
  have hS := St.init hown
  have h4 := hr.four ho
  have hroom := ho.room
  have hus := ho.used
  obtain ⟨hsl, hrd, hab⟩ := hr
  have hfa := ho.four
  unfold RPost
  generalize hX : (RO b d fv FB D).map Prod.fst = X at hS ⊢
  refine Ret.enter Try.func37 Try.ntmps37 rfl rfl ?_
  simp only [argEnv, Nat.reduceAdd]
  refine SatC.seq ?_
  refine SatC.seq ?_
  refine SatC.region ?_
  refine SatL.pu (RunV.assign rfl) rfl ?_
  refine SatL.nil (SatE.thenC ?_)
  refine SatC.block ?_
  refine SatC.loopK (G := Nat × List Rf × List (Nat × Obj)) (V := fun ⟨k, gs, GB⟩ => [(4, .int .i64 (k : Int))]) (Cn := [(0, _), (1, _)]) (I := fun ⟨k, gs, GB⟩ w' => k ≤ 4 ∧ gs.length = 4 ∧ Sl 47 2 fv (gs.map rr) GB ∧ (∀ x ∈ gs, RdD D x.v x.b) ∧ rab gs = (d.fs.take k).map (crashF keep) ++ d.fs.drop k ∧ St w X (RO b d fv GB D) w') (μ := fun ⟨k, gs, GB⟩ => 4 - k) (0, fs, FB) ?_ (by repeat constructor) ?_
  · exact ⟨Nat.zero_le _, h4, hsl, hrd, hab, hS⟩
  clear hS
  rintro ⟨k, gs, GB⟩ w1 ⟨hk, hg4, hgsl, hgrd, hgab, hS⟩
  obtain ⟨gc, hgv⟩ := hgsl.slv
  rw [List.length_map] at hgv
  refine SatC.weak (e' := [(0, _), (1, _), (4, _)]) (by repeat constructor) ?_
  refine SatC.seq ?_
  refine SatC.seq ?_
  refine SatC.region ?_
  refine SatL.pu (RunV.move rfl) rfl ?_
  refine SatL.pu (RunV.lss rfl rfl) rfl ?_
  refine SatL.nil (SatE.thenC ?_)
  refine SatC.cond rfl (fun h1 => ?_) (fun h1 => ?_)
  · (try simp only [cx, ne_eq] at h1)
    try (exfalso; (first | omega | exact h1 trivial | contradiction | (first | omega | (simp at h1; done))); done)
    all_goals
    refine SatC.skip (SatE.thenC ?_)
    refine SatC.seq ?_
    refine SatC.block ?_
    refine SatC.seq ?_
    obtain ⟨x, hx⟩ := get_some gs k (by omega)
    have hxrd := hgrd x (List.mem_of_getElem? hx)
    have hx1 := rd_one hxrd
    obtain ⟨⟨xb, xo, xc, hxv⟩, hxr⟩ := id hxrd
    have hxm := List.mem_of_getElem? (rcrash_get hx (by omega) hgab)
    have hxl := mem_used hxm
    obtain ⟨hs0, hs1⟩ := ho.sync _ hxm
    dsimp only at hxl hs0 hs1
    have hq0 := Int.emod_nonneg (max keep 0) (show (x.b.length : Int) - x.s + 1 ≠ 0 by omega)
    have hq1 := Int.emod_lt_of_pos (max keep 0) (show 0 < (x.b.length : Int) - x.s + 1 by omega)
    refine SatC.region ?_
    refine SatL.pu (RunV.move rfl) rfl ?_
    first | refine SatL.pu (RunV.nil_ptr rfl) rfl ?_ | refine SatL.pu (RunV.nil_func rfl) rfl ?_ | refine SatL.pu (RunV.nil_yield rfl) rfl ?_
    first | refine SatL.pu (RunV.fieldAddrL rfl rfl rfl) rfl ?_ | refine SatL.pu (RunV.fieldAddr rfl rfl rfl) rfl ?_
    refine SatL.pu (RunV.load1 hS rfl rfl (by repeat constructor) rfl) rfl ?_
    refine SatL.pu (RunV.move rfl) rfl ?_
    first | refine SatL.pu (RunV.indexR (by assumption) rfl rfl rfl (by omega) (by omega) rfl) rfl ?_ | refine SatL.pu (RunV.indexS rfl rfl rfl (by omega) (by omega) rfl) rfl ?_
    refine SatL.pu (RunV.loadRNz (Sl.rd hgsl hS (by repeat constructor)) rfl rfl (map_get hx)) rfl ?_
    refine SatL.op rfl (OpW.alloc hS rfl rfl (by repeat constructor) ?_)
    clear hS
    intro b5 w2 _ hS
    refine SatL.op rfl (OpW.store hS rfl rfl (by repeat constructor) (by repeat constructor) (by repeat constructor) rfl (by simp only [List.all_cons, List.all_nil, hx1, Bool.and_true]; rfl) ?_)
    clear hS
    intro w3 hS
    refine SatL.nil (SatE.thenC ?_)
    refine SatC.seq ?_
    refine SatC.region ?_
    refine SatL.pu (RunV.assign rfl) rfl ?_
    refine SatL.nil (SatE.thenC ?_)
    refine SatC.merge (G := Int) (V := fun q => [(6, .int .i64 q)]) (Cn := [(0, _), (1, _), (4, _), (5, _)]) (I := fun q w' => q = max keep 0 % ((x.b.length : Int) - x.s + 1) ∧ St w X ((b5, C 47 (rr x)) :: RO b d fv GB D) w') (by repeat constructor) ?_ ?_
    · skip
      refine SatC.seq ?_
      refine SatC.region ?_
      refine SatL.pu (RunV.move rfl) rfl ?_
      refine SatL.pu (RunV.gtr rfl rfl) rfl ?_
      refine SatL.nil (SatE.thenC ?_)
      refine SatC.cond rfl (fun h2 => ?_) (fun h2 => ?_)
      · (try simp only [cx, ne_eq] at h2)
        try (exfalso; (first | omega | exact h2 trivial | contradiction | (first | omega | (simp at h2; done))); done)
        all_goals
        refine SatC.weak (e' := [(0, _), (1, _), (4, _), (5, _)]) (by repeat constructor) ?_
        refine SatC.region ?_
        refine SatL.pu (RunV.move rfl) rfl ?_
        first | refine SatL.pu (RunV.fieldAddrL rfl rfl rfl) rfl ?_ | refine SatL.pu (RunV.fieldAddr rfl rfl rfl) rfl ?_
        refine SatL.pu (RunV.load1 hS rfl rfl (by repeat constructor) rfl) rfl ?_
        first | refine SatL.pu (RunV.lenR (by assumption) rfl rfl) rfl ?_ | refine SatL.pu (RunV.lenS rfl rfl) rfl ?_
        first | refine SatL.pu (RunV.fieldAddrL rfl rfl rfl) rfl ?_ | refine SatL.pu (RunV.fieldAddr rfl rfl rfl) rfl ?_
        refine SatL.pu (RunV.load1 hS rfl rfl (by repeat constructor) rfl) rfl ?_
        refine SatL.pu (RunV.sub rfl rfl (by first | exact wrapI64 (by omega) | rfl)) rfl ?_
        refine SatL.pu (RunV.add rfl rfl (by first | exact wrapI64 (by omega) | rfl)) rfl ?_
        refine SatL.pu (RunV.remP rfl rfl (by omega) (by omega)) rfl ?_
        refine SatL.pu (RunV.assign rfl) rfl ?_
        refine SatL.nil ?_
        refine SatE.met (_) ?_ (by repeat constructor)
        exact ⟨by rw [show max keep 0 = keep from by omega], hS.sel (by repeat constructor)⟩
      · (try simp only [cx, ne_eq] at h2)
        try (exfalso; (first | omega | exact h2 trivial | contradiction | (first | omega | (simp at h2; done))); done)
        all_goals
        refine SatC.skip ?_
        refine SatE.met (_) ?_ (by repeat constructor)
        exact ⟨by rw [show max keep 0 = 0 from by omega, Int.zero_emod], hS.sel (by repeat constructor)⟩
    · clear hS
      rintro q w64 ⟨hq, hS⟩
      rw [← hq] at hq0 hq1
      refine SatC.weak (e' := [(0, _), (1, _), (4, _), (5, _), (6, _)]) (by repeat constructor) ?_
      refine SatC.drawnT 22 hS (hS) (by kernel_rfl) ?_
      clear hS
      intro w65 hh hS hD
      refine SatD.tk 0 rfl hD (fun _ hw => RunV.move rfl) ?_
      first | refine SatD.tk 1 rfl hD (fun _ hw => RunV.nil_ptr rfl) ?_ | refine SatD.tk 1 rfl hD (fun _ hw => RunV.nil_func rfl) ?_ | refine SatD.tk 1 rfl hD (fun _ hw => RunV.nil_yield rfl) ?_
      first | refine SatD.tk 2 rfl hD (fun _ hw => RunV.fieldAddrL rfl rfl rfl) ?_ | refine SatD.tk 2 rfl hD (fun _ hw => RunV.fieldAddr rfl rfl rfl) ?_
      refine SatD.tk 3 rfl hD (fun _ hw => RunV.load1 hw rfl rfl (by repeat constructor) rfl) ?_
      refine SatD.tk 4 rfl hD (fun _ hw => RunV.move rfl) ?_
      first | refine SatD.tk 5 rfl hD (fun _ hw => RunV.fieldAddrL rfl rfl rfl) ?_ | refine SatD.tk 5 rfl hD (fun _ hw => RunV.fieldAddr rfl rfl rfl) ?_
      refine SatD.tk 6 rfl hD (fun _ hw => RunV.load1 hw rfl rfl (by repeat constructor) rfl) ?_
      first | refine SatD.tk 7 rfl hD (fun _ hw => RunV.fieldAddrL rfl rfl rfl) ?_ | refine SatD.tk 7 rfl hD (fun _ hw => RunV.fieldAddr rfl rfl rfl) ?_
      refine SatD.tk 8 rfl hD (fun _ hw => RunV.load1 hw rfl rfl (by repeat constructor) rfl) ?_
      refine SatD.tk 9 rfl hD (fun _ hw => RunV.move rfl) ?_
      refine SatD.tk 10 rfl hD (fun _ hw => RunV.add rfl rfl (by first | exact wrapI64 (by omega) | rfl)) ?_
      first | refine SatD.tk 11 rfl hD (fun _ hw => RunV.fieldAddrL rfl rfl rfl) ?_ | refine SatD.tk 11 rfl hD (fun _ hw => RunV.fieldAddr rfl rfl rfl) ?_
      refine SatD.tk 12 rfl hD (fun _ hw => RunV.load1 hw rfl rfl (by repeat constructor) rfl) ?_
      refine SatD.tk 13 rfl hD (fun _ hw => RunV.move rfl) ?_
      refine SatD.tk 14 rfl hD (fun _ hw => RunV.add rfl rfl (by first | exact wrapI64 (by omega) | rfl)) ?_
      refine SatD.tk 15 rfl hD (fun _ hw => RunV.cutHMv hxv rfl rfl rfl rfl rfl (by omega) (by omega) (by omega)) ?_
      first | refine SatD.tk 16 rfl hD (fun _ hw => RunV.fieldAddrL rfl rfl rfl) ?_ | refine SatD.tk 16 rfl hD (fun _ hw => RunV.fieldAddr rfl rfl rfl) ?_
      refine SatD.tk 17 rfl hD (fun _ hw => RunV.load1 hw rfl rfl (by repeat constructor) rfl) ?_
      refine SatD.tk 18 rfl hD (fun _ hw => RunV.move rfl) ?_
      refine SatD.tk 19 rfl hD (fun _ hw => RunV.add rfl rfl (by first | exact wrapI64 (by omega) | rfl)) ?_
      refine SatD.tk 20 rfl hD (fun _ hw => RunV.build (v := .agg #[cutM x.v (x.s + q).toNat (x.s + q).toNat 1, .int .i64 (x.s + q)]) rfl (by obtain ⟨A1, e1, _⟩ := (SlV.cutM 1 hxv (h := (x.s + q).toNat) (by omega)).eq; rw [e1]; simp [go_sem]; try rfl)) ?_
      first | refine SatD.tk 21 rfl hD (fun _ hw => RunV.indexR (by assumption) rfl rfl rfl (by omega) (by omega) rfl) ?_ | refine SatD.tk 21 rfl hD (fun _ hw => RunV.indexS rfl rfl rfl (by omega) (by omega) rfl) ?_
      refine SatD.effF (by kernel_rfl) rfl rfl (OpW.storeSl (i := k) (r := rr ⟨cutM x.v (x.s + q).toNat (x.s + q).toNat 1, x.b.take (x.s + q).toNat, x.s + q⟩) hgsl hS (by repeat constructor) rfl rfl .agg rfl (by rw [List.length_map]; omega) rfl (by simp only [List.all_cons, List.all_nil, slv_one (SlV.cutM 1 hxv (h := (x.s + q).toNat) (by omega)), Bool.and_true]; rfl) ?_)
      clear hS
      intro G50 w66 hsl50 hS
      rw [rmap_set] at hsl50
      refine SatD.done 0 (by kernel_rfl) (SatE.blk_normal (SatE.thenC ?_))
      clear hD
      refine SatC.weak (e' := [(0, _), (1, _), (4, _)]) (by repeat constructor) ?_
      refine SatC.region ?_
      refine SatL.pu (RunV.move rfl) rfl ?_
      refine SatL.pu (RunV.add rfl rfl (by first | exact wrapI64 (by omega) | rfl)) rfl ?_
      refine SatL.pu (RunV.assign rfl) rfl ?_
      refine SatL.nil ?_
      refine SatE.again ((k + 1, gs.set k ⟨cutM x.v (x.s + q).toNat (x.s + q).toNat 1, x.b.take (x.s + q).toNat, x.s + q⟩, G50)) ?_ (by first | omega | (dsimp only; omega)) (by repeat constructor)
      exact ⟨by omega, by rw [List.length_set]; exact hg4, hsl50, rset_rd hgrd (hxrd.take (by omega)), rcrash_step hx (by omega) hgab (by unfold crashF; rw [hq]), hS.sel (by repeat constructor)⟩
  · (try simp only [cx, ne_eq] at h1)
    try (exfalso; (first | omega | exact h1 trivial | contradiction | (first | omega | (simp at h1; done))); done)
    all_goals
    refine SatC.exit (SatE.then_exit (SatE.then_exit (SatE.blk_exit (SatE.thenC ?_))))
    refine SatC.seq ?_
    have hk4 : k = 4 := by omega
    subst hk4
    rw [List.take_of_length_le (by omega), List.drop_of_length_le (by omega), List.append_nil] at hgab
    refine SatC.region ?_
    refine SatL.pu (RunV.move rfl) rfl ?_
    first | refine SatL.pu (RunV.nil_ptr rfl) rfl ?_ | refine SatL.pu (RunV.nil_func rfl) rfl ?_ | refine SatL.pu (RunV.nil_yield rfl) rfl ?_
    first | refine SatL.pu (RunV.fieldAddrL rfl rfl rfl) rfl ?_ | refine SatL.pu (RunV.fieldAddr rfl rfl rfl) rfl ?_
    refine SatL.op rfl (OpW.store hS rfl rfl (by repeat constructor) (by repeat constructor) (by repeat constructor) rfl rfl ?_)
    clear hS
    intro w2 hS
    refine SatL.nil (SatE.thenC ?_)
    refine SatC.region ?_
    refine SatL.pu (RunV.move rfl) rfl ?_
    first | refine SatL.pu (RunV.nil_ptr rfl) rfl ?_ | refine SatL.pu (RunV.nil_func rfl) rfl ?_ | refine SatL.pu (RunV.nil_yield rfl) rfl ?_
    first | refine SatL.pu (RunV.fieldAddrL rfl rfl rfl) rfl ?_ | refine SatL.pu (RunV.fieldAddr rfl rfl rfl) rfl ?_
    refine SatL.op rfl (OpW.store hS rfl rfl (by repeat constructor) (by repeat constructor) (by repeat constructor) rfl rfl ?_)
    clear hS
    intro w3 hS
    refine SatL.nil ?_
    refine SatE.fin0 rfl ?_
    exact ⟨gs, GB, D, fun c hc => hc, ⟨hgsl, hgrd, hgab⟩, hS.sel (by repeat constructor)⟩
end
end Go.Proofs.Ytahholhggohbnaa
