/- Spoil and Crash. -/
import Derived.Test.YtahholhggohbnaaDg
set_option linter.unusedSimpArgs false
set_option linter.unusedVariables false
set_option maxRecDepth 100000
set_option maxHeartbeats 4000000
namespace Go.Proofs.Ytahholhggohbnaa
open Go.RowKit
theorem spoil_yes {d : Dk} {n i : Int} {m : UInt8} (h : spoilOk d n i) : aSpoil d n i m = { d with fs := upd (fun f => (f.1.set i.toNat (f.1[i.toNat]?.getD 0 ^^^ m), f.2)) n.toNat d.fs } := by
  unfold aSpoil
  rw [if_pos h]
theorem spoil_no {d : Dk} {n i : Int} {m : UInt8} (h : ¬ spoilOk d n i) : aSpoil d n i m = d := by
  unfold aSpoil
  rw [if_neg h]
/-- The files as a crash goes over them. -/
theorem crash_step {fa : List Fa} {p s : List Fi} {x y : Fi} {k : Nat} {keep : Int} (hp : p.length = k) (hk : k < fa.length) (h : ab (p ++ x :: s) = (fa.take k).map (crashF keep) ++ fa.drop k) (hy : (y.b, y.s) = crashF keep (x.b, x.s)) :
    ab (p ++ y :: s) = (fa.take (k + 1)).map (crashF keep) ++ fa.drop (k + 1) := by
  have hd : fa.drop k = fa[k] :: fa.drop (k + 1) := List.drop_eq_getElem_cons hk
  have hlen : ((fa.take k).map (crashF keep)).length = (p.map fun x => (x.b, x.s)).length := by rw [List.length_map, List.length_map, List.length_take]; omega
  unfold ab at h ⊢
  rw [hd, List.map_append, List.map_cons] at h
  obtain ⟨e1, e2⟩ := List.append_inj h hlen.symm
  simp only [List.cons.injEq] at e2
  rw [List.map_append, List.map_cons, hy, e1, e2.1, e2.2, List.take_add_one, List.getElem?_eq_getElem hk]
  simp only [Option.toList_some, List.map_append, List.map_cons, List.map_nil, List.append_assoc, List.cons_append, List.nil_append]
theorem crash_at {fa : List Fa} {p s : List Fi} {x : Fi} {k : Nat} {keep : Int} (hp : p.length = k) (hk : k < fa.length) (h : ab (p ++ x :: s) = (fa.take k).map (crashF keep) ++ fa.drop k) : (x.b, x.s) ∈ fa := by
  have hd : fa.drop k = fa[k] :: fa.drop (k + 1) := List.drop_eq_getElem_cons hk
  have hlen : ((fa.take k).map (crashF keep)).length = (p.map fun x => (x.b, x.s)).length := by rw [List.length_map, List.length_map, List.length_take]; omega
  unfold ab at h
  rw [hd, List.map_append, List.map_cons] at h
  obtain ⟨e1, e2⟩ := List.append_inj h hlen.symm
  simp only [List.cons.injEq] at e2
  rw [e2.1]
  exact List.getElem_mem hk
theorem mem_used {f : Fa} {l : List Fa} (h : f ∈ l) : f.1.length ≤ usedA l := by
  induction l with
  | nil => cases h
  | cons x l ih =>
    simp only [usedA]
    rcases List.mem_cons.1 h with rfl | h
    · omega
    · have := ih h; omega
section
variable {b : Nat} {fs : List Fi} {w : World}
theorem spoil_any {d : Dk} (n i : Int) (m : UInt8) (ho : d.Ok) (hrep : Rep d fs) (hown : Own w (PO b d fs)) :
    Ret Try.prog 23 #[.pointer (some ⟨b, 0, none⟩), .int .i64 n, .int .i64 i, byt m] w fun u w' => u = .bool (decide (spoilOk d n i)) ∧ ∃ fs', Rep (aSpoil d n i m) fs' ∧ St w ((PO b d fs).map Prod.fst) (PO b (aSpoil d n i m) fs') w' := by
  have hS := St.init hown
  obtain ⟨room, fuse, down, fa⟩ := d
  have h4 := hrep.four ho
  obtain ⟨hsl, hab⟩ := hrep
  dsimp only at *
  simp only [PO, DO] at hS hown
  by_cases hn : 0 ≤ n ∧ n < 4
  · obtain ⟨p, x, s, hfs, hp⟩ := split_at (l := fs) (n := n.toNat) (by omega)
    subst hfs
    have hxsl := hsl x (by simp)
    obtain ⟨xc, hxv⟩ := hxsl.slv
    rw [List.length_map] at hxv
    have hlA := lenA_at (s := s) (x := x) hp
    rw [hab] at hlA
    generalize hX : (PO b ⟨room, fuse, down, fa⟩ (p ++ x :: s)).map Prod.fst = X
    rw [hX] at hS
    simp only [dbl, List.flatMap_append, List.flatMap_cons, List.append_assoc, List.cons_append, List.nil_append] at hS
    refine Ret.enter Try.func23 Try.ntmps23 rfl rfl ?_
    simp only [argEnv, Nat.reduceAdd]
    refine SatC.seq ?_
    refine SatC.region ?_
    refine SatL.pu (RunV.assign rfl) rfl ?_
    refine SatL.nil (SatE.thenC ?_)
    refine SatC.seq ?_
    refine SatC.seq ?_
    refine SatC.region ?_
    refine SatL.pu (RunV.move rfl) rfl ?_
    refine SatL.op rfl (OpW.enter rfl rfl rfl (rfl) (dnone_any (hS.ownT (A := [(b, C 53 (dcs room fuse down _))]) (by repeat constructor))) ?_)
    rintro r1 w1 ⟨rfl, h⟩
    replace hS := St.callN hS h
    refine SatL.pu (RunV.move rfl) rfl ?_
    refine SatL.guard rfl rfl rfl (fun h1 => ?_) (fun h1 => ?_)
    · (try simp only [cx, ne_eq] at h1)
      try (exfalso; (first | omega | exact h1 trivial | contradiction | (first | omega | (simp at h1; done))); done)
      all_goals
      refine SatL.pu (RunV.move rfl) rfl ?_
      refine SatL.guard_y rfl rfl ?_
      refine SatL.op rfl (OpW.enter rfl rfl rfl (rfl) (there_any n _) ?_)
      rintro r2 w2 ⟨rfl, h⟩
      replace hS := St.callN hS h
      refine SatL.guard_y rfl rfl ?_
      refine SatL.pu (RunV.not rfl) rfl ?_
      refine SatL.pu (RunV.pick_f rfl rfl) rfl ?_
      refine SatL.pu (RunV.move rfl) rfl ?_
      refine SatL.guard rfl rfl rfl (fun h2 => ?_) (fun h2 => ?_)
      · (try simp only [cx, ne_eq] at h2)
        try (exfalso; (first | omega | exact h2 trivial | contradiction | (first | omega | (simp at h2; done))); done)
        all_goals
        refine SatL.pu (RunV.move rfl) rfl ?_
        refine SatL.guard_y rfl rfl ?_
        refine SatL.pu (RunV.lss rfl rfl) rfl ?_
        refine SatL.pu (RunV.pick_f rfl rfl) rfl ?_
        refine SatL.pu (RunV.move rfl) rfl ?_
        refine SatL.guard rfl rfl rfl (fun h3 => ?_) (fun h3 => ?_)
        · (try simp only [cx, ne_eq] at h3)
          try (exfalso; (first | omega | exact h3 trivial | contradiction | (first | omega | (simp at h3; done))); done)
          all_goals
          refine SatL.pu (RunV.move rfl) rfl ?_
          refine SatL.guard_y rfl rfl ?_
          refine SatL.pu (RunV.move rfl) rfl ?_
          refine SatL.guard_y rfl rfl ?_
          refine SatL.pu (RunV.move rfl) rfl ?_
          refine SatL.guard_y rfl rfl ?_
          first | refine SatL.pu (RunV.nil_ptr rfl) rfl ?_ | refine SatL.pu (RunV.nil_func rfl) rfl ?_ | refine SatL.pu (RunV.nil_yield rfl) rfl ?_
          refine SatL.guard_y rfl rfl ?_
          first | refine SatL.pu (RunV.fieldAddrL rfl rfl rfl) rfl ?_ | refine SatL.pu (RunV.fieldAddr rfl rfl rfl) rfl ?_
          refine SatL.guard_y rfl rfl ?_
          refine SatL.pu (RunV.indexA rfl rfl rfl (by omega) (by omega) rfl) rfl ?_
          refine SatL.guard_y rfl rfl ?_
          first | refine SatL.pu (RunV.fieldAddrL rfl rfl rfl) rfl ?_ | refine SatL.pu (RunV.fieldAddr rfl rfl rfl) rfl ?_
          refine SatL.guard_y rfl rfl ?_
          refine SatL.pu (RunV.load1 hS rfl rfl (by repeat constructor) (dget (j := 0) (by omega) rfl)) rfl ?_
          refine SatL.guard_y rfl rfl ?_
          first | refine SatL.pu (RunV.lenR (by assumption) rfl rfl) rfl ?_ | refine SatL.pu (RunV.lenS rfl rfl) rfl ?_
          refine SatL.guard_y rfl rfl ?_
          refine SatL.pu (RunV.geq rfl rfl) rfl ?_
          refine SatL.pu (RunV.pick_f rfl rfl) rfl ?_
          refine SatL.nil (SatE.thenC ?_)
          refine SatC.weak (e' := [(0, _), (1, _), (2, _), (3, _), (8, _), (31, _)]) (by repeat constructor) ?_
          refine SatC.cond rfl (fun h4 => ?_) (fun h4 => ?_)
          · (try simp only [cx, ne_eq] at h4)
            try (exfalso; (first | omega | exact h4 trivial | contradiction | (first | omega | (simp at h4; done))); done)
            all_goals
            refine SatC.seq ?_
            refine SatC.region ?_
            refine SatL.pu (RunV.assign rfl) rfl ?_
            refine SatL.nil (SatE.thenC ?_)
            refine SatC.ret (SatE.then_ret ?_)
            refine SatE.ret1 rfl rfl ?_
            first
            | (have hno : ¬ spoilOk ⟨room, fuse, down, fa⟩ n i := by unfold spoilOk; rw [hlA]; omega
               rw [spoil_no hno, decide_eq_false hno]
               exact ⟨rfl, p ++ x :: s, ⟨hsl, hab⟩, by simp only [PO, DO, dbl, List.flatMap_append, List.flatMap_cons, List.append_assoc, List.cons_append, List.nil_append]; exact hS.sel (by repeat constructor)⟩)
            | (have hyes : spoilOk ⟨room, fuse, down, fa⟩ n i := by unfold spoilOk; rw [hlA]; omega
               rw [spoil_yes hyes, decide_eq_true hyes]
               refine ⟨rfl, p ++ ⟨x.v, x.b.set i.toNat (c ^^^ m), x.s, B44⟩ :: s, ⟨hsl.upd (by simpa only [List.map_set] using hsl44), by rw [← hab]; exact ab_upd hp (by simp only [hc, Option.getD_some])⟩, ?_⟩
               have e : dcs room fuse down (p ++ ⟨x.v, x.b.set i.toNat (c ^^^ m), x.s, B44⟩ :: s) = dcs room fuse down (p ++ x :: s) := by
                 unfold dcs; simp only [List.flatMap_append, List.flatMap_cons]
               simp only [PO, DO, e, dbl, List.flatMap_append, List.flatMap_cons, List.append_assoc, List.cons_append, List.nil_append]
               exact hS.sel (by repeat constructor))
          · (try simp only [cx, ne_eq] at h4)
            try (exfalso; (first | omega | exact h4 trivial | contradiction | (first | omega | (simp at h4; done))); done)
            all_goals
            refine SatC.skip (SatE.thenC ?_)
            refine SatC.seq ?_
            obtain ⟨c, hc⟩ := get_some x.b i.toNat (by omega)
            refine SatC.region ?_
            refine SatL.pu (RunV.move rfl) rfl ?_
            refine SatL.pu (RunV.move rfl) rfl ?_
            first | refine SatL.pu (RunV.nil_ptr rfl) rfl ?_ | refine SatL.pu (RunV.nil_func rfl) rfl ?_ | refine SatL.pu (RunV.nil_yield rfl) rfl ?_
            first | refine SatL.pu (RunV.fieldAddrL rfl rfl rfl) rfl ?_ | refine SatL.pu (RunV.fieldAddr rfl rfl rfl) rfl ?_
            refine SatL.pu (RunV.indexA rfl rfl rfl (by omega) (by omega) rfl) rfl ?_
            first | refine SatL.pu (RunV.fieldAddrL rfl rfl rfl) rfl ?_ | refine SatL.pu (RunV.fieldAddr rfl rfl rfl) rfl ?_
            refine SatL.pu (RunV.load1 hS rfl rfl (by repeat constructor) (dget (j := 0) (by omega) rfl)) rfl ?_
            refine SatL.pu (RunV.move rfl) rfl ?_
            first | refine SatL.pu (RunV.indexR (by assumption) rfl rfl rfl (by omega) (by omega) rfl) rfl ?_ | refine SatL.pu (RunV.indexS rfl rfl rfl (by omega) (by omega) rfl) rfl ?_
            refine SatL.pu (RunV.loadR1z (Sl.rd hxsl hS (by repeat constructor)) rfl rfl (map_get hc) rfl) rfl ?_
            refine SatL.pu (RunV.move rfl) rfl ?_
            refine SatL.pu (RunV.xor8 (c := c.toBitVec) (d := m.toBitVec) rfl rfl) rfl ?_
            first | refine SatL.pu (RunV.indexR (by assumption) rfl rfl rfl (by omega) (by omega) rfl) rfl ?_ | refine SatL.pu (RunV.indexS rfl rfl rfl (by omega) (by omega) rfl) rfl ?_
            refine SatL.op rfl (OpW.storeSl (r := by1c (c ^^^ m)) hxsl hS (by repeat constructor) rfl rfl (IsCells.one rfl) rfl (by rw [List.length_map]; omega) rfl rfl ?_)
            clear hS
            intro B44 w3 hsl44 hS
            refine SatL.nil (SatE.thenC ?_)
            refine SatC.seq ?_
            refine SatC.weak (e' := [(8, _)]) (by repeat constructor) ?_
            refine SatC.region ?_
            refine SatL.pu (RunV.assign rfl) rfl ?_
            refine SatL.nil (SatE.thenC ?_)
            refine SatC.ret ?_
            refine SatE.ret1 rfl rfl ?_
            first
            | (have hno : ¬ spoilOk ⟨room, fuse, down, fa⟩ n i := by unfold spoilOk; rw [hlA]; omega
               rw [spoil_no hno, decide_eq_false hno]
               exact ⟨rfl, p ++ x :: s, ⟨hsl, hab⟩, by simp only [PO, DO, dbl, List.flatMap_append, List.flatMap_cons, List.append_assoc, List.cons_append, List.nil_append]; exact hS.sel (by repeat constructor)⟩)
            | (have hyes : spoilOk ⟨room, fuse, down, fa⟩ n i := by unfold spoilOk; rw [hlA]; omega
               rw [spoil_yes hyes, decide_eq_true hyes]
               refine ⟨rfl, p ++ ⟨x.v, x.b.set i.toNat (c ^^^ m), x.s, B44⟩ :: s, ⟨hsl.upd (by simpa only [List.map_set] using hsl44), by rw [← hab]; exact ab_upd hp (by simp only [hc, Option.getD_some])⟩, ?_⟩
               have e : dcs room fuse down (p ++ ⟨x.v, x.b.set i.toNat (c ^^^ m), x.s, B44⟩ :: s) = dcs room fuse down (p ++ x :: s) := by
                 unfold dcs; simp only [List.flatMap_append, List.flatMap_cons]
               simp only [PO, DO, e, dbl, List.flatMap_append, List.flatMap_cons, List.append_assoc, List.cons_append, List.nil_append]
               exact hS.sel (by repeat constructor))
        · (try simp only [cx, ne_eq] at h3)
          try (exfalso; (first | omega | exact h3 trivial | contradiction | (first | omega | (simp at h3; done))); done)
          all_goals
          refine SatL.guard_n rfl rfl rfl rfl ?_
          refine SatL.guard_n rfl rfl rfl rfl ?_
          refine SatL.guard_n rfl rfl rfl rfl ?_
          refine SatL.guard_n rfl rfl rfl rfl ?_
          refine SatL.guard_n rfl rfl rfl rfl ?_
          refine SatL.guard_n rfl rfl rfl rfl ?_
          refine SatL.guard_n rfl rfl rfl rfl ?_
          refine SatL.guard_n rfl rfl rfl rfl ?_
          refine SatL.guard_n rfl rfl rfl rfl ?_
          refine SatL.pu (RunV.pick_t rfl rfl) rfl ?_
          refine SatL.nil (SatE.thenC ?_)
          refine SatC.weak (e' := [(0, _), (1, _), (2, _), (3, _), (8, _), (31, _)]) (by repeat constructor) ?_
          refine SatC.cond_t rfl ?_
          refine SatC.seq ?_
          refine SatC.region ?_
          refine SatL.pu (RunV.assign rfl) rfl ?_
          refine SatL.nil (SatE.thenC ?_)
          refine SatC.ret (SatE.then_ret ?_)
          refine SatE.ret1 rfl rfl ?_
          first
          | (have hno : ¬ spoilOk ⟨room, fuse, down, fa⟩ n i := by unfold spoilOk; rw [hlA]; omega
             rw [spoil_no hno, decide_eq_false hno]
             exact ⟨rfl, p ++ x :: s, ⟨hsl, hab⟩, by simp only [PO, DO, dbl, List.flatMap_append, List.flatMap_cons, List.append_assoc, List.cons_append, List.nil_append]; exact hS.sel (by repeat constructor)⟩)
          | (have hyes : spoilOk ⟨room, fuse, down, fa⟩ n i := by unfold spoilOk; rw [hlA]; omega
             rw [spoil_yes hyes, decide_eq_true hyes]
             refine ⟨rfl, p ++ ⟨x.v, x.b.set i.toNat (c ^^^ m), x.s, B44⟩ :: s, ⟨hsl.upd (by simpa only [List.map_set] using hsl44), by rw [← hab]; exact ab_upd hp (by simp only [hc, Option.getD_some])⟩, ?_⟩
             have e : dcs room fuse down (p ++ ⟨x.v, x.b.set i.toNat (c ^^^ m), x.s, B44⟩ :: s) = dcs room fuse down (p ++ x :: s) := by
               unfold dcs; simp only [List.flatMap_append, List.flatMap_cons]
             simp only [PO, DO, e, dbl, List.flatMap_append, List.flatMap_cons, List.append_assoc, List.cons_append, List.nil_append]
             exact hS.sel (by repeat constructor))
      · (try simp only [cx, ne_eq] at h2)
        try (exfalso; (first | omega | exact h2 trivial | contradiction | (first | omega | (simp at h2; done))); done)
        all_goals
        refine SatL.guard_n rfl rfl rfl rfl ?_
        refine SatL.pu (RunV.pick_t rfl rfl) rfl ?_
        refine SatL.pu (RunV.move rfl) rfl ?_
        refine SatL.guard_n rfl rfl rfl rfl ?_
        refine SatL.guard_n rfl rfl rfl rfl ?_
        refine SatL.guard_n rfl rfl rfl rfl ?_
        refine SatL.guard_n rfl rfl rfl rfl ?_
        refine SatL.guard_n rfl rfl rfl rfl ?_
        refine SatL.guard_n rfl rfl rfl rfl ?_
        refine SatL.guard_n rfl rfl rfl rfl ?_
        refine SatL.guard_n rfl rfl rfl rfl ?_
        refine SatL.guard_n rfl rfl rfl rfl ?_
        refine SatL.guard_n rfl rfl rfl rfl ?_
        refine SatL.pu (RunV.pick_t rfl rfl) rfl ?_
        refine SatL.nil (SatE.thenC ?_)
        refine SatC.weak (e' := [(0, _), (1, _), (2, _), (3, _), (8, _), (31, _)]) (by repeat constructor) ?_
        refine SatC.cond_t rfl ?_
        refine SatC.seq ?_
        refine SatC.region ?_
        refine SatL.pu (RunV.assign rfl) rfl ?_
        refine SatL.nil (SatE.thenC ?_)
        refine SatC.ret (SatE.then_ret ?_)
        refine SatE.ret1 rfl rfl ?_
        first
        | (have hno : ¬ spoilOk ⟨room, fuse, down, fa⟩ n i := by unfold spoilOk; rw [hlA]; omega
           rw [spoil_no hno, decide_eq_false hno]
           exact ⟨rfl, p ++ x :: s, ⟨hsl, hab⟩, by simp only [PO, DO, dbl, List.flatMap_append, List.flatMap_cons, List.append_assoc, List.cons_append, List.nil_append]; exact hS.sel (by repeat constructor)⟩)
        | (have hyes : spoilOk ⟨room, fuse, down, fa⟩ n i := by unfold spoilOk; rw [hlA]; omega
           rw [spoil_yes hyes, decide_eq_true hyes]
           refine ⟨rfl, p ++ ⟨x.v, x.b.set i.toNat (c ^^^ m), x.s, B44⟩ :: s, ⟨hsl.upd (by simpa only [List.map_set] using hsl44), by rw [← hab]; exact ab_upd hp (by simp only [hc, Option.getD_some])⟩, ?_⟩
           have e : dcs room fuse down (p ++ ⟨x.v, x.b.set i.toNat (c ^^^ m), x.s, B44⟩ :: s) = dcs room fuse down (p ++ x :: s) := by
             unfold dcs; simp only [List.flatMap_append, List.flatMap_cons]
           simp only [PO, DO, e, dbl, List.flatMap_append, List.flatMap_cons, List.append_assoc, List.cons_append, List.nil_append]
           exact hS.sel (by repeat constructor))
    · (try simp only [cx, ne_eq] at h1)
      try (exfalso; (first | omega | exact h1 trivial | contradiction | (first | omega | (simp at h1; done))); done)
      all_goals
      refine SatL.guard_n rfl rfl rfl rfl ?_
      refine SatL.guard_n rfl rfl rfl rfl ?_
      refine SatL.pu (RunV.pick_t rfl rfl) rfl ?_
      refine SatL.pu (RunV.move rfl) rfl ?_
      refine SatL.guard_n rfl rfl rfl rfl ?_
      refine SatL.guard_n rfl rfl rfl rfl ?_
      refine SatL.pu (RunV.pick_t rfl rfl) rfl ?_
      refine SatL.pu (RunV.move rfl) rfl ?_
      refine SatL.guard_n rfl rfl rfl rfl ?_
      refine SatL.guard_n rfl rfl rfl rfl ?_
      refine SatL.guard_n rfl rfl rfl rfl ?_
      refine SatL.guard_n rfl rfl rfl rfl ?_
      refine SatL.guard_n rfl rfl rfl rfl ?_
      refine SatL.guard_n rfl rfl rfl rfl ?_
      refine SatL.guard_n rfl rfl rfl rfl ?_
      refine SatL.guard_n rfl rfl rfl rfl ?_
      refine SatL.guard_n rfl rfl rfl rfl ?_
      refine SatL.guard_n rfl rfl rfl rfl ?_
      refine SatL.pu (RunV.pick_t rfl rfl) rfl ?_
      refine SatL.nil (SatE.thenC ?_)
      refine SatC.weak (e' := [(0, _), (1, _), (2, _), (3, _), (8, _), (31, _)]) (by repeat constructor) ?_
      refine SatC.cond_t rfl ?_
      refine SatC.seq ?_
      refine SatC.region ?_
      refine SatL.pu (RunV.assign rfl) rfl ?_
      refine SatL.nil (SatE.thenC ?_)
      refine SatC.ret (SatE.then_ret ?_)
      refine SatE.ret1 rfl rfl ?_
      first
      | (have hno : ¬ spoilOk ⟨room, fuse, down, fa⟩ n i := by unfold spoilOk; rw [hlA]; omega
         rw [spoil_no hno, decide_eq_false hno]
         exact ⟨rfl, p ++ x :: s, ⟨hsl, hab⟩, by simp only [PO, DO, dbl, List.flatMap_append, List.flatMap_cons, List.append_assoc, List.cons_append, List.nil_append]; exact hS.sel (by repeat constructor)⟩)
      | (have hyes : spoilOk ⟨room, fuse, down, fa⟩ n i := by unfold spoilOk; rw [hlA]; omega
         rw [spoil_yes hyes, decide_eq_true hyes]
         refine ⟨rfl, p ++ ⟨x.v, x.b.set i.toNat (c ^^^ m), x.s, B44⟩ :: s, ⟨hsl.upd (by simpa only [List.map_set] using hsl44), by rw [← hab]; exact ab_upd hp (by simp only [hc, Option.getD_some])⟩, ?_⟩
         have e : dcs room fuse down (p ++ ⟨x.v, x.b.set i.toNat (c ^^^ m), x.s, B44⟩ :: s) = dcs room fuse down (p ++ x :: s) := by
           unfold dcs; simp only [List.flatMap_append, List.flatMap_cons]
         simp only [PO, DO, e, dbl, List.flatMap_append, List.flatMap_cons, List.append_assoc, List.cons_append, List.nil_append]
         exact hS.sel (by repeat constructor))
  · have hno : ¬ spoilOk ⟨room, fuse, down, fa⟩ n i := fun h => hn h.1
    rw [spoil_no hno, decide_eq_false hno]
    generalize hX : (PO b ⟨room, fuse, down, fa⟩ fs).map Prod.fst = X
    rw [hX] at hS
    refine Ret.enter Try.func23 Try.ntmps23 rfl rfl ?_
    simp only [argEnv, Nat.reduceAdd]
    refine SatC.seq ?_
    refine SatC.region ?_
    refine SatL.pu (RunV.assign rfl) rfl ?_
    refine SatL.nil (SatE.thenC ?_)
    refine SatC.seq ?_
    refine SatC.seq ?_
    refine SatC.region ?_
    refine SatL.pu (RunV.move rfl) rfl ?_
    refine SatL.op rfl (OpW.enter rfl rfl rfl (rfl) (dnone_any (hS.ownT (A := [(b, C 53 (dcs room fuse down _))]) (by repeat constructor))) ?_)
    rintro r1 w1 ⟨rfl, h⟩
    replace hS := St.callN hS h
    refine SatL.pu (RunV.move rfl) rfl ?_
    refine SatL.guard rfl rfl rfl (fun h1 => ?_) (fun h1 => ?_)
    · (try simp only [cx, ne_eq] at h1)
      try (exfalso; (first | omega | exact h1 trivial | contradiction | (first | omega | (simp at h1; done))); done)
      all_goals
      refine SatL.pu (RunV.move rfl) rfl ?_
      refine SatL.guard_y rfl rfl ?_
      refine SatL.op rfl (OpW.enter rfl rfl rfl (rfl) (there_any n _) ?_)
      rintro r2 w2 ⟨rfl, h⟩
      replace hS := St.callN hS h
      refine SatL.guard_y rfl rfl ?_
      refine SatL.pu (RunV.not rfl) rfl ?_
      refine SatL.pu (RunV.pick_f rfl rfl) rfl ?_
      refine SatL.pu (RunV.move rfl) rfl ?_
      refine SatL.guard rfl rfl rfl (fun h2 => ?_) (fun h2 => ?_)
      · (try simp only [cx, ne_eq] at h2)
        try (exfalso; (first | omega | exact h2 trivial | contradiction | (first | omega | (simp at h2; done))); done)
        all_goals
        refine SatL.pu (RunV.move rfl) rfl ?_
        refine SatL.guard_y rfl rfl ?_
        refine SatL.pu (RunV.lss rfl rfl) rfl ?_
        refine SatL.pu (RunV.pick_f rfl rfl) rfl ?_
        refine SatL.pu (RunV.move rfl) rfl ?_
        refine SatL.guard rfl rfl rfl (fun h3 => ?_) (fun h3 => ?_)
        · (try simp only [cx, ne_eq] at h3)
          try (exfalso; (first | omega | exact h3 trivial | contradiction | (first | omega | (simp at h3; done))); done)
          all_goals
          refine SatL.pu (RunV.move rfl) rfl ?_
          refine SatL.guard_y rfl rfl ?_
          refine SatL.pu (RunV.move rfl) rfl ?_
          refine SatL.guard_y rfl rfl ?_
          refine SatL.pu (RunV.move rfl) rfl ?_
          refine SatL.guard_y rfl rfl ?_
          first | refine SatL.pu (RunV.nil_ptr rfl) rfl ?_ | refine SatL.pu (RunV.nil_func rfl) rfl ?_ | refine SatL.pu (RunV.nil_yield rfl) rfl ?_
          refine SatL.guard_y rfl rfl ?_
          first | refine SatL.pu (RunV.fieldAddrL rfl rfl rfl) rfl ?_ | refine SatL.pu (RunV.fieldAddr rfl rfl rfl) rfl ?_
          refine SatL.guard_y rfl rfl ?_
          refine SatL.pu (RunV.indexA rfl rfl rfl (by omega) (by omega) rfl) rfl ?_
          refine SatL.guard_y rfl rfl ?_
          first | refine SatL.pu (RunV.fieldAddrL rfl rfl rfl) rfl ?_ | refine SatL.pu (RunV.fieldAddr rfl rfl rfl) rfl ?_
          refine SatL.guard_y rfl rfl ?_
          refine SatL.pu (RunV.load1 hS rfl rfl (by repeat constructor) rfl) rfl ?_
          refine SatL.guard_y rfl rfl ?_
          first | refine SatL.pu (RunV.lenR (by assumption) rfl rfl) rfl ?_ | refine SatL.pu (RunV.lenS rfl rfl) rfl ?_
          refine SatL.guard_y rfl rfl ?_
          refine SatL.pu (RunV.geq rfl rfl) rfl ?_
          refine SatL.pu (RunV.pick_f rfl rfl) rfl ?_
          refine SatL.nil (SatE.thenC ?_)
          refine SatC.weak (e' := [(0, _), (1, _), (2, _), (3, _), (8, _), (31, _)]) (by repeat constructor) ?_
          refine SatC.cond rfl (fun h4 => ?_) (fun h4 => ?_)
          · (try simp only [cx, ne_eq] at h4)
            try (exfalso; (first | omega | exact h4 trivial | contradiction | (first | omega | (simp at h4; done))); done)
            all_goals
            refine SatC.seq ?_
            refine SatC.region ?_
            refine SatL.pu (RunV.assign rfl) rfl ?_
            refine SatL.nil (SatE.thenC ?_)
            refine SatC.ret (SatE.then_ret ?_)
            refine SatE.ret1 rfl rfl ?_
            exact ⟨rfl, fs, ⟨hsl, hab⟩, hS.sel (by repeat constructor)⟩
          · (try simp only [cx, ne_eq] at h4)
            try (exfalso; (first | omega | exact h4 trivial | contradiction | (first | omega | (simp at h4; done))); done)
            all_goals
            refine SatC.skip (SatE.thenC ?_)
            refine SatC.seq ?_
            refine SatC.region ?_
            refine SatL.pu (RunV.move rfl) rfl ?_
            refine SatL.pu (RunV.move rfl) rfl ?_
            first | refine SatL.pu (RunV.nil_ptr rfl) rfl ?_ | refine SatL.pu (RunV.nil_func rfl) rfl ?_ | refine SatL.pu (RunV.nil_yield rfl) rfl ?_
            first | refine SatL.pu (RunV.fieldAddrL rfl rfl rfl) rfl ?_ | refine SatL.pu (RunV.fieldAddr rfl rfl rfl) rfl ?_
            refine SatL.pu (RunV.indexA rfl rfl rfl (by omega) (by omega) rfl) rfl ?_
            first | refine SatL.pu (RunV.fieldAddrL rfl rfl rfl) rfl ?_ | refine SatL.pu (RunV.fieldAddr rfl rfl rfl) rfl ?_
            refine SatL.pu (RunV.load1 hS rfl rfl (by repeat constructor) rfl) rfl ?_
            refine SatL.pu (RunV.move rfl) rfl ?_
            first | refine SatL.pu (RunV.indexR (by assumption) rfl rfl rfl (by omega) (by omega) rfl) rfl ?_ | refine SatL.pu (RunV.indexS rfl rfl rfl (by omega) (by omega) rfl) rfl ?_
            first | refine SatL.pu (RunV.loadR1z (RdC.st (by assumption) hS List.not_mem_nil) rfl rfl (by first | assumption | exact map_get (by assumption)) rfl) rfl ?_ | refine SatL.pu (RunV.loadR1z (Sl.rd (by assumption) hS (by repeat constructor)) rfl rfl (by first | assumption | exact map_get (by assumption)) rfl) rfl ?_
            refine SatL.pu (RunV.move rfl) rfl ?_
            refine SatL.pu (RunV.xor rfl rfl rfl) rfl ?_
            first | refine SatL.pu (RunV.indexR (by assumption) rfl rfl rfl (by omega) (by omega) rfl) rfl ?_ | refine SatL.pu (RunV.indexS rfl rfl rfl (by omega) (by omega) rfl) rfl ?_
            refine SatL.op rfl (OpW.store hS rfl rfl (by repeat constructor) (by repeat constructor) (by repeat constructor) rfl rfl ?_)
            clear hS
            intro w3 hS
            refine SatL.nil (SatE.thenC ?_)
            refine SatC.seq ?_
            refine SatC.weak (e' := [(8, _)]) (by repeat constructor) ?_
            refine SatC.region ?_
            refine SatL.pu (RunV.assign rfl) rfl ?_
            refine SatL.nil (SatE.thenC ?_)
            refine SatC.ret ?_
            refine SatE.ret1 rfl rfl ?_
            exact ⟨rfl, fs, ⟨hsl, hab⟩, hS.sel (by repeat constructor)⟩
        · (try simp only [cx, ne_eq] at h3)
          try (exfalso; (first | omega | exact h3 trivial | contradiction | (first | omega | (simp at h3; done))); done)
          all_goals
          refine SatL.guard_n rfl rfl rfl rfl ?_
          refine SatL.guard_n rfl rfl rfl rfl ?_
          refine SatL.guard_n rfl rfl rfl rfl ?_
          refine SatL.guard_n rfl rfl rfl rfl ?_
          refine SatL.guard_n rfl rfl rfl rfl ?_
          refine SatL.guard_n rfl rfl rfl rfl ?_
          refine SatL.guard_n rfl rfl rfl rfl ?_
          refine SatL.guard_n rfl rfl rfl rfl ?_
          refine SatL.guard_n rfl rfl rfl rfl ?_
          refine SatL.pu (RunV.pick_t rfl rfl) rfl ?_
          refine SatL.nil (SatE.thenC ?_)
          refine SatC.weak (e' := [(0, _), (1, _), (2, _), (3, _), (8, _), (31, _)]) (by repeat constructor) ?_
          refine SatC.cond_t rfl ?_
          refine SatC.seq ?_
          refine SatC.region ?_
          refine SatL.pu (RunV.assign rfl) rfl ?_
          refine SatL.nil (SatE.thenC ?_)
          refine SatC.ret (SatE.then_ret ?_)
          refine SatE.ret1 rfl rfl ?_
          exact ⟨rfl, fs, ⟨hsl, hab⟩, hS.sel (by repeat constructor)⟩
      · (try simp only [cx, ne_eq] at h2)
        try (exfalso; (first | omega | exact h2 trivial | contradiction | (first | omega | (simp at h2; done))); done)
        all_goals
        refine SatL.guard_n rfl rfl rfl rfl ?_
        refine SatL.pu (RunV.pick_t rfl rfl) rfl ?_
        refine SatL.pu (RunV.move rfl) rfl ?_
        refine SatL.guard_n rfl rfl rfl rfl ?_
        refine SatL.guard_n rfl rfl rfl rfl ?_
        refine SatL.guard_n rfl rfl rfl rfl ?_
        refine SatL.guard_n rfl rfl rfl rfl ?_
        refine SatL.guard_n rfl rfl rfl rfl ?_
        refine SatL.guard_n rfl rfl rfl rfl ?_
        refine SatL.guard_n rfl rfl rfl rfl ?_
        refine SatL.guard_n rfl rfl rfl rfl ?_
        refine SatL.guard_n rfl rfl rfl rfl ?_
        refine SatL.guard_n rfl rfl rfl rfl ?_
        refine SatL.pu (RunV.pick_t rfl rfl) rfl ?_
        refine SatL.nil (SatE.thenC ?_)
        refine SatC.weak (e' := [(0, _), (1, _), (2, _), (3, _), (8, _), (31, _)]) (by repeat constructor) ?_
        refine SatC.cond_t rfl ?_
        refine SatC.seq ?_
        refine SatC.region ?_
        refine SatL.pu (RunV.assign rfl) rfl ?_
        refine SatL.nil (SatE.thenC ?_)
        refine SatC.ret (SatE.then_ret ?_)
        refine SatE.ret1 rfl rfl ?_
        exact ⟨rfl, fs, ⟨hsl, hab⟩, hS.sel (by repeat constructor)⟩
    · (try simp only [cx, ne_eq] at h1)
      try (exfalso; (first | omega | exact h1 trivial | contradiction | (first | omega | (simp at h1; done))); done)
      all_goals
      refine SatL.guard_n rfl rfl rfl rfl ?_
      refine SatL.guard_n rfl rfl rfl rfl ?_
      refine SatL.pu (RunV.pick_t rfl rfl) rfl ?_
      refine SatL.pu (RunV.move rfl) rfl ?_
      refine SatL.guard_n rfl rfl rfl rfl ?_
      refine SatL.guard_n rfl rfl rfl rfl ?_
      refine SatL.pu (RunV.pick_t rfl rfl) rfl ?_
      refine SatL.pu (RunV.move rfl) rfl ?_
      refine SatL.guard_n rfl rfl rfl rfl ?_
      refine SatL.guard_n rfl rfl rfl rfl ?_
      refine SatL.guard_n rfl rfl rfl rfl ?_
      refine SatL.guard_n rfl rfl rfl rfl ?_
      refine SatL.guard_n rfl rfl rfl rfl ?_
      refine SatL.guard_n rfl rfl rfl rfl ?_
      refine SatL.guard_n rfl rfl rfl rfl ?_
      refine SatL.guard_n rfl rfl rfl rfl ?_
      refine SatL.guard_n rfl rfl rfl rfl ?_
      refine SatL.guard_n rfl rfl rfl rfl ?_
      refine SatL.pu (RunV.pick_t rfl rfl) rfl ?_
      refine SatL.nil (SatE.thenC ?_)
      refine SatC.weak (e' := [(0, _), (1, _), (2, _), (3, _), (8, _), (31, _)]) (by repeat constructor) ?_
      refine SatC.cond_t rfl ?_
      refine SatC.seq ?_
      refine SatC.region ?_
      refine SatL.pu (RunV.assign rfl) rfl ?_
      refine SatL.nil (SatE.thenC ?_)
      refine SatC.ret (SatE.then_ret ?_)
      refine SatE.ret1 rfl rfl ?_
      exact ⟨rfl, fs, ⟨hsl, hab⟩, hS.sel (by repeat constructor)⟩
theorem crash_any {d : Dk} (keep : Int) (ho : d.Ok) (hrep : Rep d fs) (hown : Own w (PO b d fs)) :
    Ret Try.prog 15 #[.pointer (some ⟨b, 0, none⟩), .int .i64 keep] w fun u w' => ∃ fs', Rep (aCrash d keep) fs' ∧ St w ((PO b d fs).map Prod.fst) (PO b (aCrash d keep) fs') w' := by
  have hS := St.init hown
  obtain ⟨room, fuse, down, fa⟩ := d
  have h4 := hrep.four ho
  obtain ⟨hfa, hsy, hfu, hroom, hused⟩ := ho
  obtain ⟨hsl, hab⟩ := hrep
  dsimp only at *
  generalize hX : (PO b ⟨room, fuse, down, fa⟩ fs).map Prod.fst = X at hS ⊢
  simp only [PO, DO] at hS hown
  refine Ret.enter Try.func15 Try.ntmps15 rfl rfl ?_
  simp only [argEnv, Nat.reduceAdd]
  refine SatC.seq ?_
  refine SatC.seq ?_
  refine SatC.region ?_
  refine SatL.pu (RunV.move rfl) rfl ?_
  refine SatL.op rfl (OpW.enter rfl rfl rfl (rfl) (dnone_any (hS.ownT (A := [(b, C 53 (dcs room fuse down _))]) (by repeat constructor))) ?_)
  rintro r1 w1 ⟨rfl, h⟩
  replace hS := St.callN hS h
  refine SatL.nil (SatE.thenC ?_)
  refine SatC.cond rfl (fun h1 => ?_) (fun h1 => ?_)
  · (try simp only [cx, ne_eq] at h1)
    try (exfalso; (first | omega | exact h1 trivial | contradiction | (first | omega | (simp at h1; done))); done)
    all_goals
    refine SatC.ret (SatE.then_ret ?_)
    refine SatE.ret0 rfl ?_
    exact ⟨gs, ⟨hgsl, hgab⟩, hS⟩
  · (try simp only [cx, ne_eq] at h1)
    try (exfalso; (first | omega | exact h1 trivial | contradiction | (first | omega | (simp at h1; done))); done)
    all_goals
    refine SatC.skip (SatE.thenC ?_)
    refine SatC.seq ?_
    refine SatC.seq ?_
    refine SatC.region ?_
    refine SatL.pu (RunV.move rfl) rfl ?_
    refine SatL.nil (SatE.thenC ?_)
    refine SatC.block ?_
    refine SatC.loopK (G := Nat × List Fi) (V := fun ⟨k, gs⟩ => [(10, .int .i64 (k : Int))]) (Cn := [(0, _), (1, _)]) (I := fun ⟨k, gs⟩ w' => k ≤ 4 ∧ gs.length = 4 ∧ SlF gs ∧ ab gs = (fa.take k).map (crashF keep) ++ fa.drop k ∧ St w X ((b, C 53 (dcs room fuse down gs)) :: dbl gs) w') (μ := fun ⟨k, gs⟩ => 4 - k) (0, fs) ?_ (by repeat constructor) ?_
    · exact ⟨Nat.zero_le _, h4, hsl, hab, hS⟩
    clear hS
    rintro ⟨k, gs⟩ w2 ⟨hk, hg4, hgsl, hgab, hS⟩
    refine SatC.weak (e' := [(0, _), (1, _), (10, _)]) (by repeat constructor) ?_
    refine SatC.seq ?_
    refine SatC.region ?_
    refine SatL.pu (RunV.lss rfl rfl) rfl ?_
    refine SatL.nil (SatE.thenC ?_)
    refine SatC.seq ?_
    refine SatC.cond rfl (fun h2 => ?_) (fun h2 => ?_)
    · (try simp only [cx, ne_eq] at h2)
      try (exfalso; (first | omega | exact h2 trivial | contradiction | (first | omega | (simp at h2; done))); done)
      all_goals
      refine SatC.skip (SatE.thenC ?_)
      refine SatC.seq ?_
      refine SatC.block ?_
      refine SatC.seq ?_
      obtain ⟨p, x, s, hfs, hp⟩ := split_at (l := gs) (n := k) (by omega)
      subst hfs
      have hxsl := hgsl x (by simp)
      have hxm := crash_at hp (by omega) hgab
      have hxl := mem_used hxm
      obtain ⟨hs0, hs1⟩ := hsy _ hxm
      dsimp only at hxl hs0 hs1
      obtain ⟨xc, hxv⟩ := hxsl.slv
      rw [List.length_map] at hxv
      have hq0 := Int.emod_nonneg (max keep 0) (show (x.b.length : Int) - x.s + 1 ≠ 0 by omega)
      have hq1 := Int.emod_lt_of_pos (max keep 0) (show 0 < (x.b.length : Int) - x.s + 1 by omega)
      simp only [dbl, List.flatMap_append, List.flatMap_cons, List.append_assoc, List.cons_append, List.nil_append] at hS
      refine SatC.region ?_
      refine SatL.pu (RunV.move rfl) rfl ?_
      refine SatL.pu (RunV.assign rfl) rfl ?_
      refine SatL.nil (SatE.thenC ?_)
      refine SatC.seq ?_
      refine SatC.region ?_
      refine SatL.pu (RunV.move rfl) rfl ?_
      refine SatL.pu (RunV.move rfl) rfl ?_
      first | refine SatL.pu (RunV.nil_ptr rfl) rfl ?_ | refine SatL.pu (RunV.nil_func rfl) rfl ?_ | refine SatL.pu (RunV.nil_yield rfl) rfl ?_
      first | refine SatL.pu (RunV.fieldAddrL rfl rfl rfl) rfl ?_ | refine SatL.pu (RunV.fieldAddr rfl rfl rfl) rfl ?_
      refine SatL.pu (RunV.indexA rfl rfl rfl (by omega) (by omega) rfl) rfl ?_
      refine SatL.pu (RunV.assign rfl) rfl ?_
      refine SatL.nil (SatE.thenC ?_)
      refine SatC.seq ?_
      refine SatC.drawnT 11 hS (hS) (by kernel_rfl) ?_
      clear hS
      intro w3 hh hS hD
      refine SatD.tk 0 rfl hD (fun _ hw => RunV.move rfl) ?_
      first | refine SatD.tk 1 rfl hD (fun _ hw => RunV.nil_ptr rfl) ?_ | refine SatD.tk 1 rfl hD (fun _ hw => RunV.nil_func rfl) ?_ | refine SatD.tk 1 rfl hD (fun _ hw => RunV.nil_yield rfl) ?_
      first | refine SatD.tk 2 rfl hD (fun _ hw => RunV.fieldAddrL rfl rfl rfl) ?_ | refine SatD.tk 2 rfl hD (fun _ hw => RunV.fieldAddr rfl rfl rfl) ?_
      refine SatD.tk 3 rfl hD (fun _ hw => RunV.load1 hw rfl rfl (by repeat constructor) (dget (j := 0) (by omega) rfl)) ?_
      first | refine SatD.tk 4 rfl hD (fun _ hw => RunV.lenR (by assumption) rfl rfl) ?_ | refine SatD.tk 4 rfl hD (fun _ hw => RunV.lenS rfl rfl) ?_
      refine SatD.tk 5 rfl hD (fun _ hw => RunV.move rfl) ?_
      first | refine SatD.tk 6 rfl hD (fun _ hw => RunV.nil_ptr rfl) ?_ | refine SatD.tk 6 rfl hD (fun _ hw => RunV.nil_func rfl) ?_ | refine SatD.tk 6 rfl hD (fun _ hw => RunV.nil_yield rfl) ?_
      first | refine SatD.tk 7 rfl hD (fun _ hw => RunV.fieldAddrL rfl rfl rfl) ?_ | refine SatD.tk 7 rfl hD (fun _ hw => RunV.fieldAddr rfl rfl rfl) ?_
      refine SatD.tk 8 rfl hD (fun _ hw => RunV.load1 hw rfl rfl (by repeat constructor) (dget (j := 1) (by omega) rfl)) ?_
      refine SatD.tk 9 rfl hD (fun _ hw => RunV.sub rfl rfl (by first | exact wrapI64 (by omega) | rfl)) ?_
      refine SatD.tk 10 rfl hD (fun _ hw => RunV.assign rfl) ?_
      refine SatD.done 0 (by kernel_rfl) (SatE.thenC ?_)
      clear hD
      refine SatC.seq ?_
      refine SatC.weak (e' := [(0, _), (1, _), (5, _), (6, _), (10, _)]) (by repeat constructor) ?_
      refine SatC.drawnT 11 hS (hS) (by kernel_rfl) ?_
      clear hS
      intro w4 hh hS hD
      refine SatD.tk 0 rfl hD (fun _ hw => RunV.move rfl) ?_
      first | refine SatD.tk 1 rfl hD (fun _ hw => RunV.nil_ptr rfl) ?_ | refine SatD.tk 1 rfl hD (fun _ hw => RunV.nil_func rfl) ?_ | refine SatD.tk 1 rfl hD (fun _ hw => RunV.nil_yield rfl) ?_
      first | refine SatD.tk 2 rfl hD (fun _ hw => RunV.fieldAddrL rfl rfl rfl) ?_ | refine SatD.tk 2 rfl hD (fun _ hw => RunV.fieldAddr rfl rfl rfl) ?_
      refine SatD.tk 3 rfl hD (fun _ hw => RunV.load1 hw rfl rfl (by repeat constructor) (dget (j := 1) (by omega) rfl)) ?_
      refine SatD.tk 4 rfl hD (fun _ hw => RunV.move rfl) ?_
      refine SatD.tk 5 rfl hD (fun _ hw => RunV.max2 rfl rfl) ?_
      refine SatD.tk 6 rfl hD (fun _ hw => RunV.move rfl) ?_
      refine SatD.tk 7 rfl hD (fun _ hw => RunV.add rfl rfl (by first | exact wrapI64 (by omega) | rfl)) ?_
      refine SatD.tk 8 rfl hD (fun _ hw => RunV.remP rfl rfl (by omega) (by omega)) ?_
      refine SatD.tk 9 rfl hD (fun _ hw => RunV.add rfl rfl (by first | exact wrapI64 (by omega) | rfl)) ?_
      refine SatD.tk 10 rfl hD (fun _ hw => RunV.assign rfl) ?_
      refine SatD.done 0 (by kernel_rfl) (SatE.thenC ?_)
      clear hD
      generalize hK : x.s + max keep 0 % ((x.b.length : Int) - x.s + 1) = K at *
      refine SatC.region ?_
      refine SatL.pu (RunV.move rfl) rfl ?_
      refine SatL.op rfl (OpW.buildSlice0 hS rfl rfl rfl ?_)
      clear hS
      intro v39 b39 w5 _ hsl39 hv39 hS
      refine SatL.pu (RunV.move rfl) rfl ?_
      first | refine SatL.pu (RunV.nil_ptr rfl) rfl ?_ | refine SatL.pu (RunV.nil_func rfl) rfl ?_ | refine SatL.pu (RunV.nil_yield rfl) rfl ?_
      first | refine SatL.pu (RunV.fieldAddrL rfl rfl rfl) rfl ?_ | refine SatL.pu (RunV.fieldAddr rfl rfl rfl) rfl ?_
      refine SatL.pu (RunV.load1 hS rfl rfl (by repeat constructor) (dget (j := 0) (by omega) rfl)) rfl ?_
      refine SatL.pu (RunV.move rfl) rfl ?_
      refine SatL.pu (RunV.cutHv hxv rfl rfl rfl rfl (by omega) (by omega)) rfl ?_
      refine SatL.op rfl (OpW.appendB (news := (x.b.take K.toNat).map by1c) hsl39 hS (by repeat constructor) (SlV.cutV 1 hxv (Nat.zero_le K.toNat) (by omega)) (by rw [Nat.zero_mul, Nat.add_zero, List.map_take]; exact (hxsl.rd hS (by repeat constructor)).take) (by rw [List.length_map, List.length_take]; omega) rfl rfl rfl rfl rfl rfl rfl (by1c_one' _) (by simp only [List.length_nil]; omega) (by simp only [List.length_nil]; omega) rfl ?_)
      clear hS
      intro v46 B46 w6 hsl46 hS
      rw [List.nil_append] at hsl46
      refine SatL.pu (RunV.move rfl) rfl ?_
      refine SatL.pu (RunV.build (v := .agg #[v46, .int .i64 K]) rfl (by obtain ⟨c1, h1⟩ := hsl46.slv; obtain ⟨A1, rfl, _⟩ := h1.eq; simp [go_sem]; try rfl)) rfl ?_
      first | refine SatL.pu (RunV.nil_ptr rfl) rfl ?_ | refine SatL.pu (RunV.nil_func rfl) rfl ?_ | refine SatL.pu (RunV.nil_yield rfl) rfl ?_
      refine SatL.op rfl (OpW.storeRowAt (T := 53) (vs := [v46, .int .i64 K]) (cs := dcs room fuse down (p ++ x :: s)) hS rfl rfl .agg (by rw [dcs_len hg4]; simp; omega) (drow (y := ⟨v46, x.b.take K.toNat, K, B46⟩) (by omega)) (by repeat constructor) rfl (by simp only [List.all_cons, List.all_nil, hsl46.one, Bool.and_true]; rfl) ?_)
      clear hS
      intro w7 hS
      refine SatL.nil (SatE.blk_normal (SatE.thenC ?_))
      refine SatC.weak (e' := [(0, _), (1, _), (10, _)]) (by repeat constructor) ?_
      refine SatC.region ?_
      refine SatL.pu (RunV.add rfl rfl (by first | exact wrapI64 (by omega) | rfl)) rfl ?_
      refine SatL.pu (RunV.move rfl) rfl ?_
      refine SatL.nil ?_
      refine SatE.again ((k + 1, p ++ ⟨v46, x.b.take K.toNat, K, B46⟩ :: s)) ?_ (by first | omega | (dsimp only; omega)) (by repeat constructor)
      refine ⟨by omega, by simpa using hg4, hgsl.upd hsl46, crash_step hp (by omega) hgab (by unfold crashF; rw [hK]), ?_⟩
      simp only [dbl, List.flatMap_append, List.flatMap_cons, List.append_assoc, List.cons_append, List.nil_append]
      exact hS.sel (by repeat constructor)
    · (try simp only [cx, ne_eq] at h2)
      try (exfalso; (first | omega | exact h2 trivial | contradiction | (first | omega | (simp at h2; done))); done)
      all_goals
      refine SatC.exit (SatE.then_exit (SatE.then_exit (SatE.blk_exit (SatE.thenC ?_))))
      have hk4 : k = 4 := by omega
      subst hk4
      rw [List.take_of_length_le (by omega), List.drop_of_length_le (by omega), List.append_nil] at hgab
      refine SatC.region ?_
      refine SatL.pu (RunV.move rfl) rfl ?_
      refine SatL.pu (RunV.move rfl) rfl ?_
      first | refine SatL.pu (RunV.nil_ptr rfl) rfl ?_ | refine SatL.pu (RunV.nil_func rfl) rfl ?_ | refine SatL.pu (RunV.nil_yield rfl) rfl ?_
      first | refine SatL.pu (RunV.fieldAddrL rfl rfl rfl) rfl ?_ | refine SatL.pu (RunV.fieldAddr rfl rfl rfl) rfl ?_
      refine SatL.op rfl (OpW.storeAt (T := 53) (cs := dcs room fuse down gs) hS rfl rfl (by rw [dcs_len hg4]; decide) (ddown_set hg4 false) (by repeat constructor) rfl rfl ?_)
      clear hS
      intro w3 hS
      first | refine SatL.pu (RunV.nil_ptr rfl) rfl ?_ | refine SatL.pu (RunV.nil_func rfl) rfl ?_ | refine SatL.pu (RunV.nil_yield rfl) rfl ?_
      first | refine SatL.pu (RunV.fieldAddrL rfl rfl rfl) rfl ?_ | refine SatL.pu (RunV.fieldAddr rfl rfl rfl) rfl ?_
      refine SatL.op rfl (OpW.storeAt (T := 53) (cs := dcs room fuse false gs) hS rfl rfl (by rw [dcs_len hg4]; decide) (dfuse_set hg4 (-1)) (by repeat constructor) rfl rfl ?_)
      clear hS
      intro w4 hS
      refine SatL.nil ?_
      refine SatE.fin0 rfl ?_
      exact ⟨gs, ⟨hgsl, hgab⟩, hS⟩
end
end Go.Proofs.Ytahholhggohbnaa
