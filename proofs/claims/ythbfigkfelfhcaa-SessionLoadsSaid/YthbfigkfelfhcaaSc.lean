/- A node's sessions closed: both ways. -/
import Derived.Test.YthbfigkfelfhcaaSi
import Derived.Test.YthbfigkfelfhcaaSr
set_option linter.unusedSimpArgs false
set_option linter.unusedVariables false
set_option maxRecDepth 100000
set_option maxHeartbeats 8000000
namespace Go.Proofs.Ythbfigkfelfhcaa
open Go.RowKit
theorem lastS_snoc (last ix : Int) (ids : List Int) (id : Int) : lastS last ix (ids ++ [id]) = max (lastS last ix ids) ix := by
  unfold lastS
  rw [if_neg (by simp)]
  split <;> omega
theorem idsS_next {nd : Int} {l : List Ses} {i : Nat} {y : Ses} (hy : l[i]? = some y) : idsS nd (l.take (i + 1)) = idsS nd (l.take i) ++ (if y.nd = nd then [y.id] else []) := by
  rw [List.take_add_one, hy, Option.toList_some]
  unfold idsS
  rw [List.filter_append, List.map_append]
  congr 1
  by_cases e : y.nd = nd
  · rw [if_pos e, List.filter_cons_of_pos (by simpa using e)]; rfl
  · rw [if_neg e, List.filter_cons_of_neg (by simpa using e)]; rfl
/-- What is left when the first i have been asked. -/
def curS (nd : Int) (ss : List Ses) (i : Nat) : List Ses := restS nd (ss.take i) ++ ss.drop i
theorem curS_sub (nd : Int) (ss : List Ses) (i : Nat) : (curS nd ss i).Sublist ss := by
  conv => rhs; rw [← List.take_append_drop i ss]
  exact List.filter_sublist.append_right _
theorem sub_wf {ss ss' : List Ses} (h : WfS ss) (hs : ss'.Sublist ss) : WfS ss' := ⟨List.Pairwise.sublist hs h.1, fun x hx => h.2 x (hs.subset hx)⟩
theorem curS_skip {nd : Int} {ss : List Ses} {i : Nat} {y : Ses} (hy : ss[i]? = some y) (h : ¬ y.nd = nd) : curS nd ss (i + 1) = curS nd ss i := by
  unfold curS restS
  rw [List.take_add_one, hy, Option.toList_some, List.filter_append, drop_at hy, List.filter_cons_of_pos (by simpa using h)]
  simp
theorem curS_at {nd : Int} {ss : List Ses} {i : Nat} {y : Ses} (hy : ss[i]? = some y) : y ∈ curS nd ss i := by
  unfold curS
  rw [drop_at hy]
  simp
theorem curS_del {nd : Int} {ss : List Ses} (hw : WfS ss) {i : Nat} {y : Ses} (hy : ss[i]? = some y) (h : y.nd = nd) : delS y.id (curS nd ss i) = curS nd ss (i + 1) := by
  have hsp : ss = ss.take i ++ (y :: ss.drop (i + 1)) := by
    have := List.take_append_drop i ss
    rw [drop_at hy] at this
    exact this.symm
  have hp := hw.1
  rw [hsp, List.pairwise_append] at hp
  obtain ⟨_, h2, h3⟩ := hp
  have h4 := (List.pairwise_cons.1 h2).1
  unfold curS restS delS
  rw [List.take_add_one, hy, Option.toList_some, List.filter_append, drop_at hy, List.filter_append, List.filter_cons_of_neg (by simp), List.filter_cons_of_neg (by simpa using h), List.filter_nil, List.append_nil]
  congr 1
  · refine List.filter_eq_self.2 fun x hx => ?_
    have := h3 x (List.mem_filter.1 hx).1 y List.mem_cons_self
    simp only [decide_eq_true_eq]
    omega
  · refine List.filter_eq_self.2 fun x hx => ?_
    have := h4 x hx
    simp only [decide_eq_true_eq]
    omega
theorem close_cur {nd last ix : Int} {ss : List Ses} (hw : WfS ss) {i : Nat} {y : Ses} (hy : ss[i]? = some y) (h : y.nd = nd) : closeS last (curS nd ss i) y.id ix = (0, curS nd ss (i + 1), max last ix) := by
  unfold closeS
  rw [sget_at (sub_wf hw (curS_sub nd ss i)) (curS_at hy), if_pos rfl, curS_del hw hy h]
theorem curS_end (nd : Int) (ss : List Ses) : curS nd ss ss.length = restS nd ss := by unfold curS; simp
section
variable {b0 b : Nat} {most last : Int} {v : Value} {ss : List Ses} {B : List (Nat × Obj)} {w : World}
theorem closeN_any (nd ix : Int) (hw : WfS ss) (hm : ¬ most = 0) (hsl : Sl 73 7 v ((ss.map rowOf).map tr) B) (hl : ss.length ≤ 1000) (hown : Own w (SO b0 b most last v B)) :
    Ret Try.prog 20 #[.pointer (some ⟨b0, 0, none⟩), .int .i64 nd, .int .u64 ix] w fun u w' => ∃ UB, Sl 25 1 u ((idsS nd ss).map uR) UB ∧ ∃ v' B', Sl 73 7 v' (((restS nd ss).map rowOf).map tr) B' ∧ St w ((SO b0 b most last v B).map Prod.fst) (UB ++ SO b0 b most (lastS last ix (idsS nd ss)) v' B') w' := by
  have hS := St.init hown
  generalize hX : (SO b0 b most last v B).map Prod.fst = X at hS ⊢
  refine Ret.enter Try.func20 Try.ntmps20 rfl rfl ?_
  simp only [argEnv, Nat.reduceAdd]
  refine SatC.seq ?_
  refine SatC.region ?_
  refine SatL.pu (RunV.assign rfl) rfl ?_
  refine SatL.nil (SatE.thenC ?_)
  refine SatC.seq ?_
  refine SatC.region ?_
  refine SatL.pu (RunV.assign rfl) rfl ?_
  refine SatL.nil (SatE.thenC ?_)
  refine SatC.seq ?_
  refine SatC.seq ?_
  refine SatC.region ?_
  refine SatL.pu (RunV.move rfl) rfl ?_
  refine SatL.op rfl (OpW.enter rfl rfl rfl (rfl) (listS_any hw hm hsl (by omega) (hS.ownT (A := SO b0 b most last v B) (by repeat constructor))) ?_)
  rintro r1 w1 ⟨LB, hsL, h⟩
  replace hS := hS.call0 h
  obtain ⟨cL, hvL⟩ := hsL.slv
  simp only [List.length_map] at hvL
  refine SatL.pu (RunV.lenR hvL rfl rfl) rfl ?_
  refine SatL.pu (RunV.move rfl) rfl ?_
  refine SatL.nil (SatE.thenC ?_)
  refine SatC.block ?_
  refine SatC.loopK (G := Nat × Value × List (Nat × Obj) × Value × List (Nat × Obj)) (V := fun ⟨i, u, UB, v1, B1⟩ => [(13, .int .i64 (i : Int)), (7, u)]) (Cn := [(0, _), (1, _), (2, _), (6, _), (11, _), (12, _)]) (I := fun ⟨i, u, UB, v1, B1⟩ w' => i ≤ ss.length ∧ Sl 25 1 u ((idsS nd (ss.take i)).map uR) UB ∧ Sl 73 7 v1 (((curS nd ss i).map rowOf).map tr) B1 ∧ St w X (UB ++ ((b0, C 59 (sn b)) :: (b, C 78 (tc most v1 (lastS last ix (idsS nd (ss.take i))))) :: (B1 ++ LB))) w') (μ := fun ⟨i, u, UB, v1, B1⟩ => ss.length - i) (0, .slice none 0 0, [], v, B) ?_ (by repeat constructor) ?_
  · exact ⟨Nat.zero_le _, .nil, hsl, hS.sel (by repeat constructor)⟩
  clear hS
  rintro ⟨i, u, UB, v1, B1⟩ w2 ⟨hi, hu, hs1, hS⟩
  refine SatC.weak (e' := [(0, _), (1, _), (2, _), (6, _), (7, _), (11, _), (12, _), (13, _)]) (by repeat constructor) ?_
  refine SatC.seq ?_
  refine SatC.region ?_
  refine SatL.pu (RunV.lss rfl rfl) rfl ?_
  refine SatL.nil (SatE.thenC ?_)
  refine SatC.seq ?_
  refine SatC.cond rfl (fun h1 => ?_) (fun h1 => ?_)
  · (try simp only [cx, ne_eq] at h1)
    try (exfalso; (first | omega | exact h1 trivial | contradiction | exact h1 rfl); done)
    all_goals
    refine SatC.skip (SatE.thenC ?_)
    refine SatC.seq ?_
    refine SatC.block ?_
    refine SatC.seq ?_
    obtain ⟨y, hy⟩ := get_some ss i (by omega)
    have hyb := (hw.2 y (List.mem_of_getElem? hy)).1
    have hwc := sub_wf hw (curS_sub nd ss i)
    have hlc := (curS_sub nd ss i).length_le
    have hlu : (idsS nd (ss.take i)).length ≤ ss.length := by unfold idsS; rw [List.length_map]; exact Nat.le_trans (List.length_filter_le ..) (by rw [List.length_take]; omega)
    refine SatC.region ?_
    refine SatL.pu (RunV.indexR hvL rfl rfl rfl (by omega) (by omega) rfl) rfl ?_
    refine SatL.pu (RunV.loadRNz (hsL.rd hS (by repeat constructor)) rfl rfl (map_get hy)) rfl ?_
    refine SatL.op rfl (OpW.alloc hS rfl rfl (by repeat constructor) ?_)
    clear hS
    intro b9 w3 _ hS
    refine SatL.op rfl (OpW.store hS rfl rfl (by repeat constructor) (by repeat constructor) (by repeat constructor) rfl rfl ?_)
    clear hS
    intro w4 hS
    refine SatL.nil (SatE.thenC ?_)
    refine SatC.seq ?_
    refine SatC.region ?_
    first | refine SatL.pu (RunV.fieldAddrL rfl rfl rfl) rfl ?_ | refine SatL.pu (RunV.fieldAddr rfl rfl rfl) rfl ?_
    refine SatL.pu (RunV.load1 hS rfl rfl (by repeat constructor) rfl) rfl ?_
    refine SatL.pu (RunV.move rfl) rfl ?_
    refine SatL.pu (RunV.eql rfl rfl) rfl ?_
    refine SatL.pu (RunV.move rfl) rfl ?_
    refine SatL.guard rfl rfl rfl (fun h2 => ?_) (fun h2 => ?_)
    · (try simp only [cx, ne_eq] at h2)
      try (exfalso; (first | omega | exact h2 trivial | contradiction | exact h2 rfl); done)
      all_goals
      refine SatL.pu (RunV.move rfl) rfl ?_
      refine SatL.guard_y rfl rfl ?_
      first | refine SatL.pu (RunV.fieldAddrL rfl rfl rfl) rfl ?_ | refine SatL.pu (RunV.fieldAddr rfl rfl rfl) rfl ?_
      refine SatL.guard_y rfl rfl ?_
      refine SatL.pu (RunV.load1 hS rfl rfl (by repeat constructor) rfl) rfl ?_
      refine SatL.guard_y rfl rfl ?_
      refine SatL.pu (RunV.move rfl) rfl ?_
      refine SatL.guard_y rfl rfl ?_
      refine SatL.op rfl (OpW.enter rfl rfl rfl (rfl) (close_any y.id ix ⟨by omega, hyb.2⟩ hwc hm hs1 (by omega) (hS.ownT (A := SO b0 b most (lastS last ix (idsS nd (ss.take i))) v1 B1) (by repeat constructor))) ?_)
      rintro r5 w5 ⟨rfl, v2, B2, hsl2, h⟩
      replace hS := hS.callT (A := SO b0 b most (lastS last ix (idsS nd (ss.take i))) v1 B1) (by repeat constructor) h
      rw [close_cur hw hy (by assumption)] at hsl2 hS ⊢
      refine SatL.guard_y rfl rfl ?_
      refine SatL.pu (RunV.eql rfl rfl) rfl ?_
      refine SatL.pu (RunV.pick_t rfl rfl) rfl ?_
      refine SatL.nil (SatE.thenC ?_)
      refine SatC.weak (e' := [(0, _), (1, _), (2, _), (6, _), (7, _), (9, _), (11, _), (12, _), (13, _), (28, _)]) (by repeat constructor) ?_
      refine SatC.cond rfl (fun h3 => ?_) (fun h3 => ?_)
      · (try simp only [cx, ne_eq] at h3)
        try (exfalso; (first | omega | exact h3 trivial | contradiction | exact h3 rfl); done)
        all_goals
        refine SatC.region ?_
        refine SatL.pu (RunV.move rfl) rfl ?_
        first | refine SatL.pu (RunV.fieldAddrL rfl rfl rfl) rfl ?_ | refine SatL.pu (RunV.fieldAddr rfl rfl rfl) rfl ?_
        refine SatL.pu (RunV.load1 hS rfl rfl (by repeat constructor) rfl) rfl ?_
        refine SatL.op rfl (OpW.buildSlice1 hS rfl rfl rfl rfl rfl (by repeat constructor) rfl rfl rfl ?_)
        clear hS
        intro b32 w6 _ hS
        refine SatL.op rfl (OpW.append1 (by assumption) hS (by repeat constructor) rfl rfl (by repeat constructor) rfl rfl rfl rfl rfl rfl rfl rfl (by first | omega | (simp only [List.length_map]; omega) | (simp only [List.length_append, List.length_map, List.length_cons, List.length_nil]; omega)) rfl ?_)
        clear hS
        intro v33 B33 w7 hsl33 hS
        refine SatL.pu (RunV.assign rfl) rfl ?_
        refine SatL.nil (SatE.blk_normal (SatE.thenC ?_))
        refine SatC.region ?_
        refine SatL.pu (RunV.add rfl rfl (by first | exact wrapI64 (by omega) | rfl)) rfl ?_
        refine SatL.pu (RunV.move rfl) rfl ?_
        refine SatL.nil ?_
        first
        | (refine SatE.again (i + 1, v33, B33, v2, B2) ⟨by omega, ?_, hsl2, ?_⟩ (by dsimp only; omega) (by repeat constructor)
           · rw [idsS_next hy, if_pos (by assumption), List.map_append]; exact hsl33
           · rw [idsS_next hy, if_pos (by assumption), lastS_snoc]; exact hS.sel (by repeat constructor))
        | (refine SatE.again (i + 1, u, UB, v1, B1) ⟨by omega, ?_, ?_, ?_⟩ (by dsimp only; omega) (by repeat constructor)
           · rw [idsS_next hy, if_neg (by assumption), List.append_nil]; exact hu
           · rw [curS_skip hy (by assumption)]; exact hs1
           · rw [idsS_next hy, if_neg (by assumption), List.append_nil]; exact hS.sel (by repeat constructor))
      · (try simp only [cx, ne_eq] at h3)
        try (exfalso; (first | omega | exact h3 trivial | contradiction | exact h3 rfl); done)
        all_goals
        refine SatC.skip (SatE.blk_normal (SatE.thenC ?_))
        refine SatC.region ?_
        refine SatL.pu (RunV.add rfl rfl (by first | exact wrapI64 (by omega) | rfl)) rfl ?_
        refine SatL.pu (RunV.move rfl) rfl ?_
        refine SatL.nil ?_
        first
        | (refine SatE.again (i + 1, v33, B33, v2, B2) ⟨by omega, ?_, hsl2, ?_⟩ (by dsimp only; omega) (by repeat constructor)
           · rw [idsS_next hy, if_pos (by assumption), List.map_append]; exact hsl33
           · rw [idsS_next hy, if_pos (by assumption), lastS_snoc]; exact hS.sel (by repeat constructor))
        | (refine SatE.again (i + 1, u, UB, v1, B1) ⟨by omega, ?_, ?_, ?_⟩ (by dsimp only; omega) (by repeat constructor)
           · rw [idsS_next hy, if_neg (by assumption), List.append_nil]; exact hu
           · rw [curS_skip hy (by assumption)]; exact hs1
           · rw [idsS_next hy, if_neg (by assumption), List.append_nil]; exact hS.sel (by repeat constructor))
    · (try simp only [cx, ne_eq] at h2)
      try (exfalso; (first | omega | exact h2 trivial | contradiction | exact h2 rfl); done)
      all_goals
      refine SatL.guard_n rfl rfl rfl rfl ?_
      refine SatL.guard_n rfl rfl rfl rfl ?_
      refine SatL.guard_n rfl rfl rfl rfl ?_
      refine SatL.guard_n rfl rfl rfl rfl ?_
      refine SatL.guard_n rfl rfl rfl rfl ?_
      refine SatL.pu (RunV.pick_f rfl rfl) rfl ?_
      refine SatL.nil (SatE.thenC ?_)
      refine SatC.weak (e' := [(0, _), (1, _), (2, _), (6, _), (7, _), (9, _), (11, _), (12, _), (13, _), (28, _)]) (by repeat constructor) ?_
      refine SatC.cond_f rfl ?_
      refine SatC.skip (SatE.blk_normal (SatE.thenC ?_))
      refine SatC.region ?_
      refine SatL.pu (RunV.add rfl rfl (by first | exact wrapI64 (by omega) | rfl)) rfl ?_
      refine SatL.pu (RunV.move rfl) rfl ?_
      refine SatL.nil ?_
      first
      | (refine SatE.again (i + 1, v33, B33, v2, B2) ⟨by omega, ?_, hsl2, ?_⟩ (by dsimp only; omega) (by repeat constructor)
         · rw [idsS_next hy, if_pos (by assumption), List.map_append]; exact hsl33
         · rw [idsS_next hy, if_pos (by assumption), lastS_snoc]; exact hS.sel (by repeat constructor))
      | (refine SatE.again (i + 1, u, UB, v1, B1) ⟨by omega, ?_, ?_, ?_⟩ (by dsimp only; omega) (by repeat constructor)
         · rw [idsS_next hy, if_neg (by assumption), List.append_nil]; exact hu
         · rw [curS_skip hy (by assumption)]; exact hs1
         · rw [idsS_next hy, if_neg (by assumption), List.append_nil]; exact hS.sel (by repeat constructor))
  · (try simp only [cx, ne_eq] at h1)
    try (exfalso; (first | omega | exact h1 trivial | contradiction | exact h1 rfl); done)
    all_goals
    refine SatC.exit (SatE.then_exit (SatE.then_exit (SatE.blk_exit (SatE.thenC ?_))))
    refine SatC.seq ?_
    refine SatC.region ?_
    refine SatL.pu (RunV.move rfl) rfl ?_
    refine SatL.pu (RunV.assign rfl) rfl ?_
    refine SatL.nil (SatE.thenC ?_)
    refine SatC.ret ?_
    refine SatE.ret1 rfl rfl ?_
    obtain rfl : i = ss.length := by omega
    rw [List.take_length] at hu hS
    rw [curS_end] at hs1
    exact ⟨UB, hu, v1, B1, hs1, hS.sel (by repeat constructor)⟩
end
end Go.Proofs.Ythbfigkfelfhcaa
