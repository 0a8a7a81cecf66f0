/- The document's way of closing a node's sessions; and sessions loaded. -/
import Derived.Test.YthbfigkfelfhcaaSc
set_option linter.unusedSimpArgs false
set_option linter.unusedVariables false
set_option maxRecDepth 100000
set_option maxHeartbeats 8000000
namespace Go.Proofs.Ythbfigkfelfhcaa
open Go.RowKit
def delIds (ids : List Int) (ss : List Ses) : List Ses := ss.filter fun x => decide (¬ x.id ∈ ids)
theorem ids_asc {nd : Int} {ss : List Ses} (hw : WfS ss) : (idsS nd ss).Pairwise (· < ·) := by
  unfold idsS
  rw [List.pairwise_map]
  exact List.Pairwise.sublist List.filter_sublist hw.1
theorem ses_eq {ss : List Ses} (hw : WfS ss) {x y : Ses} (hx : x ∈ ss) (hy : y ∈ ss) (h : x.id = y.id) : x = y := by
  have h1 := sget_at hw hx
  have h2 := sget_at hw hy
  rw [h, h2] at h1
  exact (congrArg Prod.fst h1).symm
theorem ids_in {nd : Int} {ss : List Ses} (hw : WfS ss) {x : Ses} (hx : x ∈ ss) : x.id ∈ idsS nd ss ↔ x.nd = nd := by
  unfold idsS
  rw [List.mem_map]
  constructor
  · rintro ⟨y, hy, e⟩
    obtain ⟨hy1, hy2⟩ := List.mem_filter.1 hy
    obtain rfl := ses_eq hw hy1 hx e
    simpa using hy2
  · intro h
    exact ⟨x, List.mem_filter.2 ⟨hx, by simpa using h⟩, rfl⟩
theorem delIds_end {nd : Int} {ss : List Ses} (hw : WfS ss) : delIds (idsS nd ss) ss = restS nd ss := by
  unfold delIds restS
  apply List.filter_congr
  intro x hx
  rw [Bool.eq_iff_iff]
  simp only [decide_eq_true_eq, ids_in hw hx]
theorem delIds_step {ids : List Int} {ss : List Ses} {j : Nat} {id : Int} (hj : ids[j]? = some id) : delS id (delIds (ids.take j) ss) = delIds (ids.take (j + 1)) ss := by
  unfold delS delIds
  rw [List.filter_filter]
  apply List.filter_congr
  intro x _
  rw [Bool.eq_iff_iff, List.take_add_one, hj, Option.toList_some]
  simp only [Bool.and_eq_true, decide_eq_true_eq, List.mem_append, List.mem_singleton, not_or]
  exact ⟨fun h => ⟨h.2, h.1⟩, fun h => ⟨h.2, h.1⟩⟩
theorem close_ids {nd last ix : Int} {ss : List Ses} (hw : WfS ss) {j : Nat} {id : Int} (hj : (idsS nd ss)[j]? = some id) : closeS last (delIds ((idsS nd ss).take j) ss) id ix = (0, delIds ((idsS nd ss).take (j + 1)) ss, max last ix) := by
  obtain ⟨x, hx, rfl⟩ := List.mem_map.1 (List.mem_of_getElem? hj)
  have hxs := (List.mem_filter.1 hx).1
  have hin : x ∈ delIds ((idsS nd ss).take j) ss := by
    refine List.mem_filter.2 ⟨hxs, ?_⟩
    simp only [decide_eq_true_eq]
    intro hm
    obtain ⟨k, hk⟩ := List.getElem?_of_mem hm
    have hkl := (List.getElem?_eq_some_iff.1 hk).1
    rw [List.length_take] at hkl
    rw [List.getElem?_take_of_lt (by omega)] at hk
    obtain ⟨h1, e1⟩ := List.getElem?_eq_some_iff.1 hk
    obtain ⟨h2, e2⟩ := List.getElem?_eq_some_iff.1 hj
    have := List.pairwise_iff_getElem.1 (ids_asc (nd := nd) hw) k j h1 h2 (by omega)
    omega
  have hwd : WfS (delIds ((idsS nd ss).take j) ss) := filter_wf _ hw
  unfold closeS
  rw [sget_at hwd hin, if_pos rfl, delIds_step hj]
section
variable {b0 b : Nat} {most last : Int} {v : Value} {ss : List Ses} {B : List (Nat × Obj)} {w : World}
theorem closeN_ref (nd ix : Int) (hw : WfS ss) (hown : Own w ((b, C 53 (rt most v last)) :: B)) (hsl : Sl 35 4 v (ss.map sc) B) (hl : ss.length ≤ 100) :
    Ret Try.prog 21 #[.pointer (some ⟨b, 0, none⟩), .int .i64 nd, .int .u64 ix] w fun u w' => ∃ UB, Sl 25 1 u ((idsS nd ss).map uR) UB ∧ ∃ v' B', Sl 35 4 v' ((restS nd ss).map sc) B' ∧ St w (b :: B.map Prod.fst) (UB ++ ((b, C 53 (rt most v' (lastS last ix (idsS nd ss)))) :: B')) w' := by
  have hS := St.init hown
  obtain ⟨c0, hv0⟩ := hsl.slv
  simp only [List.length_map] at hv0
  rw [List.map_cons] at hS
  generalize hX : b :: B.map Prod.fst = X at hS ⊢
  have hidl : (idsS nd ss).length ≤ ss.length := by unfold idsS; rw [List.length_map]; exact List.length_filter_le ..
  refine Ret.enter Try.func21 Try.ntmps21 rfl rfl ?_
  simp only [argEnv, Nat.reduceAdd]
  refine SatC.seq ?_
  refine SatC.region ?_
  refine SatL.pu (RunV.assign rfl) rfl ?_
  refine SatL.nil (SatE.thenC ?_)
  refine SatC.seq ?_
  refine SatC.region ?_
  refine SatL.pu (RunV.assign rfl) rfl ?_
  refine SatL.nil (SatE.thenC ?_)
  refine SatC.seq ?_
  refine SatC.seq ?_
  refine SatC.region ?_
  refine SatL.pu (RunV.assign rfl) rfl ?_
  refine SatL.nil (SatE.thenC ?_)
  refine SatC.block ?_
  refine SatC.loopK (G := Nat × Value × List (Nat × Obj)) (V := fun ⟨i, u, UB⟩ => [(8, .int .i64 (i : Int)), (7, u)]) (Cn := [(0, _), (1, _), (2, _), (6, _)]) (I := fun ⟨i, u, UB⟩ w' => i ≤ ss.length ∧ Sl 25 1 u ((idsS nd (ss.take i)).map uR) UB ∧ St w X (UB ++ ((b, C 53 (rt most v last)) :: B)) w') (μ := fun ⟨i, u, UB⟩ => ss.length - i) (0, .slice none 0 0, []) ?_ (by repeat constructor) ?_
  · exact ⟨Nat.zero_le _, .nil, hS⟩
  clear hS
  rintro ⟨i, u, UB⟩ w1 ⟨hi, hu, hS⟩
  refine SatC.weak (e' := [(0, _), (1, _), (2, _), (6, _), (7, _), (8, _)]) (by repeat constructor) ?_
  refine SatC.seq ?_
  refine SatC.seq ?_
  refine SatC.region ?_
  refine SatL.pu (RunV.move rfl) rfl ?_
  refine SatL.pu (RunV.move rfl) rfl ?_
  first | refine SatL.pu (RunV.nil_ptr rfl) rfl ?_ | refine SatL.pu (RunV.nil_func rfl) rfl ?_ | refine SatL.pu (RunV.nil_yield rfl) rfl ?_
  first | refine SatL.pu (RunV.fieldAddrL rfl rfl rfl) rfl ?_ | refine SatL.pu (RunV.fieldAddr rfl rfl rfl) rfl ?_
  refine SatL.pu (RunV.load1 hS rfl rfl (by repeat constructor) rfl) rfl ?_
  refine SatL.pu (RunV.lenR hv0 rfl rfl) rfl ?_
  refine SatL.pu (RunV.lss rfl rfl) rfl ?_
  refine SatL.nil (SatE.thenC ?_)
  refine SatC.cond rfl (fun h1 => ?_) (fun h1 => ?_)
  · (try simp only [cx, ne_eq] at h1)
    try (exfalso; (first | omega | exact h1 trivial | contradiction); done)
    all_goals
    refine SatC.skip (SatE.thenC ?_)
    refine SatC.seq ?_
    refine SatC.block ?_
    refine SatC.seq ?_
    obtain ⟨y, hy⟩ := get_some ss i (by omega)
    have hlu : (idsS nd (ss.take i)).length ≤ ss.length := by unfold idsS; rw [List.length_map]; exact Nat.le_trans (List.length_filter_le ..) (by rw [List.length_take]; omega)
    refine SatC.region ?_
    refine SatL.pu (RunV.move rfl) rfl ?_
    first | refine SatL.pu (RunV.nil_ptr rfl) rfl ?_ | refine SatL.pu (RunV.nil_func rfl) rfl ?_ | refine SatL.pu (RunV.nil_yield rfl) rfl ?_
    first | refine SatL.pu (RunV.fieldAddrL rfl rfl rfl) rfl ?_ | refine SatL.pu (RunV.fieldAddr rfl rfl rfl) rfl ?_
    refine SatL.pu (RunV.load1 hS rfl rfl (by repeat constructor) rfl) rfl ?_
    refine SatL.pu (RunV.move rfl) rfl ?_
    refine SatL.pu (RunV.indexR hv0 rfl rfl rfl (by omega) (by omega) rfl) rfl ?_
    first | refine SatL.pu (RunV.fieldAddrL rfl rfl rfl) rfl ?_ | refine SatL.pu (RunV.fieldAddr rfl rfl rfl) rfl ?_
    refine SatL.pu (RunV.loadR1f (hsl.rd hS (by repeat constructor)) rfl rfl (map_get hy) rfl) rfl ?_
    refine SatL.pu (RunV.move rfl) rfl ?_
    refine SatL.pu (RunV.eql rfl rfl) rfl ?_
    refine SatL.nil (SatE.thenC ?_)
    refine SatC.weak (e' := [(0, _), (1, _), (2, _), (6, _), (7, _), (8, _), (28, _)]) (by repeat constructor) ?_
    refine SatC.cond rfl (fun h2 => ?_) (fun h2 => ?_)
    · (try simp only [cx, ne_eq] at h2)
      try (exfalso; (first | omega | exact h2 trivial | contradiction); done)
      all_goals
      refine SatC.region ?_
      refine SatL.pu (RunV.move rfl) rfl ?_
      refine SatL.pu (RunV.move rfl) rfl ?_
      first | refine SatL.pu (RunV.nil_ptr rfl) rfl ?_ | refine SatL.pu (RunV.nil_func rfl) rfl ?_ | refine SatL.pu (RunV.nil_yield rfl) rfl ?_
      first | refine SatL.pu (RunV.fieldAddrL rfl rfl rfl) rfl ?_ | refine SatL.pu (RunV.fieldAddr rfl rfl rfl) rfl ?_
      refine SatL.pu (RunV.load1 hS rfl rfl (by repeat constructor) rfl) rfl ?_
      refine SatL.pu (RunV.move rfl) rfl ?_
      refine SatL.pu (RunV.indexR hv0 rfl rfl rfl (by omega) (by omega) rfl) rfl ?_
      first | refine SatL.pu (RunV.fieldAddrL rfl rfl rfl) rfl ?_ | refine SatL.pu (RunV.fieldAddr rfl rfl rfl) rfl ?_
      refine SatL.pu (RunV.loadR1f (hsl.rd hS (by repeat constructor)) rfl rfl (map_get hy) rfl) rfl ?_
      refine SatL.op rfl (OpW.buildSlice1 hS rfl rfl rfl rfl rfl (by repeat constructor) rfl rfl rfl ?_)
      clear hS
      intro b38 w2 _ hS
      refine SatL.op rfl (OpW.append1 (by assumption) hS (by repeat constructor) rfl rfl (by repeat constructor) rfl rfl rfl rfl rfl rfl rfl rfl (by first | omega | (simp only [List.length_map]; omega) | (simp only [List.length_append, List.length_map, List.length_cons, List.length_nil]; omega)) rfl ?_)
      clear hS
      intro v39 B39 w3 hsl39 hS
      refine SatL.pu (RunV.assign rfl) rfl ?_
      refine SatL.nil (SatE.blk_normal (SatE.thenC ?_))
      refine SatC.weak (e' := [(0, _), (1, _), (2, _), (6, _), (7, _), (8, _)]) (by repeat constructor) ?_
      refine SatC.region ?_
      refine SatL.pu (RunV.move rfl) rfl ?_
      refine SatL.pu (RunV.add rfl rfl (by first | exact wrapI64 (by omega) | rfl)) rfl ?_
      refine SatL.pu (RunV.assign rfl) rfl ?_
      refine SatL.nil ?_
      first
      | (refine SatE.again (i + 1, v39, B39) ⟨by omega, ?_, hS.sel (by repeat constructor)⟩ (by dsimp only; omega) (by repeat constructor)
         rw [idsS_next hy, if_pos (by assumption), List.map_append]; exact hsl39)
      | (refine SatE.again (i + 1, u, UB) ⟨by omega, ?_, hS.sel (by repeat constructor)⟩ (by dsimp only; omega) (by repeat constructor)
         rw [idsS_next hy, if_neg (by assumption), List.append_nil]; exact hu)
    · (try simp only [cx, ne_eq] at h2)
      try (exfalso; (first | omega | exact h2 trivial | contradiction); done)
      all_goals
      refine SatC.skip (SatE.blk_normal (SatE.thenC ?_))
      refine SatC.region ?_
      refine SatL.pu (RunV.move rfl) rfl ?_
      refine SatL.pu (RunV.add rfl rfl (by first | exact wrapI64 (by omega) | rfl)) rfl ?_
      refine SatL.pu (RunV.assign rfl) rfl ?_
      refine SatL.nil ?_
      first
      | (refine SatE.again (i + 1, v39, B39) ⟨by omega, ?_, hS.sel (by repeat constructor)⟩ (by dsimp only; omega) (by repeat constructor)
         rw [idsS_next hy, if_pos (by assumption), List.map_append]; exact hsl39)
      | (refine SatE.again (i + 1, u, UB) ⟨by omega, ?_, hS.sel (by repeat constructor)⟩ (by dsimp only; omega) (by repeat constructor)
         rw [idsS_next hy, if_neg (by assumption), List.append_nil]; exact hu)
  · (try simp only [cx, ne_eq] at h1)
    try (exfalso; (first | omega | exact h1 trivial | contradiction); done)
    all_goals
    refine SatC.exit (SatE.then_exit (SatE.then_exit (SatE.blk_exit (SatE.thenC ?_))))
    refine SatC.seq ?_
    refine SatC.seq ?_
    obtain rfl : i = ss.length := by omega
    rw [List.take_length] at hu
    obtain ⟨cu, hvu⟩ := hu.slv
    simp only [List.length_map] at hvu
    refine SatC.region ?_
    refine SatL.pu (RunV.assign rfl) rfl ?_
    refine SatL.nil (SatE.thenC ?_)
    refine SatC.block ?_
    refine SatC.loopK (G := Nat × Value × List (Nat × Obj)) (V := fun ⟨j, v1, B1⟩ => [(9, .int .i64 (j : Int))]) (Cn := [(0, _), (2, _), (6, _), (7, _)]) (I := fun ⟨j, v1, B1⟩ w' => j ≤ (idsS nd ss).length ∧ Sl 35 4 v1 ((delIds ((idsS nd ss).take j) ss).map sc) B1 ∧ St w X (UB ++ ((b, C 53 (rt most v1 (lastS last ix ((idsS nd ss).take j)))) :: B1)) w') (μ := fun ⟨j, v1, B1⟩ => (idsS nd ss).length - j) (0, v, B) ?_ (by repeat constructor) ?_
    · exact ⟨Nat.zero_le _, by rw [show delIds ((idsS nd ss).take 0) ss = ss from List.filter_eq_self.2 (fun x _ => by simp)]; exact hsl, hS⟩
    clear hS
    rintro ⟨j, v1, B1⟩ w2 ⟨hj, hs1, hS⟩
    refine SatC.weak (e' := [(0, _), (2, _), (6, _), (7, _), (9, _)]) (by repeat constructor) ?_
    refine SatC.seq ?_
    refine SatC.seq ?_
    refine SatC.region ?_
    refine SatL.pu (RunV.move rfl) rfl ?_
    refine SatL.pu (RunV.move rfl) rfl ?_
    refine SatL.pu (RunV.lenR hvu rfl rfl) rfl ?_
    refine SatL.pu (RunV.lss rfl rfl) rfl ?_
    refine SatL.nil (SatE.thenC ?_)
    refine SatC.cond rfl (fun h2 => ?_) (fun h2 => ?_)
    · (try simp only [cx, ne_eq] at h2)
      try (exfalso; (first | omega | exact h2 trivial | contradiction); done)
      all_goals
      refine SatC.skip (SatE.thenC ?_)
      refine SatC.seq ?_
      refine SatC.block ?_
      obtain ⟨d, hd⟩ := get_some (idsS nd ss) j (by omega)
      have hld : (delIds ((idsS nd ss).take j) ss).length ≤ 100 := Nat.le_trans (List.length_filter_le ..) hl
      refine SatC.region ?_
      refine SatL.pu (RunV.move rfl) rfl ?_
      refine SatL.pu (RunV.move rfl) rfl ?_
      refine SatL.pu (RunV.move rfl) rfl ?_
      refine SatL.pu (RunV.indexR hvu rfl rfl rfl (by omega) (by omega) rfl) rfl ?_
      refine SatL.pu (RunV.loadR1z (hu.rd hS (by repeat constructor)) rfl rfl (map_get hd) rfl) rfl ?_
      refine SatL.pu (RunV.move rfl) rfl ?_
      refine SatL.op rfl (OpW.enter rfl rfl rfl (rfl) (close_ref d ix (hS.ownT (A := (b, C 53 (rt most v1 (lastS last ix ((idsS nd ss).take j)))) :: B1) (by repeat constructor)) hs1 hld) ?_)
      rintro r3 w3 ⟨rfl, v2, B2, hsl2, h⟩
      replace hS := hS.callT (A := (b, C 53 (rt most v1 (lastS last ix ((idsS nd ss).take j)))) :: B1) (by repeat constructor) h
      rw [close_ids hw hd] at hsl2 hS
      refine SatL.nil (SatE.blk_normal (SatE.thenC ?_))
      refine SatC.region ?_
      refine SatL.pu (RunV.move rfl) rfl ?_
      refine SatL.pu (RunV.add rfl rfl (by first | exact wrapI64 (by omega) | rfl)) rfl ?_
      refine SatL.pu (RunV.assign rfl) rfl ?_
      refine SatL.nil ?_
      refine SatE.again ((j + 1, v2, B2)) ?_ (by first | omega | (dsimp only; omega)) (by repeat constructor)
      refine ⟨by omega, hsl2, ?_⟩
      rw [List.take_add_one, hd, Option.toList_some, lastS_snoc]
      exact hS.sel (by repeat constructor)
    · (try simp only [cx, ne_eq] at h2)
      try (exfalso; (first | omega | exact h2 trivial | contradiction); done)
      all_goals
      refine SatC.exit (SatE.then_exit (SatE.then_exit (SatE.blk_exit (SatE.thenC ?_))))
      refine SatC.seq ?_
      refine SatC.region ?_
      refine SatL.pu (RunV.move rfl) rfl ?_
      refine SatL.pu (RunV.assign rfl) rfl ?_
      refine SatL.nil (SatE.thenC ?_)
      refine SatC.ret ?_
      refine SatE.ret1 rfl rfl ?_
      obtain rfl : j = (idsS nd ss).length := by omega
      rw [List.take_length] at hs1 hS
      rw [delIds_end hw] at hs1
      exact ⟨UB, hu, v1, B1, hs1, hS.sel (by repeat constructor)⟩
end
end Go.Proofs.Ythbfigkfelfhcaa
