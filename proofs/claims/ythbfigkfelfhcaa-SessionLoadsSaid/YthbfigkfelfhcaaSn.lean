/- Sessions, walked. -/
import Derived.Test.YthbfigkfelfhcaaSp
import Derived.Test.YthbfigkfelfhcaaK22
set_option linter.unusedSimpArgs false
set_option linter.unusedVariables false
set_option maxRecDepth 100000
set_option maxHeartbeats 8000000
namespace Go.Proofs.Ythbfigkfelfhcaa
open Go.RowKit
@[reducible] def sn (b : Nat) : List Value := [.pointer (some ⟨b, 0, none⟩)]
/-- The sessions' blocks. -/
@[reducible] def SO (b0 b : Nat) (most last : Int) (v : Value) (B : List (Nat × Obj)) : List (Nat × Obj) := (b0, C 59 (sn b)) :: (b, C 78 (tc most v last)) :: B
theorem right_any (n : Int) (w : World) : Ret Try.prog 29 #[.int .i64 n] w fun u w' => u = .bool (decide (0 ≤ n ∧ n < 8)) ∧ St w [] [] w' := by
  have hS := St.init0 w
  refine Ret.enter Try.func29 Try.ntmps29 rfl rfl ?_
  simp only [argEnv, Nat.reduceAdd]
  refine SatC.seq ?_
  refine SatC.region ?_
  refine SatL.pu (RunV.assign rfl) rfl ?_
  refine SatL.nil (SatE.thenC ?_)
  refine SatC.seq ?_
  refine SatC.region ?_
  refine SatL.pu (RunV.move rfl) rfl ?_
  refine SatL.pu (RunV.geq rfl rfl) rfl ?_
  refine SatL.pu (RunV.move rfl) rfl ?_
  refine SatL.guard rfl rfl rfl (fun h1 => ?_) (fun h1 => ?_)
  · (try simp only [cx, ne_eq] at h1)
    try (exfalso; (first | omega | exact h1 trivial | contradiction); done)
    all_goals
    refine SatL.pu (RunV.move rfl) rfl ?_
    refine SatL.guard_y rfl rfl ?_
    refine SatL.pu (RunV.lss rfl rfl) rfl ?_
    refine SatL.pu (RunV.pick_t rfl rfl) rfl ?_
    refine SatL.pu (RunV.assign rfl) rfl ?_
    refine SatL.nil (SatE.thenC ?_)
    refine SatC.ret ?_
    refine SatE.ret1 rfl rfl ?_
    refine ⟨congrArg Value.bool ?_, hS⟩
    first | (rw [Bool.eq_iff_iff]; simp only [decide_eq_true_eq, decide_eq_false_iff_not, Bool.not_true, Bool.not_false, Bool.not_eq_true', Bool.not_eq_false', beq_iff_eq, beq_eq_false_iff_ne, bne_iff_ne, ne_eq, Int.not_lt, Int.not_le, Decidable.not_not, Bool.and_eq_true, Bool.or_eq_true, Bool.false_eq_true, false_iff, true_iff, iff_false, iff_true] <;> omega) | (simp_all; done) | (simp_all <;> omega)
  · (try simp only [cx, ne_eq] at h1)
    try (exfalso; (first | omega | exact h1 trivial | contradiction); done)
    all_goals
    refine SatL.guard_n rfl rfl rfl rfl ?_
    refine SatL.pu (RunV.pick_f rfl rfl) rfl ?_
    refine SatL.pu (RunV.assign rfl) rfl ?_
    refine SatL.nil (SatE.thenC ?_)
    refine SatC.ret ?_
    refine SatE.ret1 rfl rfl ?_
    refine ⟨congrArg Value.bool ?_, hS⟩
    first | (rw [Bool.eq_iff_iff]; simp only [decide_eq_true_eq, decide_eq_false_iff_not, Bool.not_true, Bool.not_false, Bool.not_eq_true', Bool.not_eq_false', beq_iff_eq, beq_eq_false_iff_ne, bne_iff_ne, ne_eq, Int.not_lt, Int.not_le, Decidable.not_not, Bool.and_eq_true, Bool.or_eq_true, Bool.false_eq_true, false_iff, true_iff, iff_false, iff_true] <;> omega) | (simp_all; done) | (simp_all <;> omega)
section
variable {b0 b : Nat} {most last : Int} {v : Value} {ss : List Ses} {B : List (Nat × Obj)} {w : World}
theorem snone_any (hown : Own w (SO b0 b most last v B)) : Ret Try.prog 26 #[.pointer (some ⟨b0, 0, none⟩)] w fun u w' => u = .bool false ∧ St w [] [] w' := by
  have hS := St.init hown
  refine Ret.enter Try.func26 Try.ntmps26 rfl rfl ?_
  simp only [argEnv, Nat.reduceAdd]
  refine SatC.seq ?_
  refine SatC.region ?_
  refine SatL.pu (RunV.assign rfl) rfl ?_
  refine SatL.nil (SatE.thenC ?_)
  refine SatC.seq ?_
  refine SatC.region ?_
  refine SatL.pu (RunV.move rfl) rfl ?_
  refine SatL.pu (RunV.eqlPtrNil rfl rfl rfl) rfl ?_
  refine SatL.pu (RunV.move rfl) rfl ?_
  refine SatL.guard rfl rfl rfl (fun h1 => ?_) (fun h1 => ?_)
  · (try simp only [cx, ne_eq] at h1)
    try (exfalso; (first | omega | exact h1 trivial | contradiction); done)
    all_goals
    refine SatL.pu (RunV.move rfl) rfl ?_
    refine SatL.guard_y rfl rfl ?_
    first | refine SatL.pu (RunV.nil_ptr rfl) rfl ?_ | refine SatL.pu (RunV.nil_func rfl) rfl ?_ | refine SatL.pu (RunV.nil_yield rfl) rfl ?_
    refine SatL.guard_y rfl rfl ?_
    first | refine SatL.pu (RunV.fieldAddrL rfl rfl rfl) rfl ?_ | refine SatL.pu (RunV.fieldAddr rfl rfl rfl) rfl ?_
    refine SatL.guard_y rfl rfl ?_
    refine SatL.pu (RunV.load1 hS rfl rfl (by repeat constructor) rfl) rfl ?_
    refine SatL.guard_y rfl rfl ?_
    refine SatL.pu (RunV.eqlPtrNil rfl rfl rfl) rfl ?_
    refine SatL.pu (RunV.pick_f rfl rfl) rfl ?_
    refine SatL.pu (RunV.assign rfl) rfl ?_
    refine SatL.nil (SatE.thenC ?_)
    refine SatC.ret ?_
    refine SatE.ret1 rfl rfl ?_
    exact ⟨rfl, St.ro hown hS .all⟩
  · (try simp only [cx, ne_eq] at h1)
    try (exfalso; (first | omega | exact h1 trivial | contradiction); done)
    all_goals
    refine SatL.guard_n rfl rfl rfl rfl ?_
    refine SatL.guard_n rfl rfl rfl rfl ?_
    refine SatL.guard_n rfl rfl rfl rfl ?_
    refine SatL.guard_n rfl rfl rfl rfl ?_
    refine SatL.pu (RunV.pick_t rfl rfl) rfl ?_
    refine SatL.pu (RunV.assign rfl) rfl ?_
    refine SatL.nil (SatE.thenC ?_)
    refine SatC.ret ?_
    refine SatE.ret1 rfl rfl ?_
    exact ⟨rfl, St.ro hown hS .all⟩
theorem new_any (n : Int) (w : World) : Ret Try.prog 7 #[.int .i64 n] w fun u w' => ∃ b0 b, u = .pointer (some ⟨b0, 0, none⟩) ∧ St w [] (SO b0 b (min (max n 1) 64) 0 (.slice none 0 0) []) w' := by
  have hS := St.init0 w
  refine Ret.enter Try.func7 Try.ntmps7 rfl rfl ?_
  simp only [argEnv, Nat.reduceAdd]
  refine SatC.seq ?_
  refine SatC.region ?_
  refine SatL.pu (RunV.assign rfl) rfl ?_
  refine SatL.nil (SatE.thenC ?_)
  refine SatC.seq ?_
  refine SatC.region ?_
  refine SatL.pu (RunV.move rfl) rfl ?_
  refine SatL.op rfl (OpW.enter rfl rfl rfl (rfl) (tnew_any n _) ?_)
  rintro r1 w1 ⟨b, rfl, h⟩
  replace hS := hS.callT (A := []) (by repeat constructor) h
  refine SatL.pu (RunV.build rfl (by simp [go_sem]; try rfl)) rfl ?_
  refine SatL.op rfl (OpW.box hS rfl rfl (by repeat constructor) ?_)
  clear hS
  intro b6 w2 _ hS
  refine SatL.pu (RunV.assign rfl) rfl ?_
  refine SatL.nil (SatE.thenC ?_)
  refine SatC.ret ?_
  refine SatE.ret1 rfl rfl ?_
  exact ⟨_, b, rfl, hS.sel (by repeat constructor)⟩
theorem last_any' (hm : ¬ most = 0) (hown : Own w (SO b0 b most last v B)) : Ret Try.prog 15 #[.pointer (some ⟨b0, 0, none⟩)] w fun u w' => u = .int .u64 last ∧ St w [] [] w' := by
  have hS := St.init hown
  refine Ret.enter Try.func15 Try.ntmps15 rfl rfl ?_
  simp only [argEnv, Nat.reduceAdd]
  refine SatC.seq ?_
  refine SatC.region ?_
  refine SatL.pu (RunV.assign rfl) rfl ?_
  refine SatL.nil (SatE.thenC ?_)
  refine SatC.seq ?_
  refine SatC.seq ?_
  refine SatC.region ?_
  refine SatL.pu (RunV.move rfl) rfl ?_
  refine SatL.op rfl (OpW.enter rfl rfl rfl (rfl) (snone_any (hS.ownT (A := SO b0 b most last v B) (by repeat constructor))) ?_)
  rintro r1 w1 ⟨rfl, h⟩
  replace hS := St.callN hS h
  refine SatL.nil (SatE.thenC ?_)
  refine SatC.cond rfl (fun h1 => ?_) (fun h1 => ?_)
  · (try simp only [cx, ne_eq] at h1)
    try (exfalso; (first | omega | exact h1 trivial | contradiction); done)
    all_goals
    refine SatC.seq ?_
    refine SatC.region ?_
    refine SatL.pu (RunV.assign rfl) rfl ?_
    refine SatL.nil (SatE.thenC ?_)
    refine SatC.ret (SatE.then_ret ?_)
    refine SatE.ret1 rfl rfl ?_
    exact ⟨rfl, St.ro hown hS .all⟩
  · (try simp only [cx, ne_eq] at h1)
    try (exfalso; (first | omega | exact h1 trivial | contradiction); done)
    all_goals
    refine SatC.skip (SatE.thenC ?_)
    refine SatC.seq ?_
    refine SatC.region ?_
    refine SatL.pu (RunV.move rfl) rfl ?_
    first | refine SatL.pu (RunV.nil_ptr rfl) rfl ?_ | refine SatL.pu (RunV.nil_func rfl) rfl ?_ | refine SatL.pu (RunV.nil_yield rfl) rfl ?_
    first | refine SatL.pu (RunV.fieldAddrL rfl rfl rfl) rfl ?_ | refine SatL.pu (RunV.fieldAddr rfl rfl rfl) rfl ?_
    refine SatL.pu (RunV.load1 hS rfl rfl (by repeat constructor) rfl) rfl ?_
    refine SatL.op rfl (OpW.enter rfl rfl rfl (rfl) (last_any (hS.ownT (A := (b, C 78 (tc most v last)) :: B) (by repeat constructor)) hm) ?_)
    rintro r2 w2 ⟨rfl, h⟩
    replace hS := St.callN hS h
    refine SatL.pu (RunV.assign rfl) rfl ?_
    refine SatL.nil (SatE.thenC ?_)
    refine SatC.ret ?_
    refine SatE.ret1 rfl rfl ?_
    exact ⟨rfl, St.ro hown hS .all⟩
theorem copyS_any (hm : ¬ most = 0) (hsl : Sl 73 7 v ((ss.map rowOf).map tr) B) (hl : ss.length ≤ 100000) (hown : Own w (SO b0 b most last v B)) : Ret Try.prog 22 #[.pointer (some ⟨b0, 0, none⟩)] w fun u w' => ∃ c0 c cv CB, u = .pointer (some ⟨c0, 0, none⟩) ∧ Sl 73 7 cv ((ss.map rowOf).map tr) CB ∧ St w [] (SO c0 c most last cv CB) w' := by
  have hS := St.init hown
  refine Ret.enter Try.func22 Try.ntmps22 rfl rfl ?_
  simp only [argEnv, Nat.reduceAdd]
  refine SatC.seq ?_
  refine SatC.region ?_
  refine SatL.pu (RunV.assign rfl) rfl ?_
  refine SatL.nil (SatE.thenC ?_)
  refine SatC.seq ?_
  refine SatC.seq ?_
  refine SatC.region ?_
  refine SatL.pu (RunV.move rfl) rfl ?_
  refine SatL.op rfl (OpW.enter rfl rfl rfl (rfl) (snone_any (hS.ownT (A := SO b0 b most last v B) (by repeat constructor))) ?_)
  rintro r1 w1 ⟨rfl, h⟩
  replace hS := St.callN hS h
  refine SatL.nil (SatE.thenC ?_)
  refine SatC.cond rfl (fun h1 => ?_) (fun h1 => ?_)
  · (try simp only [cx, ne_eq] at h1)
    try (exfalso; (first | omega | exact h1 trivial | contradiction); done)
    all_goals
    refine SatC.seq ?_
    refine SatC.region ?_
    refine SatL.pu (RunV.assign rfl) rfl ?_
    refine SatL.nil (SatE.thenC ?_)
    refine SatC.ret (SatE.then_ret ?_)
    refine SatE.ret1 rfl rfl ?_
    exact ⟨_, cb, cv, CB, rfl, hslc, St.roL hown (hS.sel (R := SO b0 b most last v B ++ SO b11 cb most last cv CB) (by repeat constructor)) .here⟩
  · (try simp only [cx, ne_eq] at h1)
    try (exfalso; (first | omega | exact h1 trivial | contradiction); done)
    all_goals
    refine SatC.skip (SatE.thenC ?_)
    refine SatC.seq ?_
    refine SatC.region ?_
    refine SatL.pu (RunV.move rfl) rfl ?_
    first | refine SatL.pu (RunV.nil_ptr rfl) rfl ?_ | refine SatL.pu (RunV.nil_func rfl) rfl ?_ | refine SatL.pu (RunV.nil_yield rfl) rfl ?_
    first | refine SatL.pu (RunV.fieldAddrL rfl rfl rfl) rfl ?_ | refine SatL.pu (RunV.fieldAddr rfl rfl rfl) rfl ?_
    refine SatL.pu (RunV.load1 hS rfl rfl (by repeat constructor) rfl) rfl ?_
    refine SatL.op rfl (OpW.enter rfl rfl rfl (rfl) (copy_any hsl (by rw [List.length_map]; omega) (hS.ownT (A := (b, C 78 (tc most v last)) :: B) (by repeat constructor)) hm) ?_)
    rintro r2 w2 ⟨cb, cv, CB, rfl, hslc, h⟩
    replace hS := hS.call0 h
    refine SatL.pu (RunV.build rfl (by simp [go_sem]; try rfl)) rfl ?_
    refine SatL.op rfl (OpW.box hS rfl rfl (by repeat constructor) ?_)
    clear hS
    intro b11 w3 _ hS
    refine SatL.pu (RunV.assign rfl) rfl ?_
    refine SatL.nil (SatE.thenC ?_)
    refine SatC.ret ?_
    refine SatE.ret1 rfl rfl ?_
    exact ⟨_, cb, cv, CB, rfl, hslc, St.roL hown (hS.sel (R := SO b0 b most last v B ++ SO b11 cb most last cv CB) (by repeat constructor)) .here⟩
theorem getS_any (id : Int) (hid : 0 ≤ id ∧ id < 18446744073709551616) (hw : WfS ss) (hm : ¬ most = 0) (hsl : Sl 73 7 v ((ss.map rowOf).map tr) B) (hl : ss.length ≤ 100000) (hown : Own w (SO b0 b most last v B)) :
    Ret Try.prog 23 #[.pointer (some ⟨b0, 0, none⟩), .int .u64 id] w fun u w' => u = .tuple #[sv (sget ss id).1, .bool (sget ss id).2] ∧ St w [] [] w' := by
  have hS := St.init hown
  refine Ret.enter Try.func23 Try.ntmps23 rfl rfl ?_
  simp only [argEnv, Nat.reduceAdd]
  have hgr := getF_rows hw hid
  have hmem := fun h => sget_mem (ss := ss) (id := id) h
  have hno := fun h => sget_no (ss := ss) (id := id) h
  generalize hF : sget ss id = F at hgr hmem hno ⊢
  generalize hG : (if F.2 = true then rowOf F.1 else zr) = G at hgr
  refine SatC.seq ?_
  refine SatC.region ?_
  refine SatL.op rfl (OpW.alloc hS rfl rfl (by repeat constructor) ?_)
  clear hS
  intro b4 w1 _ hS
  refine SatL.pu (RunV.assign rfl) rfl ?_
  refine SatL.nil (SatE.thenC ?_)
  refine SatC.seq ?_
  refine SatC.seq ?_
  refine SatC.region ?_
  refine SatL.pu (RunV.move rfl) rfl ?_
  refine SatL.op rfl (OpW.enter rfl rfl rfl (rfl) (snone_any (hS.ownT (A := SO b0 b most last v B) (by repeat constructor))) ?_)
  rintro r2 w2 ⟨rfl, h⟩
  replace hS := St.callN hS h
  refine SatL.nil (SatE.thenC ?_)
  refine SatC.cond rfl (fun h1 => ?_) (fun h1 => ?_)
  · (try simp only [cx, ne_eq] at h1)
    try (exfalso; (first | omega | exact h1 trivial | contradiction); done)
    all_goals
    refine SatC.seq ?_
    refine SatC.region ?_
    refine SatL.pu (RunV.build rfl (by simp [go_sem]; try rfl)) rfl ?_
    refine SatL.op rfl (OpW.store hS rfl rfl (by repeat constructor) (by repeat constructor) (by repeat constructor) rfl rfl ?_)
    clear hS
    intro w3 hS
    refine SatL.pu (RunV.assign rfl) rfl ?_
    refine SatL.nil (SatE.thenC ?_)
    refine SatC.ret (SatE.then_ret ?_)
    refine SatE.retG2 hS rfl (.cellN rfl rfl (by repeat constructor) (by repeat constructor)) (.tmp rfl) ?_
    first
    | exact ⟨by rw [(hno (by assumption)).1, show F.2 = false from by assumption]; rfl, St.ro hown (hS.sel (R := SO b0 b most last v B) (by repeat constructor)) .all⟩
    | exact ⟨by rw [show F.2 = true from by assumption, show sv F.1 = .agg #[.int .u64 F.1.id, .int .i64 F.1.nd, .int .u64 F.1.id, .int .u64 F.1.id] from by rw [sv, hz.2.1, hz.2.2]]; rfl, St.ro hown (hS.sel (R := SO b0 b most last v B) (by repeat constructor)) .all⟩
  · (try simp only [cx, ne_eq] at h1)
    try (exfalso; (first | omega | exact h1 trivial | contradiction); done)
    all_goals
    refine SatC.skip (SatE.thenC ?_)
    refine SatC.seq ?_
    refine SatC.drawnT 13 hS (hS) (by kernel_rfl) ?_
    clear hS
    intro w3 hh hS hD
    refine SatD.tk 0 rfl hD (fun _ hw => RunV.move rfl) ?_
    first | refine SatD.tk 1 rfl hD (fun _ hw => RunV.nil_ptr rfl) ?_ | refine SatD.tk 1 rfl hD (fun _ hw => RunV.nil_func rfl) ?_ | refine SatD.tk 1 rfl hD (fun _ hw => RunV.nil_yield rfl) ?_
    first | refine SatD.tk 2 rfl hD (fun _ hw => RunV.fieldAddrL rfl rfl rfl) ?_ | refine SatD.tk 2 rfl hD (fun _ hw => RunV.fieldAddr rfl rfl rfl) ?_
    refine SatD.tk 3 rfl hD (fun _ hw => RunV.load1 hw rfl rfl (by repeat constructor) rfl) ?_
    refine SatD.tk 4 rfl hD (fun _ hw => RunV.move rfl) ?_
    apply SatD.join1
    · intro hK
      refine SatD.effs [5, 10] (by kernel_rfl) ⟨⟨_, rfl, rfl, OpW.enter rfl rfl rfl (rfl) (key_any _ (by assumption) _) ?_⟩, ⟨_, rfl, rfl, OpW.alloc hS rfl rfl (by repeat constructor) ?_⟩, trivial⟩
      · skip
        rintro r4 w4 ⟨rfl, h⟩
        replace hS := St.callN hS h
        refine keepS (hS.sel (by repeat constructor)) (fun hD => ?_)
        refine SatD.effs [6, 10] (by kernel_rfl) ⟨⟨_, rfl, rfl, OpW.enter rfl rfl rfl (rfl) (get_tab (keyOf id) (asc_rows hw) hsl (by rw [List.length_map]; omega) (hS.ownT (A := (b, C 78 (tc most v last)) :: B) (by repeat constructor)) hm) ?_⟩, ⟨_, rfl, rfl, OpW.alloc hS rfl rfl (by repeat constructor) ?_⟩, trivial⟩
        · skip
          rintro r5 w5 ⟨rfl, h⟩
          replace hS := St.callN hS h
          rw [hgr]
          refine keepS (hS.sel (by repeat constructor)) (fun hD => ?_)
          refine SatD.tk 7 rfl hD (fun _ hw => RunV.move rfl) ?_
          refine SatD.tk 8 rfl hD (fun _ hw => RunV.extract rfl rfl) ?_
          refine SatD.tk 9 rfl hD (fun _ hw => RunV.extract rfl rfl) ?_
          refine SatD.ef 10 rfl (OpW.alloc hS rfl rfl (by repeat constructor) ?_)
          intro b6 w6 _ hS
          refine keepS (hS.sel (by repeat constructor)) (fun hD => ?_)
          refine SatD.ef 11 rfl (OpW.store hS rfl rfl (by repeat constructor) (by repeat constructor) (by repeat constructor) rfl rfl ?_)
          intro w7 hS
          refine keepS (hS.sel (by repeat constructor)) (fun hD => ?_)
          refine SatD.tk 12 rfl hD (fun _ hw => RunV.assign rfl) ?_
          refine SatD.done 0 (by kernel_rfl) ?_
          refine SatE.weak (e' := [(4, _), (5, _), (6, _), (7, _)]) (by repeat constructor) ?_
          exact hK b6 w7 hS
        · skip
          intro b6 w5 _ hS
          refine keepS (hS.sel (by repeat constructor)) (fun hD => ?_)
          refine SatD.ef 6 rfl (OpW.enter rfl rfl rfl (rfl) (get_tab (keyOf id) (asc_rows hw) hsl (by rw [List.length_map]; omega) (hS.ownT (A := (b, C 78 (tc most v last)) :: B) (by repeat constructor)) hm) ?_)
          rintro r6 w6 ⟨rfl, h⟩
          replace hS := St.callN hS h
          rw [hgr]
          refine keepS (hS.sel (by repeat constructor)) (fun hD => ?_)
          refine SatD.tk 7 rfl hD (fun _ hw => RunV.move rfl) ?_
          refine SatD.tk 8 rfl hD (fun _ hw => RunV.extract rfl rfl) ?_
          refine SatD.tk 9 rfl hD (fun _ hw => RunV.extract rfl rfl) ?_
          refine SatD.ef 11 rfl (OpW.store hS rfl rfl (by repeat constructor) (by repeat constructor) (by repeat constructor) rfl rfl ?_)
          intro w7 hS
          refine keepS (hS.sel (by repeat constructor)) (fun hD => ?_)
          refine SatD.tk 12 rfl hD (fun _ hw => RunV.assign rfl) ?_
          refine SatD.done 0 (by kernel_rfl) ?_
          refine SatE.weak (e' := [(4, _), (5, _), (6, _), (7, _)]) (by repeat constructor) ?_
          exact hK b6 w7 hS
      · skip
        intro b6 w4 _ hS
        refine keepS (hS.sel (by repeat constructor)) (fun hD => ?_)
        refine SatD.ef 5 rfl (OpW.enter rfl rfl rfl (rfl) (key_any _ (by assumption) _) ?_)
        rintro r5 w5 ⟨rfl, h⟩
        replace hS := St.callN hS h
        refine keepS (hS.sel (by repeat constructor)) (fun hD => ?_)
        refine SatD.ef 6 rfl (OpW.enter rfl rfl rfl (rfl) (get_tab (keyOf id) (asc_rows hw) hsl (by rw [List.length_map]; omega) (hS.ownT (A := (b, C 78 (tc most v last)) :: B) (by repeat constructor)) hm) ?_)
        rintro r6 w6 ⟨rfl, h⟩
        replace hS := St.callN hS h
        rw [hgr]
        refine keepS (hS.sel (by repeat constructor)) (fun hD => ?_)
        refine SatD.tk 7 rfl hD (fun _ hw => RunV.move rfl) ?_
        refine SatD.tk 8 rfl hD (fun _ hw => RunV.extract rfl rfl) ?_
        refine SatD.tk 9 rfl hD (fun _ hw => RunV.extract rfl rfl) ?_
        refine SatD.ef 11 rfl (OpW.store hS rfl rfl (by repeat constructor) (by repeat constructor) (by repeat constructor) rfl rfl ?_)
        intro w7 hS
        refine keepS (hS.sel (by repeat constructor)) (fun hD => ?_)
        refine SatD.tk 12 rfl hD (fun _ hw => RunV.assign rfl) ?_
        refine SatD.done 0 (by kernel_rfl) ?_
        refine SatE.weak (e' := [(4, _), (5, _), (6, _), (7, _)]) (by repeat constructor) ?_
        exact hK b6 w7 hS
    intro b6 w54 hS
    refine SatE.thenC ?_
    refine SatC.seq ?_
    refine SatC.seq ?_
    refine SatC.region ?_
    refine SatL.pu (RunV.move rfl) rfl ?_
    refine SatL.pu (RunV.not rfl) rfl ?_
    refine SatL.nil (SatE.thenC ?_)
    refine SatC.cond rfl (fun h2 => ?_) (fun h2 => ?_)
    · (try simp only [cx, ne_eq] at h2)
      try (exfalso; (first | omega | exact h2 trivial | contradiction); done)
      all_goals
      refine SatC.seq ?_
      refine SatC.region ?_
      refine SatL.pu (RunV.build rfl (by simp [go_sem]; try rfl)) rfl ?_
      refine SatL.op rfl (OpW.store hS rfl rfl (by repeat constructor) (by repeat constructor) (by repeat constructor) rfl rfl ?_)
      clear hS
      intro w55 hS
      refine SatL.pu (RunV.assign rfl) rfl ?_
      refine SatL.nil (SatE.thenC ?_)
      refine SatC.ret (SatE.then_ret ?_)
      refine SatE.retG2 hS rfl (.cellN rfl rfl (by repeat constructor) (by repeat constructor)) (.tmp rfl) ?_
      first
      | exact ⟨by rw [(hno (by assumption)).1, show F.2 = false from by assumption]; rfl, St.ro hown (hS.sel (R := SO b0 b most last v B) (by repeat constructor)) .all⟩
      | exact ⟨by rw [show F.2 = true from by assumption, show sv F.1 = .agg #[.int .u64 F.1.id, .int .i64 F.1.nd, .int .u64 F.1.id, .int .u64 F.1.id] from by rw [sv, hz.2.1, hz.2.2]]; rfl, St.ro hown (hS.sel (R := SO b0 b most last v B) (by repeat constructor)) .all⟩
    · (try simp only [cx, ne_eq] at h2)
      try (exfalso; (first | omega | exact h2 trivial | contradiction); done)
      all_goals
      refine SatC.skip (SatE.thenC ?_)
      refine SatC.seq ?_
      have ht : F.2 = true := by assumption
      rw [if_pos ht] at hG
      subst hG
      have hz := hw.2 _ (hmem ht).1
      refine SatC.region ?_
      first | refine SatL.pu (RunV.fieldAddrL rfl rfl rfl) rfl ?_ | refine SatL.pu (RunV.fieldAddr rfl rfl rfl) rfl ?_
      refine SatL.pu (RunV.loadN hS rfl rfl (by repeat constructor) (by repeat constructor)) rfl ?_
      refine SatL.op rfl (OpW.alloc hS rfl rfl (by repeat constructor) ?_)
      clear hS
      intro b8 w55 _ hS
      refine SatL.op rfl (OpW.store hS rfl rfl (by repeat constructor) (by repeat constructor) (by repeat constructor) rfl rfl ?_)
      clear hS
      intro w56 hS
      refine SatL.nil (SatE.thenC ?_)
      refine SatC.seq ?_
      refine SatC.drawnT 7 hS (hS.sel (R := [(b6, C 73 (tr (rowOf F.1)))]) (by repeat constructor)) (by kernel_rfl) ?_
      clear hS
      intro w57 hh hS hD
      first | refine SatD.tk 0 rfl hD (fun _ hw => RunV.fieldAddrL rfl rfl rfl) ?_ | refine SatD.tk 0 rfl hD (fun _ hw => RunV.fieldAddr rfl rfl rfl) ?_
      refine SatD.tk 1 rfl hD (fun _ hw => RunV.load1 hw rfl rfl (by repeat constructor) rfl) ?_
      first | refine SatD.tk 2 rfl hD (fun _ hw => RunV.fieldAddrL rfl rfl rfl) ?_ | refine SatD.tk 2 rfl hD (fun _ hw => RunV.fieldAddr rfl rfl rfl) ?_
      refine SatD.tk 3 rfl hD (fun _ hw => RunV.load1 hw rfl rfl (by repeat constructor) rfl) ?_
      first | refine SatD.tk 4 rfl hD (fun _ hw => RunV.fieldAddrL rfl rfl rfl) ?_ | refine SatD.tk 4 rfl hD (fun _ hw => RunV.fieldAddr rfl rfl rfl) ?_
      refine SatD.ef 5 rfl (OpW.store hS rfl rfl (by repeat constructor) (by repeat constructor) (by repeat constructor) rfl rfl ?_)
      clear hS
      intro w58 hS
      refine keepS (hS.sel (by repeat constructor)) (fun hD => ?_)
      first | refine SatD.tk 6 rfl hD (fun _ hw => RunV.fieldAddrL rfl rfl rfl) ?_ | refine SatD.tk 6 rfl hD (fun _ hw => RunV.fieldAddr rfl rfl rfl) ?_
      refine SatD.effF (by kernel_rfl) rfl rfl (OpW.store hS rfl rfl (by repeat constructor) (by repeat constructor) (by repeat constructor) rfl rfl ?_)
      clear hS
      intro w59 hS
      refine SatD.done 0 (by kernel_rfl) (SatE.thenC ?_)
      clear hD
      refine SatC.seq ?_
      refine SatC.weak (e' := [(4, _), (5, _), (8, _)]) (by repeat constructor) ?_
      refine SatC.region ?_
      refine SatL.pu (RunV.loadN hS rfl rfl (by repeat constructor) (by repeat constructor)) rfl ?_
      refine SatL.op rfl (OpW.store hS rfl rfl (by repeat constructor) (by repeat constructor) (by repeat constructor) rfl rfl ?_)
      clear hS
      intro w60 hS
      refine SatL.pu (RunV.assign rfl) rfl ?_
      refine SatL.nil (SatE.thenC ?_)
      refine SatC.ret ?_
      refine SatE.retG2 hS rfl (.cellN rfl rfl (by repeat constructor) (by repeat constructor)) (.tmp rfl) ?_
      first
      | exact ⟨by rw [(hno (by assumption)).1, show F.2 = false from by assumption]; rfl, St.ro hown (hS.sel (R := SO b0 b most last v B) (by repeat constructor)) .all⟩
      | exact ⟨by rw [show F.2 = true from by assumption, show sv F.1 = .agg #[.int .u64 F.1.id, .int .i64 F.1.nd, .int .u64 F.1.id, .int .u64 F.1.id] from by rw [sv, hz.2.1, hz.2.2]]; rfl, St.ro hown (hS.sel (R := SO b0 b most last v B) (by repeat constructor)) .all⟩
def sputS (most last : Int) (ss : List Ses) (id nd : Int) : Int × List Ses × Int :=
  if most ≤ (ss.length : Int) then (5, ss, last) else (0, insS ⟨id, nd, id, id⟩ false ss, max last id)
theorem putS_rows {id nd : Int} (hid : 1 ≤ id ∧ id < 18446744073709551616) (hw : WfS ss) (hno : (sget ss id).2 = false) :
    (putS most last (ss.map rowOf) (keyOf id) ⟨id, nd, 0, 0⟩ id).2.1 = (sputS most last ss id nd).1 ∧ (putS most last (ss.map rowOf) (keyOf id) ⟨id, nd, 0, 0⟩ id).2.2.1 = (sputS most last ss id nd).2.1.map rowOf ∧ (putS most last (ss.map rowOf) (keyOf id) ⟨id, nd, 0, 0⟩ id).2.2.2 = (sputS most last ss id nd).2.2 := by
  have hg := getF_rows hw (id := id) ⟨by omega, hid.2⟩
  rw [hno] at hg
  unfold putS sputS
  rw [hg]
  by_cases h : most ≤ (ss.length : Int)
  · rw [if_pos ⟨rfl, by rw [List.length_map]; exact h⟩, if_pos h]
    exact ⟨rfl, rfl, rfl⟩
  · rw [if_neg (fun e => h (by have := e.2; rwa [List.length_map] at this)), if_neg h]
    refine ⟨rfl, ?_, rfl⟩
    dsimp only
    rw [if_neg (by decide)]
    exact putF_rows (x := ⟨id, nd, id, id⟩) hid hw (fun y hy => (sget_no hno).2 y hy) false
theorem putS_any (id nd : Int) (hid : 1 ≤ id ∧ id < 18446744073709551616) (hw : WfS ss) (hno : (sget ss id).2 = false) (hm : ¬ most = 0) (hsl : Sl 73 7 v ((ss.map rowOf).map tr) B) (hl : ss.length ≤ 100000) (hown : Own w (SO b0 b most last v B)) :
    Ret Try.prog 30 #[.pointer (some ⟨b0, 0, none⟩), .int .u64 id, .int .i64 nd, .int .u64 id] w fun u w' => u = .int .i64 (sputS most last ss id nd).1 ∧ ∃ v' B', Sl 73 7 v' (((sputS most last ss id nd).2.1.map rowOf).map tr) B' ∧ St w ((SO b0 b most last v B).map Prod.fst) (SO b0 b most (sputS most last ss id nd).2.2 v' B') w' := by
  have hS := St.init hown
  have hid0 : 0 ≤ id ∧ id < 18446744073709551616 := ⟨by omega, hid.2⟩
  obtain ⟨hp1, hp2, hp3⟩ := putS_rows (most := most) (last := last) (nd := nd) hid hw hno
  generalize hX : (SO b0 b most last v B).map Prod.fst = X at hS ⊢
  refine Ret.enter Try.func30 Try.ntmps30 rfl rfl ?_
  simp only [argEnv, Nat.reduceAdd]
  refine SatC.seq ?_
  refine SatC.region ?_
  refine SatL.pu (RunV.assign rfl) rfl ?_
  refine SatL.nil (SatE.thenC ?_)
  refine SatC.seq ?_
  refine SatC.drawnT 17 hS (hS.sel (R := [(b0, C 59 (sn b))]) (by repeat constructor)) (by kernel_rfl) ?_
  clear hS
  intro w1 hh hS hD
  refine SatD.tk 0 rfl hD (fun _ hw => RunV.move rfl) ?_
  first | refine SatD.tk 1 rfl hD (fun _ hw => RunV.nil_ptr rfl) ?_ | refine SatD.tk 1 rfl hD (fun _ hw => RunV.nil_func rfl) ?_ | refine SatD.tk 1 rfl hD (fun _ hw => RunV.nil_yield rfl) ?_
  first | refine SatD.tk 2 rfl hD (fun _ hw => RunV.fieldAddrL rfl rfl rfl) ?_ | refine SatD.tk 2 rfl hD (fun _ hw => RunV.fieldAddr rfl rfl rfl) ?_
  refine SatD.tk 3 rfl hD (fun _ hw => RunV.load1 hw rfl rfl (by repeat constructor) rfl) ?_
  refine SatD.tk 4 rfl hD (fun _ hw => RunV.move rfl) ?_
  refine SatD.tk 6 rfl hD (fun _ hw => RunV.move rfl) ?_
  refine SatD.tk 7 rfl hD (fun _ hw => RunV.move rfl) ?_
  refine SatD.tk 8 rfl hD (fun _ hw => RunV.build rfl (by simp [go_sem]; try rfl)) ?_
  refine SatD.tk 9 rfl hD (fun _ hw => RunV.move rfl) ?_
  refine SatD.effs [5, 14] (by kernel_rfl) ⟨⟨_, rfl, rfl, OpW.enter rfl rfl rfl (rfl) (key_any _ (by assumption) _) ?_⟩, ⟨_, rfl, rfl, OpW.alloc hS rfl rfl (by repeat constructor) ?_⟩, trivial⟩
  · skip
    rintro r2 w2 ⟨rfl, h⟩
    replace hS := St.callN hS h
    refine keepS (hS.sel (by repeat constructor)) (fun hD => ?_)
    refine SatD.effs [10, 14] (by kernel_rfl) ⟨⟨_, rfl, rfl, OpW.enter rfl rfl rfl (rfl) (put_tab (keyOf id) ⟨id, nd, 0, 0⟩ id (asc_rows hw) hsl (by rw [List.length_map]; omega) (hS.ownT (A := (b, C 78 (tc most v last)) :: B) (by repeat constructor)) hm) ?_⟩, ⟨_, rfl, rfl, OpW.alloc hS rfl rfl (by repeat constructor) ?_⟩, trivial⟩
    · skip
      rintro r3 w3 ⟨rfl, v2, B2, hsl2, h⟩
      replace hS := hS.callT (A := (b, C 78 (tc most v last)) :: B) (by repeat constructor) h
      rw [hp2] at hsl2
      rw [hp3] at hS
      refine keepS (hS.sel (by repeat constructor)) (fun hD => ?_)
      refine SatD.tk 11 rfl hD (fun _ hw => RunV.move rfl) ?_
      refine SatD.tk 12 rfl hD (fun _ hw => RunV.extract rfl rfl) ?_
      refine SatD.tk 13 rfl hD (fun _ hw => RunV.extract rfl rfl) ?_
      refine SatD.ef 14 rfl (OpW.alloc hS rfl rfl (by repeat constructor) ?_)
      clear hS
      intro b9 w4 _ hS
      refine keepS (hS.sel (by repeat constructor)) (fun hD => ?_)
      refine SatD.ef 15 rfl (OpW.store hS rfl rfl (by repeat constructor) (by repeat constructor) (by repeat constructor) rfl rfl ?_)
      clear hS
      intro w5 hS
      refine keepS (hS.sel (by repeat constructor)) (fun hD => ?_)
      refine SatD.tk 16 rfl hD (fun _ hw => RunV.assign rfl) ?_
      refine SatD.done 0 (by kernel_rfl) (SatE.thenC ?_)
      clear hD
      refine SatC.seq ?_
      refine SatC.weak (e' := [(8, _), (10, _)]) (by repeat constructor) ?_
      refine SatC.region ?_
      refine SatL.pu (RunV.move rfl) rfl ?_
      refine SatL.pu (RunV.assign rfl) rfl ?_
      refine SatL.nil (SatE.thenC ?_)
      refine SatC.ret ?_
      refine SatE.ret1 rfl rfl ?_
      exact ⟨by rw [hp1], v2, B2, hsl2, hS.sel (by repeat constructor)⟩
    · skip
      clear hS
      intro b9 w3 _ hS
      refine keepS (hS.sel (by repeat constructor)) (fun hD => ?_)
      refine SatD.ef 10 rfl (OpW.enter rfl rfl rfl (rfl) (put_tab (keyOf id) ⟨id, nd, 0, 0⟩ id (asc_rows hw) hsl (by rw [List.length_map]; omega) (hS.ownT (A := (b, C 78 (tc most v last)) :: B) (by repeat constructor)) hm) ?_)
      rintro r4 w4 ⟨rfl, v2, B2, hsl2, h⟩
      replace hS := hS.callT (A := (b, C 78 (tc most v last)) :: B) (by repeat constructor) h
      rw [hp2] at hsl2
      rw [hp3] at hS
      refine keepS (hS.sel (by repeat constructor)) (fun hD => ?_)
      refine SatD.tk 11 rfl hD (fun _ hw => RunV.move rfl) ?_
      refine SatD.tk 12 rfl hD (fun _ hw => RunV.extract rfl rfl) ?_
      refine SatD.tk 13 rfl hD (fun _ hw => RunV.extract rfl rfl) ?_
      refine SatD.ef 15 rfl (OpW.store hS rfl rfl (by repeat constructor) (by repeat constructor) (by repeat constructor) rfl rfl ?_)
      clear hS
      intro w5 hS
      refine keepS (hS.sel (by repeat constructor)) (fun hD => ?_)
      refine SatD.tk 16 rfl hD (fun _ hw => RunV.assign rfl) ?_
      refine SatD.done 0 (by kernel_rfl) (SatE.thenC ?_)
      clear hD
      refine SatC.seq ?_
      refine SatC.weak (e' := [(8, _), (10, _)]) (by repeat constructor) ?_
      refine SatC.region ?_
      refine SatL.pu (RunV.move rfl) rfl ?_
      refine SatL.pu (RunV.assign rfl) rfl ?_
      refine SatL.nil (SatE.thenC ?_)
      refine SatC.ret ?_
      refine SatE.ret1 rfl rfl ?_
      exact ⟨by rw [hp1], v2, B2, hsl2, hS.sel (by repeat constructor)⟩
  · skip
    clear hS
    intro b9 w2 _ hS
    refine keepS (hS.sel (by repeat constructor)) (fun hD => ?_)
    refine SatD.ef 5 rfl (OpW.enter rfl rfl rfl (rfl) (key_any _ (by assumption) _) ?_)
    rintro r3 w3 ⟨rfl, h⟩
    replace hS := St.callN hS h
    refine keepS (hS.sel (by repeat constructor)) (fun hD => ?_)
    refine SatD.ef 10 rfl (OpW.enter rfl rfl rfl (rfl) (put_tab (keyOf id) ⟨id, nd, 0, 0⟩ id (asc_rows hw) hsl (by rw [List.length_map]; omega) (hS.ownT (A := (b, C 78 (tc most v last)) :: B) (by repeat constructor)) hm) ?_)
    rintro r4 w4 ⟨rfl, v2, B2, hsl2, h⟩
    replace hS := hS.callT (A := (b, C 78 (tc most v last)) :: B) (by repeat constructor) h
    rw [hp2] at hsl2
    rw [hp3] at hS
    refine keepS (hS.sel (by repeat constructor)) (fun hD => ?_)
    refine SatD.tk 11 rfl hD (fun _ hw => RunV.move rfl) ?_
    refine SatD.tk 12 rfl hD (fun _ hw => RunV.extract rfl rfl) ?_
    refine SatD.tk 13 rfl hD (fun _ hw => RunV.extract rfl rfl) ?_
    refine SatD.ef 15 rfl (OpW.store hS rfl rfl (by repeat constructor) (by repeat constructor) (by repeat constructor) rfl rfl ?_)
    clear hS
    intro w5 hS
    refine keepS (hS.sel (by repeat constructor)) (fun hD => ?_)
    refine SatD.tk 16 rfl hD (fun _ hw => RunV.assign rfl) ?_
    refine SatD.done 0 (by kernel_rfl) (SatE.thenC ?_)
    clear hD
    refine SatC.seq ?_
    refine SatC.weak (e' := [(8, _), (10, _)]) (by repeat constructor) ?_
    refine SatC.region ?_
    refine SatL.pu (RunV.move rfl) rfl ?_
    refine SatL.pu (RunV.assign rfl) rfl ?_
    refine SatL.nil (SatE.thenC ?_)
    refine SatC.ret ?_
    refine SatE.ret1 rfl rfl ?_
    exact ⟨by rw [hp1], v2, B2, hsl2, hS.sel (by repeat constructor)⟩
theorem open_any (nd ix : Int) (hix : 0 ≤ ix ∧ ix < 18446744073709551616) (hw : WfS ss) (hm : ¬ most = 0) (hsl : Sl 73 7 v ((ss.map rowOf).map tr) B) (hl : ss.length ≤ 100000) (hown : Own w (SO b0 b most last v B)) :
    Ret Try.prog 9 #[.pointer (some ⟨b0, 0, none⟩), .int .i64 nd, .int .u64 ix] w fun u w' => u = .tuple #[.int .u64 (openS most last ss nd ix).1.1, .int .i64 (openS most last ss nd ix).1.2] ∧ ∃ v' B', Sl 73 7 v' (((openS most last ss nd ix).2.1.map rowOf).map tr) B' ∧ St w ((SO b0 b most last v B).map Prod.fst) (SO b0 b most (openS most last ss nd ix).2.2 v' B') w' := by
  have hS := St.init hown
  generalize hX : (SO b0 b most last v B).map Prod.fst = X at hS ⊢
  refine Ret.enter Try.func9 Try.ntmps9 rfl rfl ?_
  simp only [argEnv, Nat.reduceAdd]
  generalize hA : openS most last ss nd ix = A
  unfold openS at hA
  refine SatC.seq ?_
  refine SatC.region ?_
  refine SatL.pu (RunV.assign rfl) rfl ?_
  refine SatL.pu (RunV.assign rfl) rfl ?_
  refine SatL.nil (SatE.thenC ?_)
  refine SatC.seq ?_
  refine SatC.seq ?_
  refine SatC.region ?_
  refine SatL.pu (RunV.move rfl) rfl ?_
  refine SatL.op rfl (OpW.enter rfl rfl rfl (rfl) (snone_any (hS.ownT (A := SO b0 b most last v B) (by repeat constructor))) ?_)
  rintro r1 w1 ⟨rfl, h⟩
  replace hS := St.callN hS h
  refine SatL.nil (SatE.thenC ?_)
  refine SatC.cond rfl (fun h1 => ?_) (fun h1 => ?_)
  · (try simp only [cx, ne_eq] at h1)
    try (exfalso; (first | omega | exact h1 trivial | contradiction); done)
    all_goals
    refine SatC.seq ?_
    refine SatC.region ?_
    refine SatL.pu (RunV.assign rfl) rfl ?_
    refine SatL.pu (RunV.assign rfl) rfl ?_
    refine SatL.nil (SatE.thenC ?_)
    refine SatC.ret (SatE.then_ret ?_)
    refine SatE.ret2 rfl rfl rfl ?_
    first
    | (rw [if_pos (.inl (by assumption))] at hA; subst hA; exact ⟨rfl, v, B, hsl, hS.sel (by repeat constructor)⟩)
    | (rw [if_pos (.inr (by assumption))] at hA; subst hA; exact ⟨rfl, v, B, hsl, hS.sel (by repeat constructor)⟩)
    | (rw [if_neg (by rintro (e | e); exact e (by assumption); omega), if_pos (by assumption)] at hA; subst hA; exact ⟨rfl, v, B, hsl, hS.sel (by repeat constructor)⟩)
    | (rw [if_neg (by rintro (e | e); exact e (by assumption); omega), if_neg (by simp_all)] at hA
       unfold sputS at *
       by_cases hle : most ≤ (ss.length : Int)
       · simp only [if_pos hle] at *
         subst hA
         first | exact ⟨rfl, v2, B2, hsl2, hS.sel (by repeat constructor)⟩ | (exfalso; first | omega | (dsimp only at *; omega) | (simp_all; done))
       · simp only [if_neg hle] at *
         subst hA
         first | exact ⟨rfl, v2, B2, hsl2, hS.sel (by repeat constructor)⟩ | (exfalso; first | omega | (dsimp only at *; omega) | (simp_all; done)))
  · (try simp only [cx, ne_eq] at h1)
    try (exfalso; (first | omega | exact h1 trivial | contradiction); done)
    all_goals
    refine SatC.skip (SatE.thenC ?_)
    refine SatC.seq ?_
    refine SatC.seq ?_
    refine SatC.region ?_
    refine SatL.pu (RunV.move rfl) rfl ?_
    refine SatL.op rfl (OpW.enter rfl rfl rfl (rfl) (right_any _ _) ?_)
    rintro r2 w2 ⟨rfl, h⟩
    replace hS := St.callN hS h
    refine SatL.pu (RunV.not rfl) rfl ?_
    refine SatL.pu (RunV.move rfl) rfl ?_
    refine SatL.guard rfl rfl rfl (fun h2 => ?_) (fun h2 => ?_)
    · (try simp only [cx, ne_eq] at h2)
      try (exfalso; (first | omega | exact h2 trivial | contradiction); done)
      all_goals
      refine SatL.pu (RunV.move rfl) rfl ?_
      refine SatL.guard_y rfl rfl ?_
      refine SatL.pu (RunV.eql rfl rfl) rfl ?_
      refine SatL.pu (RunV.pick_f rfl rfl) rfl ?_
      refine SatL.nil (SatE.thenC ?_)
      refine SatC.cond rfl (fun h3 => ?_) (fun h3 => ?_)
      · (try simp only [cx, ne_eq] at h3)
        try (exfalso; (first | omega | exact h3 trivial | contradiction); done)
        all_goals
        refine SatC.seq ?_
        refine SatC.weak (e' := [(6, _), (7, _)]) (by repeat constructor) ?_
        refine SatC.region ?_
        refine SatL.pu (RunV.assign rfl) rfl ?_
        refine SatL.pu (RunV.assign rfl) rfl ?_
        refine SatL.nil (SatE.thenC ?_)
        refine SatC.ret (SatE.then_ret ?_)
        refine SatE.ret2 rfl rfl rfl ?_
        first
        | (rw [if_pos (.inl (by assumption))] at hA; subst hA; exact ⟨rfl, v, B, hsl, hS.sel (by repeat constructor)⟩)
        | (rw [if_pos (.inr (by assumption))] at hA; subst hA; exact ⟨rfl, v, B, hsl, hS.sel (by repeat constructor)⟩)
        | (rw [if_neg (by rintro (e | e); exact e (by assumption); omega), if_pos (by assumption)] at hA; subst hA; exact ⟨rfl, v, B, hsl, hS.sel (by repeat constructor)⟩)
        | (rw [if_neg (by rintro (e | e); exact e (by assumption); omega), if_neg (by simp_all)] at hA
           unfold sputS at *
           by_cases hle : most ≤ (ss.length : Int)
           · simp only [if_pos hle] at *
             subst hA
             first | exact ⟨rfl, v2, B2, hsl2, hS.sel (by repeat constructor)⟩ | (exfalso; first | omega | (dsimp only at *; omega) | (simp_all; done))
           · simp only [if_neg hle] at *
             subst hA
             first | exact ⟨rfl, v2, B2, hsl2, hS.sel (by repeat constructor)⟩ | (exfalso; first | omega | (dsimp only at *; omega) | (simp_all; done)))
      · (try simp only [cx, ne_eq] at h3)
        try (exfalso; (first | omega | exact h3 trivial | contradiction); done)
        all_goals
        refine SatC.skip (SatE.thenC ?_)
        refine SatC.seq ?_
        refine SatC.seq ?_
        refine SatC.region ?_
        refine SatL.pu (RunV.move rfl) rfl ?_
        refine SatL.pu (RunV.move rfl) rfl ?_
        refine SatL.op rfl (OpW.enter rfl rfl rfl (rfl) (getS_any ix hix hw hm hsl hl (hS.ownT (A := SO b0 b most last v B) (by repeat constructor))) ?_)
        rintro r3 w3 ⟨rfl, h⟩
        replace hS := St.callN hS h
        refine SatL.pu (RunV.move rfl) rfl ?_
        refine SatL.pu (RunV.extract rfl rfl) rfl ?_
        refine SatL.pu (RunV.extract rfl rfl) rfl ?_
        refine SatL.op rfl (OpW.alloc hS rfl rfl (by repeat constructor) ?_)
        clear hS
        intro b8 w4 _ hS
        refine SatL.op rfl (OpW.store hS rfl rfl (by repeat constructor) (by repeat constructor) (by repeat constructor) rfl rfl ?_)
        clear hS
        intro w5 hS
        refine SatL.pu (RunV.assign rfl) rfl ?_
        refine SatL.nil (SatE.thenC ?_)
        refine SatC.seq ?_
        refine SatC.weak (e' := [(0, _), (1, _), (2, _), (6, _), (7, _), (9, _)]) (by repeat constructor) ?_
        refine SatC.region ?_
        refine SatL.pu (RunV.move rfl) rfl ?_
        refine SatL.nil (SatE.thenC ?_)
        refine SatC.cond rfl (fun h4 => ?_) (fun h4 => ?_)
        · (try simp only [cx, ne_eq] at h4)
          try (exfalso; (first | omega | exact h4 trivial | contradiction); done)
          all_goals
          refine SatC.seq ?_
          refine SatC.region ?_
          refine SatL.pu (RunV.assign rfl) rfl ?_
          refine SatL.pu (RunV.assign rfl) rfl ?_
          refine SatL.nil (SatE.thenC ?_)
          refine SatC.ret (SatE.then_ret ?_)
          refine SatE.ret2 rfl rfl rfl ?_
          first
          | (rw [if_pos (.inl (by assumption))] at hA; subst hA; exact ⟨rfl, v, B, hsl, hS.sel (by repeat constructor)⟩)
          | (rw [if_pos (.inr (by assumption))] at hA; subst hA; exact ⟨rfl, v, B, hsl, hS.sel (by repeat constructor)⟩)
          | (rw [if_neg (by rintro (e | e); exact e (by assumption); omega), if_pos (by assumption)] at hA; subst hA; exact ⟨rfl, v, B, hsl, hS.sel (by repeat constructor)⟩)
          | (rw [if_neg (by rintro (e | e); exact e (by assumption); omega), if_neg (by simp_all)] at hA
             unfold sputS at *
             by_cases hle : most ≤ (ss.length : Int)
             · simp only [if_pos hle] at *
               subst hA
               first | exact ⟨rfl, v2, B2, hsl2, hS.sel (by repeat constructor)⟩ | (exfalso; first | omega | (dsimp only at *; omega) | (simp_all; done))
             · simp only [if_neg hle] at *
               subst hA
               first | exact ⟨rfl, v2, B2, hsl2, hS.sel (by repeat constructor)⟩ | (exfalso; first | omega | (dsimp only at *; omega) | (simp_all; done)))
        · (try simp only [cx, ne_eq] at h4)
          try (exfalso; (first | omega | exact h4 trivial | contradiction); done)
          all_goals
          refine SatC.skip (SatE.thenC ?_)
          refine SatC.seq ?_
          refine SatC.seq ?_
          refine SatC.region ?_
          refine SatL.pu (RunV.move rfl) rfl ?_
          refine SatL.pu (RunV.move rfl) rfl ?_
          refine SatL.pu (RunV.move rfl) rfl ?_
          refine SatL.pu (RunV.move rfl) rfl ?_
          refine SatL.op rfl (OpW.enter rfl rfl rfl (rfl) (putS_any ix nd ⟨by omega, hix.2⟩ hw (by assumption) hm hsl hl (hS.ownT (A := SO b0 b most last v B) (by repeat constructor))) ?_)
          rintro r6 w6 ⟨rfl, v2, B2, hsl2, h⟩
          replace hS := hS.callT (A := SO b0 b most last v B) (by repeat constructor) h
          refine SatL.pu (RunV.assign rfl) rfl ?_
          refine SatL.nil (SatE.thenC ?_)
          refine SatC.seq ?_
          refine SatC.region ?_
          refine SatL.pu (RunV.move rfl) rfl ?_
          refine SatL.pu (RunV.neq rfl rfl) rfl ?_
          refine SatL.nil (SatE.thenC ?_)
          refine SatC.cond rfl (fun h5 => ?_) (fun h5 => ?_)
          · (try simp only [cx, ne_eq] at h5)
            try (exfalso; (first | omega | exact h5 trivial | contradiction); done)
            all_goals
            refine SatC.seq ?_
            refine SatC.weak (e' := [(6, _), (7, _), (10, _)]) (by repeat constructor) ?_
            refine SatC.region ?_
            refine SatL.pu (RunV.move rfl) rfl ?_
            refine SatL.pu (RunV.assign rfl) rfl ?_
            refine SatL.pu (RunV.assign rfl) rfl ?_
            refine SatL.nil (SatE.thenC ?_)
            refine SatC.ret (SatE.then_ret ?_)
            refine SatE.ret2 rfl rfl rfl ?_
            first
            | (rw [if_pos (.inl (by assumption))] at hA; subst hA; exact ⟨rfl, v, B, hsl, hS.sel (by repeat constructor)⟩)
            | (rw [if_pos (.inr (by assumption))] at hA; subst hA; exact ⟨rfl, v, B, hsl, hS.sel (by repeat constructor)⟩)
            | (rw [if_neg (by rintro (e | e); exact e (by assumption); omega), if_pos (by assumption)] at hA; subst hA; exact ⟨rfl, v, B, hsl, hS.sel (by repeat constructor)⟩)
            | (rw [if_neg (by rintro (e | e); exact e (by assumption); omega), if_neg (by simp_all)] at hA
               unfold sputS at *
               by_cases hle : most ≤ (ss.length : Int)
               · simp only [if_pos hle] at *
                 subst hA
                 first | exact ⟨rfl, v2, B2, hsl2, hS.sel (by repeat constructor)⟩ | (exfalso; first | omega | (dsimp only at *; omega) | (simp_all; done))
               · simp only [if_neg hle] at *
                 subst hA
                 first | exact ⟨rfl, v2, B2, hsl2, hS.sel (by repeat constructor)⟩ | (exfalso; first | omega | (dsimp only at *; omega) | (simp_all; done)))
          · (try simp only [cx, ne_eq] at h5)
            try (exfalso; (first | omega | exact h5 trivial | contradiction); done)
            all_goals
            refine SatC.skip (SatE.thenC ?_)
            refine SatC.seq ?_
            refine SatC.weak (e' := [(2, _), (6, _), (7, _)]) (by repeat constructor) ?_
            refine SatC.region ?_
            refine SatL.pu (RunV.move rfl) rfl ?_
            refine SatL.pu (RunV.assign rfl) rfl ?_
            refine SatL.pu (RunV.assign rfl) rfl ?_
            refine SatL.nil (SatE.thenC ?_)
            refine SatC.ret ?_
            refine SatE.ret2 rfl rfl rfl ?_
            first
            | (rw [if_pos (.inl (by assumption))] at hA; subst hA; exact ⟨rfl, v, B, hsl, hS.sel (by repeat constructor)⟩)
            | (rw [if_pos (.inr (by assumption))] at hA; subst hA; exact ⟨rfl, v, B, hsl, hS.sel (by repeat constructor)⟩)
            | (rw [if_neg (by rintro (e | e); exact e (by assumption); omega), if_pos (by assumption)] at hA; subst hA; exact ⟨rfl, v, B, hsl, hS.sel (by repeat constructor)⟩)
            | (rw [if_neg (by rintro (e | e); exact e (by assumption); omega), if_neg (by simp_all)] at hA
               unfold sputS at *
               by_cases hle : most ≤ (ss.length : Int)
               · simp only [if_pos hle] at *
                 subst hA
                 first | exact ⟨rfl, v2, B2, hsl2, hS.sel (by repeat constructor)⟩ | (exfalso; first | omega | (dsimp only at *; omega) | (simp_all; done))
               · simp only [if_neg hle] at *
                 subst hA
                 first | exact ⟨rfl, v2, B2, hsl2, hS.sel (by repeat constructor)⟩ | (exfalso; first | omega | (dsimp only at *; omega) | (simp_all; done)))
    · (try simp only [cx, ne_eq] at h2)
      try (exfalso; (first | omega | exact h2 trivial | contradiction); done)
      all_goals
      refine SatL.guard_n rfl rfl rfl rfl ?_
      refine SatL.pu (RunV.pick_t rfl rfl) rfl ?_
      refine SatL.nil (SatE.thenC ?_)
      refine SatC.cond_t rfl ?_
      refine SatC.seq ?_
      refine SatC.weak (e' := [(6, _), (7, _)]) (by repeat constructor) ?_
      refine SatC.region ?_
      refine SatL.pu (RunV.assign rfl) rfl ?_
      refine SatL.pu (RunV.assign rfl) rfl ?_
      refine SatL.nil (SatE.thenC ?_)
      refine SatC.ret (SatE.then_ret ?_)
      refine SatE.ret2 rfl rfl rfl ?_
      first
      | (rw [if_pos (.inl (by assumption))] at hA; subst hA; exact ⟨rfl, v, B, hsl, hS.sel (by repeat constructor)⟩)
      | (rw [if_pos (.inr (by assumption))] at hA; subst hA; exact ⟨rfl, v, B, hsl, hS.sel (by repeat constructor)⟩)
      | (rw [if_neg (by rintro (e | e); exact e (by assumption); omega), if_pos (by assumption)] at hA; subst hA; exact ⟨rfl, v, B, hsl, hS.sel (by repeat constructor)⟩)
      | (rw [if_neg (by rintro (e | e); exact e (by assumption); omega), if_neg (by simp_all)] at hA
         unfold sputS at *
         by_cases hle : most ≤ (ss.length : Int)
         · simp only [if_pos hle] at *
           subst hA
           first | exact ⟨rfl, v2, B2, hsl2, hS.sel (by repeat constructor)⟩ | (exfalso; first | omega | (dsimp only at *; omega) | (simp_all; done))
         · simp only [if_neg hle] at *
           subst hA
           first | exact ⟨rfl, v2, B2, hsl2, hS.sel (by repeat constructor)⟩ | (exfalso; first | omega | (dsimp only at *; omega) | (simp_all; done)))
theorem close_any (id ix : Int) (hid : 0 ≤ id ∧ id < 18446744073709551616) (hw : WfS ss) (hm : ¬ most = 0) (hsl : Sl 73 7 v ((ss.map rowOf).map tr) B) (hl : ss.length ≤ 100000) (hown : Own w (SO b0 b most last v B)) :
    Ret Try.prog 8 #[.pointer (some ⟨b0, 0, none⟩), .int .u64 id, .int .u64 ix] w fun u w' => u = .int .i64 (closeS last ss id ix).1 ∧ ∃ v' B', Sl 73 7 v' (((closeS last ss id ix).2.1.map rowOf).map tr) B' ∧ St w ((SO b0 b most last v B).map Prod.fst) (SO b0 b most (closeS last ss id ix).2.2 v' B') w' := by
  have hS := St.init hown
  have hg := getF_rows hw hid
  have hd := dropF_rows hw hid
  have hDr : dropS last (ss.map rowOf) (keyOf id) ix = ((sget ss id).2, (closeS last ss id ix).2.1.map rowOf, (closeS last ss id ix).2.2) := by
    unfold dropS closeS
    rw [hg, hd]
    by_cases h : (sget ss id).2 = true
    · rw [if_neg (by rw [h]; decide), if_pos h, h]
    · rw [if_pos (by simpa using h), if_neg h]
      simp only [Bool.not_eq_true] at h
      rw [h]
  generalize hX : (SO b0 b most last v B).map Prod.fst = X at hS ⊢
  refine Ret.enter Try.func8 Try.ntmps8 rfl rfl ?_
  simp only [argEnv, Nat.reduceAdd]
  refine SatC.seq ?_
  refine SatC.region ?_
  refine SatL.pu (RunV.assign rfl) rfl ?_
  refine SatL.nil (SatE.thenC ?_)
  refine SatC.seq ?_
  refine SatC.seq ?_
  refine SatC.region ?_
  refine SatL.pu (RunV.move rfl) rfl ?_
  refine SatL.op rfl (OpW.enter rfl rfl rfl (rfl) (snone_any (hS.ownT (A := SO b0 b most last v B) (by repeat constructor))) ?_)
  rintro r1 w1 ⟨rfl, h⟩
  replace hS := St.callN hS h
  refine SatL.nil (SatE.thenC ?_)
  refine SatC.cond rfl (fun h1 => ?_) (fun h1 => ?_)
  · (try simp only [cx, ne_eq] at h1)
    try (exfalso; (first | omega | exact h1 trivial | contradiction); done)
    all_goals
    refine SatC.seq ?_
    refine SatC.region ?_
    refine SatL.pu (RunV.assign rfl) rfl ?_
    refine SatL.nil (SatE.thenC ?_)
    refine SatC.ret (SatE.then_ret ?_)
    refine SatE.ret1 rfl rfl ?_
    exact ⟨by unfold closeS; simp_all, v2, B2, hsl2, hS.sel (by repeat constructor)⟩
  · (try simp only [cx, ne_eq] at h1)
    try (exfalso; (first | omega | exact h1 trivial | contradiction); done)
    all_goals
    refine SatC.skip (SatE.thenC ?_)
    refine SatC.seq ?_
    refine SatC.seq ?_
    refine SatC.drawnT 9 hS (hS.sel (R := [(b0, C 59 (sn b))]) (by repeat constructor)) (by kernel_rfl) ?_
    clear hS
    intro w2 hh hS hD
    refine SatD.tk 0 rfl hD (fun _ hw => RunV.move rfl) ?_
    first | refine SatD.tk 1 rfl hD (fun _ hw => RunV.nil_ptr rfl) ?_ | refine SatD.tk 1 rfl hD (fun _ hw => RunV.nil_func rfl) ?_ | refine SatD.tk 1 rfl hD (fun _ hw => RunV.nil_yield rfl) ?_
    first | refine SatD.tk 2 rfl hD (fun _ hw => RunV.fieldAddrL rfl rfl rfl) ?_ | refine SatD.tk 2 rfl hD (fun _ hw => RunV.fieldAddr rfl rfl rfl) ?_
    refine SatD.tk 3 rfl hD (fun _ hw => RunV.load1 hw rfl rfl (by repeat constructor) rfl) ?_
    refine SatD.tk 4 rfl hD (fun _ hw => RunV.move rfl) ?_
    refine SatD.tk 6 rfl hD (fun _ hw => RunV.move rfl) ?_
    refine SatD.ef 5 rfl (OpW.enter rfl rfl rfl (rfl) (key_any _ (by assumption) _) ?_)
    rintro r3 w3 ⟨rfl, h⟩
    replace hS := St.callN hS h
    refine keepS (hS.sel (by repeat constructor)) (fun hD => ?_)
    refine SatD.ef 7 rfl (OpW.enter rfl rfl rfl (rfl) (drop_tab (keyOf id) ix (asc_rows hw) hsl (by rw [List.length_map]; omega) (hS.ownT (A := (b, C 78 (tc most v last)) :: B) (by repeat constructor)) hm) ?_)
    rintro r4 w4 ⟨rfl, v2, B2, hsl2, h⟩
    replace hS := hS.callT (A := (b, C 78 (tc most v last)) :: B) (by repeat constructor) h
    rw [hDr] at hsl2 hS ⊢
    refine keepS (hS.sel (by repeat constructor)) (fun hD => ?_)
    refine SatD.tk 8 rfl hD (fun _ hw => RunV.not rfl) ?_
    refine SatD.done 0 (by kernel_rfl) (SatE.thenC ?_)
    clear hD
    refine SatC.weak (e' := [(6, _), (17, _)]) (by repeat constructor) ?_
    refine SatC.cond rfl (fun h2 => ?_) (fun h2 => ?_)
    · (try simp only [cx, ne_eq] at h2)
      try (exfalso; (first | omega | exact h2 trivial | contradiction); done)
      all_goals
      refine SatC.seq ?_
      refine SatC.region ?_
      refine SatL.pu (RunV.assign rfl) rfl ?_
      refine SatL.nil (SatE.thenC ?_)
      refine SatC.ret (SatE.then_ret ?_)
      refine SatE.ret1 rfl rfl ?_
      exact ⟨by unfold closeS; simp_all, v2, B2, hsl2, hS.sel (by repeat constructor)⟩
    · (try simp only [cx, ne_eq] at h2)
      try (exfalso; (first | omega | exact h2 trivial | contradiction); done)
      all_goals
      refine SatC.skip (SatE.thenC ?_)
      refine SatC.seq ?_
      refine SatC.region ?_
      refine SatL.pu (RunV.assign rfl) rfl ?_
      refine SatL.nil (SatE.thenC ?_)
      refine SatC.ret ?_
      refine SatE.ret1 rfl rfl ?_
      exact ⟨by unfold closeS; simp_all, v2, B2, hsl2, hS.sel (by repeat constructor)⟩
end
end Go.Proofs.Ythbfigkfelfhcaa
