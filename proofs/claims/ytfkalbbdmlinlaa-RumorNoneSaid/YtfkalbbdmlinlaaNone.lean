/- RumorNone: a queue that is not there, and one that no call made, passes nothing on. -/
import Derived.Test.YtfkalbbdmlinlaaW
import Derived.Test.YtfkalbbdmlinlaaK7
import Derived.Test.YtfkalbbdmlinlaaK16
import Derived.Test.YtfkalbbdmlinlaaRows
set_option linter.unusedSimpArgs false
set_option linter.unusedVariables false
set_option maxRecDepth 100000
set_option maxHeartbeats 8000000
namespace Go.Proofs.Ytfkalbbdmlinlaa
open Go.RowKit Go.ChangeShapes Go.WideShapes Go.ChangeAt
@[reducible] def q0 : List Value := [.int .i64 0, .int .i64 0, .map none]
def NoQ (r : Value) (w : World) : Prop := r = .pointer none ∨ ∃ b, r = .pointer (some ⟨b, 0, none⟩) ∧ w.heap[b]? = some (C 47 q0)
theorem NoQ.st {r : Value} {w w' : World} {L : List (Nat × Obj)} (h : NoQ r w) (hS : St w [] L w') : NoQ r w' := by
  rcases h with h | ⟨b, h, hb⟩
  · exact .inl h
  · exact .inr ⟨b, h, by rw [hS.old b (Array.getElem?_eq_some_iff.1 hb).1 List.not_mem_nil]; exact hb⟩
theorem qnone_no {r : Value} {w : World} (hr : NoQ r w) : Ret Try.prog 15 #[r] w fun v w' => v = .bool true ∧ St w [] [] w' := by
  rcases hr with rfl | ⟨b, rfl, hb⟩
  · have hS := St.init0 w
    refine Ret.enter Try.func15 Try.ntmps15 rfl rfl ?_
    simp only [argEnv, Nat.reduceAdd]
    refine SatC.seq ?_
    refine SatC.region ?_
    refine SatL.pu (RunV.assign rfl) rfl ?_
    refine SatL.nil (SatE.thenC ?_)
    refine SatC.seq ?_
    refine SatC.region ?_
    refine SatL.pu (RunV.move rfl) rfl ?_
    refine SatL.pu (RunV.eqlPtrNil rfl rfl rfl) rfl ?_
    refine SatL.pu (RunV.move rfl) rfl ?_
    refine SatL.guard rfl rfl rfl (fun h1 => ?_) (fun h1 => ?_)
    · (try simp only [cx, ne_eq] at h1)
      try (exfalso; (first | omega | exact h1 trivial | contradiction); done)
      all_goals
      refine SatL.pu (RunV.move rfl) rfl ?_
      refine SatL.guard_y rfl rfl ?_
      first | refine SatL.pu (RunV.nil_ptr rfl) rfl ?_ | refine SatL.pu (RunV.nil_func rfl) rfl ?_ | refine SatL.pu (RunV.nil_yield rfl) rfl ?_
      refine SatL.guard_y rfl rfl ?_
      first | refine SatL.pu (RunV.fieldAddrL rfl rfl rfl) rfl ?_ | refine SatL.pu (RunV.fieldAddr rfl rfl rfl) rfl ?_
      refine SatL.guard_y rfl rfl ?_
      refine SatL.pu (RunV.load1 hS rfl rfl (by repeat constructor) rfl) rfl ?_
      refine SatL.guard_y rfl rfl ?_
      refine SatL.pu (RunV.eqlMapNil rfl rfl rfl) rfl ?_
      refine SatL.pu (RunV.pick_f rfl rfl) rfl ?_
      refine SatL.pu (RunV.assign rfl) rfl ?_
      refine SatL.nil (SatE.thenC ?_)
      refine SatC.ret ?_
      refine SatE.ret1 rfl rfl ?_
      exact ⟨rfl, hS⟩
    · (try simp only [cx, ne_eq] at h1)
      try (exfalso; (first | omega | exact h1 trivial | contradiction); done)
      all_goals
      refine SatL.guard_n rfl rfl rfl rfl ?_
      refine SatL.guard_n rfl rfl rfl rfl ?_
      refine SatL.guard_n rfl rfl rfl rfl ?_
      refine SatL.guard_n rfl rfl rfl rfl ?_
      refine SatL.pu (RunV.pick_t rfl rfl) rfl ?_
      refine SatL.pu (RunV.assign rfl) rfl ?_
      refine SatL.nil (SatE.thenC ?_)
      refine SatC.ret ?_
      refine SatE.ret1 rfl rfl ?_
      exact ⟨rfl, hS⟩
  · have hown : Own w [(b, C 47 q0)] := ⟨fun c hc => by simp only [List.mem_singleton] at hc; subst hc; exact hb, by simp⟩
    have hS := St.init hown
    simp only [List.map_cons, List.map_nil] at hS
    refine Ret.enter Try.func15 Try.ntmps15 rfl rfl ?_
    simp only [argEnv, Nat.reduceAdd]
    refine SatC.seq ?_
    refine SatC.region ?_
    refine SatL.pu (RunV.assign rfl) rfl ?_
    refine SatL.nil (SatE.thenC ?_)
    refine SatC.seq ?_
    refine SatC.region ?_
    refine SatL.pu (RunV.move rfl) rfl ?_
    refine SatL.pu (RunV.eqlPtrNil rfl rfl rfl) rfl ?_
    refine SatL.pu (RunV.move rfl) rfl ?_
    refine SatL.guard rfl rfl rfl (fun h1 => ?_) (fun h1 => ?_)
    · (try simp only [cx, ne_eq] at h1)
      try (exfalso; (first | omega | exact h1 trivial | contradiction); done)
      all_goals
      refine SatL.pu (RunV.move rfl) rfl ?_
      refine SatL.guard_y rfl rfl ?_
      first | refine SatL.pu (RunV.nil_ptr rfl) rfl ?_ | refine SatL.pu (RunV.nil_func rfl) rfl ?_ | refine SatL.pu (RunV.nil_yield rfl) rfl ?_
      refine SatL.guard_y rfl rfl ?_
      first | refine SatL.pu (RunV.fieldAddrL rfl rfl rfl) rfl ?_ | refine SatL.pu (RunV.fieldAddr rfl rfl rfl) rfl ?_
      refine SatL.guard_y rfl rfl ?_
      refine SatL.pu (RunV.load1 hS rfl rfl (by repeat constructor) rfl) rfl ?_
      refine SatL.guard_y rfl rfl ?_
      refine SatL.pu (RunV.eqlMapNil rfl rfl rfl) rfl ?_
      refine SatL.pu (RunV.pick_f rfl rfl) rfl ?_
      refine SatL.pu (RunV.assign rfl) rfl ?_
      refine SatL.nil (SatE.thenC ?_)
      refine SatC.ret ?_
      refine SatE.ret1 rfl rfl ?_
      exact ⟨rfl, St.ro hown hS (by repeat constructor)⟩
    · (try simp only [cx, ne_eq] at h1)
      try (exfalso; (first | omega | exact h1 trivial | contradiction); done)
      all_goals
      refine SatL.guard_n rfl rfl rfl rfl ?_
      refine SatL.guard_n rfl rfl rfl rfl ?_
      refine SatL.guard_n rfl rfl rfl rfl ?_
      refine SatL.guard_n rfl rfl rfl rfl ?_
      refine SatL.pu (RunV.pick_t rfl rfl) rfl ?_
      refine SatL.pu (RunV.assign rfl) rfl ?_
      refine SatL.nil (SatE.thenC ?_)
      refine SatC.ret ?_
      refine SatE.ret1 rfl rfl ?_
      exact ⟨rfl, St.ro hown hS (by repeat constructor)⟩
section
variable {r : Value} {w : World}
theorem push_no (u : Upd) (hr : NoQ r w) : Ret Try.prog 9 #[r, uv u] w fun v w' => v = .bool false ∧ St w [] [] w' := by
  have hS := St.init0 w
  refine Ret.enter Try.func9 Try.ntmps9 rfl rfl ?_
  simp only [argEnv, Nat.reduceAdd]
  refine SatC.seq ?_
  refine SatC.region ?_
  refine SatL.op rfl (OpW.box hS rfl rfl (by repeat constructor) ?_)
  clear hS
  intro b3 w1 _ hS
  refine SatL.pu (RunV.assign rfl) rfl ?_
  refine SatL.nil (SatE.thenC ?_)
  refine SatC.seq ?_
  refine SatC.seq ?_
  refine SatC.region ?_
  refine SatL.pu (RunV.move rfl) rfl ?_
  refine SatL.op rfl (OpW.enter rfl rfl rfl (rfl) (qnone_no (hr.st hS)) ?_)
  rintro r2 w2 ⟨rfl, h⟩
  replace hS := St.callN hS h
  refine SatL.pu (RunV.move rfl) rfl ?_
  refine SatL.guard rfl rfl rfl (fun h1 => ?_) (fun h1 => ?_)
  · (try simp only [cx, ne_eq] at h1)
    try (exfalso; (first | omega | exact h1 trivial | contradiction | (simp at h1; done)); done)
    all_goals
    refine SatL.pu (RunV.loadN hS rfl rfl (by repeat constructor) (by repeat constructor)) rfl ?_
    refine SatL.guard_y rfl rfl ?_
    -- STOP -- CALL 12
    trace_state
    sorry
  · (try simp only [cx, ne_eq] at h1)
    try (exfalso; (first | omega | exact h1 trivial | contradiction | (simp at h1; done)); done)
    all_goals
    refine SatL.guard_n rfl rfl rfl rfl ?_
    refine SatL.guard_n rfl rfl rfl rfl ?_
    refine SatL.pu (RunV.pick_t rfl rfl) rfl ?_
    refine SatL.nil (SatE.thenC ?_)
    refine SatC.cond_t rfl ?_
    refine SatC.seq ?_
    refine SatC.region ?_
    refine SatL.pu (RunV.assign rfl) rfl ?_
    refine SatL.nil (SatE.thenC ?_)
    refine SatC.ret (SatE.then_ret ?_)
    refine SatE.ret1 rfl rfl ?_
    exact ⟨rfl, hS.sel (by repeat constructor)⟩
theorem take_no (most m : Int) (hr : NoQ r w) : Ret Try.prog 8 #[r, .int .i64 most, .int .i64 m] w fun v w' => v = .slice none 0 0 ∧ St w [] [] w' := by
  have hS := St.init0 w
  refine Ret.enter Try.func8 Try.ntmps8 rfl rfl ?_
  simp only [argEnv, Nat.reduceAdd]
  refine SatC.seq ?_
  refine SatC.region ?_
  refine SatL.pu (RunV.assign rfl) rfl ?_
  refine SatL.nil (SatE.thenC ?_)
  refine SatC.seq ?_
  refine SatC.seq ?_
  refine SatC.region ?_
  refine SatL.pu (RunV.move rfl) rfl ?_
  refine SatL.op rfl (OpW.enter rfl rfl rfl (rfl) (qnone_no (hr.st hS)) ?_)
  rintro r1 w1 ⟨rfl, h⟩
  replace hS := St.callN hS h
  refine SatL.nil (SatE.thenC ?_)
  refine SatC.cond rfl (fun h1 => ?_) (fun h1 => ?_)
  · (try simp only [cx, ne_eq] at h1)
    try (exfalso; (first | omega | exact h1 trivial | contradiction | (simp at h1; done)); done)
    all_goals
    refine SatC.seq ?_
    refine SatC.region ?_
    refine SatL.pu (RunV.assign rfl) rfl ?_
    refine SatL.nil (SatE.thenC ?_)
    refine SatC.ret (SatE.then_ret ?_)
    refine SatE.ret1 rfl rfl ?_
    exact ⟨rfl, hS.sel (by repeat constructor)⟩
  · (try simp only [cx, ne_eq] at h1)
    try (exfalso; (first | omega | exact h1 trivial | contradiction | (simp at h1; done)); done)
    all_goals
    refine SatC.skip (SatE.thenC ?_)
    refine SatC.seq ?_
    refine SatC.region ?_
    refine SatL.pu (RunV.move rfl) rfl ?_
    refine SatL.pu (RunV.move rfl) rfl ?_
    -- STOP -- CALL 13
    trace_state
    sorry
theorem limit_no (m : Int) (hr : NoQ r w) : Ret Try.prog 13 #[r, .int .i64 m] w fun v w' => v = .int .i64 0 ∧ St w [] [] w' := by
  have hS := St.init0 w
  refine Ret.enter Try.func13 Try.ntmps13 rfl rfl ?_
  simp only [argEnv, Nat.reduceAdd]
  refine SatC.seq ?_
  refine SatC.region ?_
  refine SatL.pu (RunV.assign rfl) rfl ?_
  refine SatL.nil (SatE.thenC ?_)
  refine SatC.seq ?_
  refine SatC.seq ?_
  refine SatC.region ?_
  refine SatL.pu (RunV.move rfl) rfl ?_
  refine SatL.op rfl (OpW.enter rfl rfl rfl (rfl) (qnone_no (hr.st hS)) ?_)
  rintro r1 w1 ⟨rfl, h⟩
  replace hS := St.callN hS h
  refine SatL.nil (SatE.thenC ?_)
  refine SatC.cond rfl (fun h1 => ?_) (fun h1 => ?_)
  · (try simp only [cx, ne_eq] at h1)
    try (exfalso; (first | omega | exact h1 trivial | contradiction | (simp at h1; done)); done)
    all_goals
    refine SatC.seq ?_
    refine SatC.region ?_
    refine SatL.pu (RunV.assign rfl) rfl ?_
    refine SatL.nil (SatE.thenC ?_)
    refine SatC.ret (SatE.then_ret ?_)
    refine SatE.ret1 rfl rfl ?_
    exact ⟨rfl, hS.sel (by repeat constructor)⟩
  · (try simp only [cx, ne_eq] at h1)
    try (exfalso; (first | omega | exact h1 trivial | contradiction | (simp at h1; done)); done)
    all_goals
    refine SatC.skip (SatE.thenC ?_)
    refine SatC.seq ?_
    refine SatC.drawnT 9 hS (hS) (by kernel_rfl) ?_
    clear hS
    intro w2 hh hS hD
    refine SatD.tk 0 rfl hD (fun _ hw => RunV.move rfl) ?_
    first | refine SatD.tk 1 rfl hD (fun _ hw => RunV.nil_ptr rfl) ?_ | refine SatD.tk 1 rfl hD (fun _ hw => RunV.nil_func rfl) ?_ | refine SatD.tk 1 rfl hD (fun _ hw => RunV.nil_yield rfl) ?_
    first | refine SatD.tk 2 rfl hD (fun _ hw => RunV.fieldAddrL rfl rfl rfl) ?_ | refine SatD.tk 2 rfl hD (fun _ hw => RunV.fieldAddr rfl rfl rfl) ?_
    refine SatD.tk 3 rfl hD (fun _ hw => RunV.load1 hw rfl rfl (by repeat constructor) rfl) ?_
    refine SatD.tk 4 rfl hD (fun _ hw => RunV.move rfl) ?_
    refine SatD.tk 5 rfl hD (fun _ hw => RunV.max2 rfl rfl) ?_
    -- STOP -- CALL 17
    trace_state
    sorry
theorem list_no (hr : NoQ r w) : Ret Try.prog 7 #[r] w fun v w' => v = .slice none 0 0 ∧ St w [] [] w' := by
  have hS := St.init0 w
  refine Ret.enter Try.func7 Try.ntmps7 rfl rfl ?_
  simp only [argEnv, Nat.reduceAdd]
  refine SatC.seq ?_
  refine SatC.region ?_
  refine SatL.pu (RunV.assign rfl) rfl ?_
  refine SatL.nil (SatE.thenC ?_)
  refine SatC.seq ?_
  refine SatC.seq ?_
  refine SatC.region ?_
  refine SatL.pu (RunV.move rfl) rfl ?_
  refine SatL.op rfl (OpW.enter rfl rfl rfl (rfl) (qnone_no (hr.st hS)) ?_)
  rintro r1 w1 ⟨rfl, h⟩
  replace hS := St.callN hS h
  refine SatL.nil (SatE.thenC ?_)
  refine SatC.cond rfl (fun h1 => ?_) (fun h1 => ?_)
  · (try simp only [cx, ne_eq] at h1)
    try (exfalso; (first | omega | exact h1 trivial | contradiction | (simp at h1; done)); done)
    all_goals
    refine SatC.seq ?_
    refine SatC.region ?_
    refine SatL.pu (RunV.assign rfl) rfl ?_
    refine SatL.nil (SatE.thenC ?_)
    refine SatC.ret (SatE.then_ret ?_)
    refine SatE.ret1 rfl rfl ?_
    exact ⟨rfl, hS.sel (by repeat constructor)⟩
  · (try simp only [cx, ne_eq] at h1)
    try (exfalso; (first | omega | exact h1 trivial | contradiction | (simp at h1; done)); done)
    all_goals
    refine SatC.skip (SatE.thenC ?_)
    refine SatC.seq ?_
    refine SatC.region ?_
    refine SatL.pu (RunV.assign rfl) rfl ?_
    refine SatL.nil (SatE.thenC ?_)
    refine SatC.seq ?_
    refine SatC.seq ?_
    refine SatC.region ?_
    refine SatL.pu (RunV.move rfl) rfl ?_
    -- STOP -- CALL 16
    trace_state
    sorry
theorem has_no (u : Upd) (hr : NoQ r w) : Ret Try.prog 14 #[r, uv u] w fun v w' => v = .bool false ∧ St w [] [] w' := by
  have hS := St.init0 w
  refine Ret.enter Try.func14 Try.ntmps14 rfl rfl ?_
  simp only [argEnv, Nat.reduceAdd]
  refine SatC.seq ?_
  refine SatC.region ?_
  refine SatL.op rfl (OpW.box hS rfl rfl (by repeat constructor) ?_)
  clear hS
  intro b3 w1 _ hS
  refine SatL.pu (RunV.assign rfl) rfl ?_
  refine SatL.nil (SatE.thenC ?_)
  refine SatC.seq ?_
  refine SatC.seq ?_
  refine SatC.region ?_
  refine SatL.pu (RunV.move rfl) rfl ?_
  refine SatL.op rfl (OpW.enter rfl rfl rfl (rfl) (qnone_no (hr.st hS)) ?_)
  rintro r2 w2 ⟨rfl, h⟩
  replace hS := St.callN hS h
  refine SatL.nil (SatE.thenC ?_)
  refine SatC.cond rfl (fun h1 => ?_) (fun h1 => ?_)
  · (try simp only [cx, ne_eq] at h1)
    try (exfalso; (first | omega | exact h1 trivial | contradiction | (simp at h1; done)); done)
    all_goals
    refine SatC.seq ?_
    refine SatC.region ?_
    refine SatL.pu (RunV.assign rfl) rfl ?_
    refine SatL.nil (SatE.thenC ?_)
    refine SatC.ret (SatE.then_ret ?_)
    refine SatE.ret1 rfl rfl ?_
    exact ⟨rfl, hS.sel (by repeat constructor)⟩
  · (try simp only [cx, ne_eq] at h1)
    try (exfalso; (first | omega | exact h1 trivial | contradiction | (simp at h1; done)); done)
    all_goals
    refine SatC.skip (SatE.thenC ?_)
    refine SatC.seq ?_
    refine SatC.drawnT 13 hS (hS) (by kernel_rfl) ?_
    clear hS
    intro w3 hh hS hD
    refine SatD.tk 0 rfl hD (fun _ hw => RunV.move rfl) ?_
    first | refine SatD.tk 1 rfl hD (fun _ hw => RunV.nil_ptr rfl) ?_ | refine SatD.tk 1 rfl hD (fun _ hw => RunV.nil_func rfl) ?_ | refine SatD.tk 1 rfl hD (fun _ hw => RunV.nil_yield rfl) ?_
    first | refine SatD.tk 2 rfl hD (fun _ hw => RunV.fieldAddrL rfl rfl rfl) ?_ | refine SatD.tk 2 rfl hD (fun _ hw => RunV.fieldAddr rfl rfl rfl) ?_
    refine SatD.tk 3 rfl hD (fun _ hw => RunV.load1 hw rfl rfl (by repeat constructor) rfl) ?_
    first | refine SatD.tk 4 rfl hD (fun _ hw => RunV.fieldAddrL rfl rfl rfl) ?_ | refine SatD.tk 4 rfl hD (fun _ hw => RunV.fieldAddr rfl rfl rfl) ?_
    refine SatD.tk 5 rfl hD (fun _ hw => RunV.load1 hw rfl rfl (by repeat constructor) rfl) ?_
    refine SatD.tk 6 rfl hD (fun _ hw => RunV.lookup2 (keyInt rfl) hw rfl rfl rfl rfl (by repeat constructor) (by assumption)) ?_
    refine SatD.tk 7 rfl hD (fun _ hw => RunV.move rfl) ?_
    refine SatD.tk 8 rfl hD (fun _ hw => RunV.extract rfl rfl) ?_
    refine SatD.tk 9 rfl hD (fun _ hw => RunV.extract rfl rfl) ?_
    refine SatD.ef 10 rfl (OpW.alloc hS rfl rfl (by repeat constructor) ?_)
    clear hS
    intro b5 w4 _ hS
    refine keepS (hS.sel (by repeat constructor)) (fun hD => ?_)
    refine SatD.ef 11 rfl (OpW.store hS rfl rfl (by repeat constructor) (by repeat constructor) (by repeat constructor) rfl rfl ?_)
    clear hS
    intro w5 hS
    refine keepS (hS.sel (by repeat constructor)) (fun hD => ?_)
    refine SatD.tk 12 rfl hD (fun _ hw => RunV.assign rfl) ?_
    refine SatD.done 0 (by kernel_rfl) (SatE.thenC ?_)
    clear hD
    refine SatC.seq ?_
    refine SatC.weak (e' := [(3, _), (4, _), (5, _), (6, _)]) (by repeat constructor) ?_
    refine SatC.region ?_
    refine SatL.pu (RunV.move rfl) rfl ?_
    refine SatL.pu (RunV.move rfl) rfl ?_
    refine SatL.guard rfl rfl rfl (fun h2 => ?_) (fun h2 => ?_)
    · (try simp only [cx, ne_eq] at h2)
      try (exfalso; (first | omega | exact h2 trivial | contradiction | (simp at h2; done)); done)
      all_goals
      first | refine SatL.pu (RunV.fieldAddrL rfl rfl rfl) rfl ?_ | refine SatL.pu (RunV.fieldAddr rfl rfl rfl) rfl ?_
      refine SatL.guard_y rfl rfl ?_
      refine SatL.pu (RunV.loadN hS rfl rfl (by repeat constructor) (by repeat constructor)) rfl ?_
      refine SatL.guard_y rfl rfl ?_
      refine SatL.pu (RunV.loadN hS rfl rfl (by repeat constructor) (by repeat constructor)) rfl ?_
      refine SatL.guard_y rfl rfl ?_
      refine SatL.pu (RunV.bin rfl rfl (by simp [eqGuard, go_sem]) (by simp [go_sem]; try rfl)) rfl ?_
      refine SatL.pu (RunV.pick_t rfl rfl) rfl ?_
      refine SatL.pu (RunV.assign rfl) rfl ?_
      refine SatL.nil (SatE.thenC ?_)
      refine SatC.ret ?_
      refine SatE.ret1 rfl rfl ?_
      exact ⟨rfl, hS.sel (by repeat constructor)⟩
    · (try simp only [cx, ne_eq] at h2)
      try (exfalso; (first | omega | exact h2 trivial | contradiction | (simp at h2; done)); done)
      all_goals
      refine SatL.guard_n rfl rfl rfl rfl ?_
      refine SatL.guard_n rfl rfl rfl rfl ?_
      refine SatL.guard_n rfl rfl rfl rfl ?_
      refine SatL.pu (RunV.pick_f rfl rfl) rfl ?_
      refine SatL.pu (RunV.assign rfl) rfl ?_
      refine SatL.nil (SatE.thenC ?_)
      refine SatC.ret ?_
      refine SatE.ret1 rfl rfl ?_
      exact ⟨rfl, hS.sel (by repeat constructor)⟩
end
theorem none_any (k n i s most m : Int) (w : World) : Ret Try.prog 5 #[.agg #[.int .i64 k, .int .i64 n, .int .u32 i, .int .i64 s, .int .i64 most, .int .i64 m]] w fun v w' => v = .bool true ∧ St w [] [] w' := by
  have hS := St.init0 w
  refine Ret.enter Try.func5 Try.ntmps5 rfl rfl ?_
  simp only [argEnv, Nat.reduceAdd]
  refine SatC.seq ?_
  refine SatC.region ?_
  refine SatL.op rfl (OpW.box hS rfl rfl (by repeat constructor) ?_)
  clear hS
  intro b1 w1 _ hS
  refine SatL.pu (RunV.assign rfl) rfl ?_
  refine SatL.nil (SatE.thenC ?_)
  refine SatC.seq ?_
  refine SatC.region ?_
  refine SatL.pu (RunV.assign rfl) rfl ?_
  refine SatL.nil (SatE.thenC ?_)
  refine SatC.seq ?_
  refine SatC.region ?_
  refine SatL.pu (RunV.move rfl) rfl ?_
  refine SatL.pu (RunV.build rfl (by simp [go_sem]; try rfl)) rfl ?_
  refine SatL.op rfl (OpW.box hS rfl rfl (by repeat constructor) ?_)
  clear hS
  intro b8 w2 _ hS
  refine SatL.op rfl (OpW.buildSliceV (vs := [_, _]) hS rfl rfl rfl rfl rfl rfl rfl rfl rfl ?_)
  clear hS
  intro b9 w3 _ hS
  refine SatL.pu (RunV.assign rfl) rfl ?_
  refine SatL.nil (SatE.thenC ?_)
  refine SatC.seq ?_
  refine SatC.seq ?_
  refine SatC.region ?_
  refine SatL.pu (RunV.assign rfl) rfl ?_
  refine SatL.nil (SatE.thenC ?_)
  refine SatC.block ?_
  refine SatC.loopK (G := Nat) (V := fun j => [(5, .int .i64 (j : Int))]) (Cn := [(1, _), (4, _), (2, _)]) (I := fun j w' => j ≤ 2 ∧ St w [] [(b9, C 23 [.pointer none, .pointer (some ⟨b8, 0, none⟩)]), (b8, C 47 q0), (b1, C 31 [.int .i64 k, .int .i64 n, .int .u32 i, .int .i64 s, .int .i64 most, .int .i64 m])] w') (μ := fun j => 2 - j) 0 ?_ (by repeat constructor) ?_
  · exact ⟨by omega, hS⟩
  clear hS
  rintro j w4 ⟨hi, hS⟩
  refine SatC.weak (e' := [(1, _), (2, _), (4, _), (5, _)]) (by repeat constructor) ?_
  refine SatC.seq ?_
  refine SatC.seq ?_
  refine SatC.region ?_
  refine SatL.pu (RunV.move rfl) rfl ?_
  refine SatL.pu (RunV.move rfl) rfl ?_
  first | refine SatL.pu (RunV.lenR (by assumption) rfl rfl) rfl ?_ | refine SatL.pu (RunV.lenS rfl rfl) rfl ?_
  refine SatL.pu (RunV.lss rfl rfl) rfl ?_
  refine SatL.nil (SatE.thenC ?_)
  refine SatC.cond rfl (fun h1 => ?_) (fun h1 => ?_)
  · (try simp only [cx, ne_eq] at h1)
    try (exfalso; (first | omega | exact h1 trivial | contradiction | (first | exact h1 rfl | cases h1 | (simp at h1; done))); done)
    all_goals
    refine SatC.skip (SatE.thenC ?_)
    refine SatC.seq ?_
    refine SatC.block ?_
    refine SatC.seq ?_
    obtain ⟨z, hz, hzn⟩ : ∃ z, ([.pointer none, .pointer (some ⟨b8, 0, none⟩)] : List Value)[0 + (j : Int).toNat * 1]? = some z ∧ (z = .pointer none ∨ z = .pointer (some ⟨b8, 0, none⟩)) := by
      rcases (by omega : j = 0 ∨ j = 1) with rfl | rfl
      · exact ⟨_, rfl, .inl rfl⟩
      · exact ⟨_, rfl, .inr rfl⟩
    have hr : ∀ {L w'}, St w [] L w' → Has L b8 (C 47 q0) → NoQ z w' := fun hS hm => hzn.imp id (fun e => ⟨b8, e, hS.own (b8, C 47 q0) hm.mem⟩)
    refine SatC.drawnT 48 hS (hS) (by kernel_rfl) ?_
    clear hS
    intro w5 hh hS hD
    refine SatD.tk 0 rfl hD (fun _ hw => RunV.move rfl) ?_
    refine SatD.tk 1 rfl hD (fun _ hw => RunV.move rfl) ?_
    first | refine SatD.tk 2 rfl hD (fun _ hw => RunV.indexR (by assumption) rfl rfl rfl (by omega) (by omega) rfl) ?_ | refine SatD.tk 2 rfl hD (fun _ hw => RunV.indexS rfl rfl rfl (by omega) (by omega) rfl) ?_
    refine SatD.tk 3 rfl hD (fun _ hw => RunV.load1 hw rfl rfl (by repeat constructor) hz) ?_
    first | refine SatD.tk 4 rfl hD (fun _ hw => RunV.fieldAddrL rfl rfl rfl) ?_ | refine SatD.tk 4 rfl hD (fun _ hw => RunV.fieldAddr rfl rfl rfl) ?_
    refine SatD.tk 5 rfl hD (fun _ hw => RunV.loadN hw rfl rfl (by repeat constructor) (by repeat constructor)) ?_
    refine SatD.ef 6 rfl (OpW.enter rfl rfl rfl (rfl) (push_no ⟨n, i, s⟩ (hr hS (by repeat constructor))) ?_)
    rintro r6 w6 ⟨rfl, h⟩
    replace hS := St.callN hS h
    refine keepS (hS.sel (by repeat constructor)) (fun hD => ?_)
    refine SatD.tk 7 rfl hD (fun _ hw => RunV.move rfl) ?_
    refine SatD.ways 23 rfl (fun h2 => ?_) (fun h2 => ?_)
    · (try simp only [cx, ne_eq] at h2)
      try (exfalso; (first | omega | exact h2 trivial | contradiction | (first | exact h2 rfl | cases h2 | (simp at h2; done))); done)
      all_goals
      refine SatD.sk 8 rfl [] hD ?_
      refine SatD.sk 9 rfl [] hD ?_
      refine SatD.sk 10 rfl [] hD ?_
      refine SatD.sk 11 rfl [] hD ?_
      refine SatD.sk 12 rfl [] hD ?_
      refine SatD.sk 13 rfl [] hD ?_
      refine SatD.sk 14 rfl [] hD ?_
      refine SatD.sk 15 rfl [] hD ?_
      refine SatD.sk 16 rfl [] hD ?_
      refine SatD.sk 17 rfl [] hD ?_
      refine SatD.sk 18 rfl [] hD ?_
      refine SatD.tk 19 rfl hD (fun _ hw => RunV.pick_t rfl rfl) ?_
      refine SatD.tk 20 rfl hD (fun _ hw => RunV.move rfl) ?_
      refine SatD.sk 21 rfl [] hD ?_
      refine SatD.sk 22 rfl [] hD ?_
      refine SatD.sk 23 rfl [] hD ?_
      refine SatD.sk 24 rfl [] hD ?_
      refine SatD.sk 25 rfl [] hD ?_
      refine SatD.sk 26 rfl [] hD ?_
      refine SatD.sk 27 rfl [] hD ?_
      refine SatD.sk 28 rfl [] hD ?_
      refine SatD.tk 29 rfl hD (fun _ hw => RunV.pick_t rfl rfl) ?_
      refine SatD.tk 30 rfl hD (fun _ hw => RunV.move rfl) ?_
      refine SatD.sk 31 rfl [] hD ?_
      refine SatD.sk 32 rfl [] hD ?_
      refine SatD.sk 33 rfl [] hD ?_
      refine SatD.sk 34 rfl [] hD ?_
      refine SatD.sk 35 rfl [] hD ?_
      refine SatD.sk 36 rfl [] hD ?_
      refine SatD.sk 37 rfl [] hD ?_
      refine SatD.tk 38 rfl hD (fun _ hw => RunV.pick_t rfl rfl) ?_
      refine SatD.tk 39 rfl hD (fun _ hw => RunV.move rfl) ?_
      refine SatD.sk 40 rfl [] hD ?_
      refine SatD.sk 41 rfl [] hD ?_
      refine SatD.sk 42 rfl [] hD ?_
      refine SatD.sk 43 rfl [] hD ?_
      refine SatD.sk 44 rfl [] hD ?_
      refine SatD.sk 45 rfl [] hD ?_
      refine SatD.sk 46 rfl [] hD ?_
      refine SatD.tk 47 rfl hD (fun _ hw => RunV.pick_t rfl rfl) ?_
      refine SatD.done 0 (by kernel_rfl) (SatE.thenC ?_)
      clear hD
      refine SatC.weak (e' := [(1, _), (2, _), (4, _), (5, _), (63, _)]) (by repeat constructor) ?_
      refine SatC.cond_t rfl ?_
      refine SatC.seq ?_
      refine SatC.region ?_
      refine SatL.pu (RunV.assign rfl) rfl ?_
      refine SatL.nil (SatE.thenC ?_)
      refine SatC.ret (SatE.blk_ret (SatE.then_ret (SatE.then_ret (SatE.blk_ret (SatE.then_ret ?_)))))
      refine SatE.ret1 rfl rfl ?_
      exact ⟨rfl, hS.sel (by repeat constructor)⟩
    · (try simp only [cx, ne_eq] at h2)
      try (exfalso; (first | omega | exact h2 trivial | contradiction | (first | exact h2 rfl | cases h2 | (simp at h2; done))); done)
      all_goals
      refine SatD.tk 8 rfl hD (fun _ hw => RunV.move rfl) ?_
      refine SatD.tk 9 rfl hD (fun _ hw => RunV.move rfl) ?_
      first | refine SatD.tk 10 rfl hD (fun _ hw => RunV.indexR (by assumption) rfl rfl rfl (by omega) (by omega) rfl) ?_ | refine SatD.tk 10 rfl hD (fun _ hw => RunV.indexS rfl rfl rfl (by omega) (by omega) rfl) ?_
      refine SatD.tk 11 rfl hD (fun _ hw => RunV.load1 hw rfl rfl (by repeat constructor) hz) ?_
      first | refine SatD.tk 12 rfl hD (fun _ hw => RunV.fieldAddrL rfl rfl rfl) ?_ | refine SatD.tk 12 rfl hD (fun _ hw => RunV.fieldAddr rfl rfl rfl) ?_
      refine SatD.tk 13 rfl hD (fun _ hw => RunV.load1 hw rfl rfl (by repeat constructor) rfl) ?_
      first | refine SatD.tk 14 rfl hD (fun _ hw => RunV.fieldAddrL rfl rfl rfl) ?_ | refine SatD.tk 14 rfl hD (fun _ hw => RunV.fieldAddr rfl rfl rfl) ?_
      refine SatD.tk 15 rfl hD (fun _ hw => RunV.load1 hw rfl rfl (by repeat constructor) rfl) ?_
      refine SatD.ef 16 rfl (OpW.enter rfl rfl rfl (rfl) (take_no _ _ (hr hS (by repeat constructor))) ?_)
      rintro r7 w7 ⟨rfl, h⟩
      replace hS := St.callN hS h
      refine keepS (hS.sel (by repeat constructor)) (fun hD => ?_)
      first | refine SatD.tk 17 rfl hD (fun _ hw => RunV.lenR (by assumption) rfl rfl) ?_ | refine SatD.tk 17 rfl hD (fun _ hw => RunV.lenS rfl rfl) ?_
      refine SatD.tk 18 rfl hD (fun _ hw => RunV.neq rfl rfl) ?_
      refine SatD.tk 19 rfl hD (fun _ hw => RunV.pick_f rfl rfl) ?_
      refine SatD.tk 20 rfl hD (fun _ hw => RunV.move rfl) ?_
      refine SatD.ways 36 rfl (fun h3 => ?_) (fun h3 => ?_)
      · (try simp only [cx, ne_eq] at h3)
        try (exfalso; (first | omega | exact h3 trivial | contradiction | (first | exact h3 rfl | cases h3 | (simp at h3; done))); done)
        all_goals
        refine SatD.sk 21 rfl [] hD ?_
        refine SatD.sk 22 rfl [] hD ?_
        refine SatD.sk 23 rfl [] hD ?_
        refine SatD.sk 24 rfl [] hD ?_
        refine SatD.sk 25 rfl [] hD ?_
        refine SatD.sk 26 rfl [] hD ?_
        refine SatD.sk 27 rfl [] hD ?_
        refine SatD.sk 28 rfl [] hD ?_
        refine SatD.tk 29 rfl hD (fun _ hw => RunV.pick_t rfl rfl) ?_
        refine SatD.tk 30 rfl hD (fun _ hw => RunV.move rfl) ?_
        refine SatD.sk 31 rfl [] hD ?_
        refine SatD.sk 32 rfl [] hD ?_
        refine SatD.sk 33 rfl [] hD ?_
        refine SatD.sk 34 rfl [] hD ?_
        refine SatD.sk 35 rfl [] hD ?_
        refine SatD.sk 36 rfl [] hD ?_
        refine SatD.sk 37 rfl [] hD ?_
        refine SatD.tk 38 rfl hD (fun _ hw => RunV.pick_t rfl rfl) ?_
        refine SatD.tk 39 rfl hD (fun _ hw => RunV.move rfl) ?_
        refine SatD.sk 40 rfl [] hD ?_
        refine SatD.sk 41 rfl [] hD ?_
        refine SatD.sk 42 rfl [] hD ?_
        refine SatD.sk 43 rfl [] hD ?_
        refine SatD.sk 44 rfl [] hD ?_
        refine SatD.sk 45 rfl [] hD ?_
        refine SatD.sk 46 rfl [] hD ?_
        refine SatD.tk 47 rfl hD (fun _ hw => RunV.pick_t rfl rfl) ?_
        refine SatD.done 0 (by kernel_rfl) (SatE.thenC ?_)
        clear hD
        refine SatC.weak (e' := [(1, _), (2, _), (4, _), (5, _), (63, _)]) (by repeat constructor) ?_
        refine SatC.cond_t rfl ?_
        refine SatC.seq ?_
        refine SatC.region ?_
        refine SatL.pu (RunV.assign rfl) rfl ?_
        refine SatL.nil (SatE.thenC ?_)
        refine SatC.ret (SatE.blk_ret (SatE.then_ret (SatE.then_ret (SatE.blk_ret (SatE.then_ret ?_)))))
        refine SatE.ret1 rfl rfl ?_
        exact ⟨rfl, hS.sel (by repeat constructor)⟩
      · (try simp only [cx, ne_eq] at h3)
        try (exfalso; (first | omega | exact h3 trivial | contradiction | (first | exact h3 rfl | cases h3 | (simp at h3; done))); done)
        all_goals
        refine SatD.tk 21 rfl hD (fun _ hw => RunV.move rfl) ?_
        refine SatD.tk 22 rfl hD (fun _ hw => RunV.move rfl) ?_
        first | refine SatD.tk 23 rfl hD (fun _ hw => RunV.indexR (by assumption) rfl rfl rfl (by omega) (by omega) rfl) ?_ | refine SatD.tk 23 rfl hD (fun _ hw => RunV.indexS rfl rfl rfl (by omega) (by omega) rfl) ?_
        refine SatD.tk 24 rfl hD (fun _ hw => RunV.load1 hw rfl rfl (by repeat constructor) hz) ?_
        first | refine SatD.tk 25 rfl hD (fun _ hw => RunV.fieldAddrL rfl rfl rfl) ?_ | refine SatD.tk 25 rfl hD (fun _ hw => RunV.fieldAddr rfl rfl rfl) ?_
        refine SatD.tk 26 rfl hD (fun _ hw => RunV.load1 hw rfl rfl (by repeat constructor) rfl) ?_
        refine SatD.ef 27 rfl (OpW.enter rfl rfl rfl (rfl) (limit_no _ (hr hS (by repeat constructor))) ?_)
        rintro r8 w8 ⟨rfl, h⟩
        replace hS := St.callN hS h
        refine keepS (hS.sel (by repeat constructor)) (fun hD => ?_)
        refine SatD.tk 28 rfl hD (fun _ hw => RunV.neq rfl rfl) ?_
        refine SatD.tk 29 rfl hD (fun _ hw => RunV.pick_f rfl rfl) ?_
        refine SatD.tk 30 rfl hD (fun _ hw => RunV.move rfl) ?_
        refine SatD.ways 46 rfl (fun h4 => ?_) (fun h4 => ?_)
        · (try simp only [cx, ne_eq] at h4)
          try (exfalso; (first | omega | exact h4 trivial | contradiction | (first | exact h4 rfl | cases h4 | (simp at h4; done))); done)
          all_goals
          refine SatD.sk 31 rfl [] hD ?_
          refine SatD.sk 32 rfl [] hD ?_
          refine SatD.sk 33 rfl [] hD ?_
          refine SatD.sk 34 rfl [] hD ?_
          refine SatD.sk 35 rfl [] hD ?_
          refine SatD.sk 36 rfl [] hD ?_
          refine SatD.sk 37 rfl [] hD ?_
          refine SatD.tk 38 rfl hD (fun _ hw => RunV.pick_t rfl rfl) ?_
          refine SatD.tk 39 rfl hD (fun _ hw => RunV.move rfl) ?_
          refine SatD.sk 40 rfl [] hD ?_
          refine SatD.sk 41 rfl [] hD ?_
          refine SatD.sk 42 rfl [] hD ?_
          refine SatD.sk 43 rfl [] hD ?_
          refine SatD.sk 44 rfl [] hD ?_
          refine SatD.sk 45 rfl [] hD ?_
          refine SatD.sk 46 rfl [] hD ?_
          refine SatD.tk 47 rfl hD (fun _ hw => RunV.pick_t rfl rfl) ?_
          refine SatD.done 0 (by kernel_rfl) (SatE.thenC ?_)
          clear hD
          refine SatC.weak (e' := [(1, _), (2, _), (4, _), (5, _), (63, _)]) (by repeat constructor) ?_
          refine SatC.cond_t rfl ?_
          refine SatC.seq ?_
          refine SatC.region ?_
          refine SatL.pu (RunV.assign rfl) rfl ?_
          refine SatL.nil (SatE.thenC ?_)
          refine SatC.ret (SatE.blk_ret (SatE.then_ret (SatE.then_ret (SatE.blk_ret (SatE.then_ret ?_)))))
          refine SatE.ret1 rfl rfl ?_
          exact ⟨rfl, hS.sel (by repeat constructor)⟩
        · (try simp only [cx, ne_eq] at h4)
          try (exfalso; (first | omega | exact h4 trivial | contradiction | (first | exact h4 rfl | cases h4 | (simp at h4; done))); done)
          all_goals
          refine SatD.tk 31 rfl hD (fun _ hw => RunV.move rfl) ?_
          refine SatD.tk 32 rfl hD (fun _ hw => RunV.move rfl) ?_
          first | refine SatD.tk 33 rfl hD (fun _ hw => RunV.indexR (by assumption) rfl rfl rfl (by omega) (by omega) rfl) ?_ | refine SatD.tk 33 rfl hD (fun _ hw => RunV.indexS rfl rfl rfl (by omega) (by omega) rfl) ?_
          refine SatD.tk 34 rfl hD (fun _ hw => RunV.load1 hw rfl rfl (by repeat constructor) hz) ?_
          refine SatD.ef 35 rfl (OpW.enter rfl rfl rfl (rfl) (list_no (hr hS (by repeat constructor))) ?_)
          rintro r9 w9 ⟨rfl, h⟩
          replace hS := St.callN hS h
          refine keepS (hS.sel (by repeat constructor)) (fun hD => ?_)
          first | refine SatD.tk 36 rfl hD (fun _ hw => RunV.lenR (by assumption) rfl rfl) ?_ | refine SatD.tk 36 rfl hD (fun _ hw => RunV.lenS rfl rfl) ?_
          refine SatD.tk 37 rfl hD (fun _ hw => RunV.neq rfl rfl) ?_
          refine SatD.tk 38 rfl hD (fun _ hw => RunV.pick_f rfl rfl) ?_
          refine SatD.tk 39 rfl hD (fun _ hw => RunV.move rfl) ?_
          refine SatD.ways 55 rfl (fun h5 => ?_) (fun h5 => ?_)
          · (try simp only [cx, ne_eq] at h5)
            try (exfalso; (first | omega | exact h5 trivial | contradiction | (first | exact h5 rfl | cases h5 | (simp at h5; done))); done)
            all_goals
            refine SatD.sk 40 rfl [] hD ?_
            refine SatD.sk 41 rfl [] hD ?_
            refine SatD.sk 42 rfl [] hD ?_
            refine SatD.sk 43 rfl [] hD ?_
            refine SatD.sk 44 rfl [] hD ?_
            refine SatD.sk 45 rfl [] hD ?_
            refine SatD.sk 46 rfl [] hD ?_
            refine SatD.tk 47 rfl hD (fun _ hw => RunV.pick_t rfl rfl) ?_
            refine SatD.done 0 (by kernel_rfl) (SatE.thenC ?_)
            clear hD
            refine SatC.weak (e' := [(1, _), (2, _), (4, _), (5, _), (63, _)]) (by repeat constructor) ?_
            refine SatC.cond_t rfl ?_
            refine SatC.seq ?_
            refine SatC.region ?_
            refine SatL.pu (RunV.assign rfl) rfl ?_
            refine SatL.nil (SatE.thenC ?_)
            refine SatC.ret (SatE.blk_ret (SatE.then_ret (SatE.then_ret (SatE.blk_ret (SatE.then_ret ?_)))))
            refine SatE.ret1 rfl rfl ?_
            exact ⟨rfl, hS.sel (by repeat constructor)⟩
          · (try simp only [cx, ne_eq] at h5)
            try (exfalso; (first | omega | exact h5 trivial | contradiction | (first | exact h5 rfl | cases h5 | (simp at h5; done))); done)
            all_goals
            refine SatD.tk 40 rfl hD (fun _ hw => RunV.move rfl) ?_
            refine SatD.tk 41 rfl hD (fun _ hw => RunV.move rfl) ?_
            first | refine SatD.tk 42 rfl hD (fun _ hw => RunV.indexR (by assumption) rfl rfl rfl (by omega) (by omega) rfl) ?_ | refine SatD.tk 42 rfl hD (fun _ hw => RunV.indexS rfl rfl rfl (by omega) (by omega) rfl) ?_
            refine SatD.tk 43 rfl hD (fun _ hw => RunV.load1 hw rfl rfl (by repeat constructor) hz) ?_
            first | refine SatD.tk 44 rfl hD (fun _ hw => RunV.fieldAddrL rfl rfl rfl) ?_ | refine SatD.tk 44 rfl hD (fun _ hw => RunV.fieldAddr rfl rfl rfl) ?_
            refine SatD.tk 45 rfl hD (fun _ hw => RunV.loadN hw rfl rfl (by repeat constructor) (by repeat constructor)) ?_
            refine SatD.ef 46 rfl (OpW.enter rfl rfl rfl (rfl) (has_no ⟨n, i, s⟩ (hr hS (by repeat constructor))) ?_)
            rintro r10 w10 ⟨rfl, h⟩
            replace hS := St.callN hS h
            refine keepS (hS.sel (by repeat constructor)) (fun hD => ?_)
            refine SatD.tk 47 rfl hD (fun _ hw => RunV.pick_f rfl rfl) ?_
            refine SatD.done 0 (by kernel_rfl) (SatE.thenC ?_)
            clear hD
            refine SatC.weak (e' := [(1, _), (2, _), (4, _), (5, _), (63, _)]) (by repeat constructor) ?_
            refine SatC.cond rfl (fun h6 => ?_) (fun h6 => ?_)
            · (try simp only [cx, ne_eq] at h6)
              try (exfalso; (first | omega | exact h6 trivial | contradiction | (first | exact h6 rfl | cases h6 | (simp at h6; done))); done)
              all_goals
              refine SatC.seq ?_
              refine SatC.region ?_
              refine SatL.pu (RunV.assign rfl) rfl ?_
              refine SatL.nil (SatE.thenC ?_)
              refine SatC.ret (SatE.blk_ret (SatE.then_ret (SatE.then_ret (SatE.blk_ret (SatE.then_ret ?_)))))
              refine SatE.ret1 rfl rfl ?_
              exact ⟨rfl, hS.sel (by repeat constructor)⟩
            · (try simp only [cx, ne_eq] at h6)
              try (exfalso; (first | omega | exact h6 trivial | contradiction | (first | exact h6 rfl | cases h6 | (simp at h6; done))); done)
              all_goals
              refine SatC.skip (SatE.blk_normal (SatE.thenC ?_))
              refine SatC.region ?_
              refine SatL.pu (RunV.move rfl) rfl ?_
              refine SatL.pu (RunV.add rfl rfl (by first | exact wrapI64 (by omega) | rfl)) rfl ?_
              refine SatL.pu (RunV.assign rfl) rfl ?_
              refine SatL.nil ?_
              refine SatE.again (j + 1) ?_ (by first | omega | (dsimp only; omega)) (by repeat constructor)
              exact ⟨by omega, hS.sel (by repeat constructor)⟩
  · (try simp only [cx, ne_eq] at h1)
    try (exfalso; (first | omega | exact h1 trivial | contradiction | (first | exact h1 rfl | cases h1 | (simp at h1; done))); done)
    all_goals
    refine SatC.exit (SatE.then_exit (SatE.then_exit (SatE.blk_exit (SatE.thenC ?_))))
    refine SatC.seq ?_
    refine SatC.region ?_
    refine SatL.op rfl (OpW.enter rfl rfl rfl (rfl) (works_any _) ?_)
    rintro r5 w5 ⟨rfl, h⟩
    replace hS := St.callN hS h
    refine SatL.pu (RunV.assign rfl) rfl ?_
    refine SatL.nil (SatE.thenC ?_)
    refine SatC.ret ?_
    refine SatE.ret1 rfl rfl ?_
    exact ⟨rfl, hS.sel (by repeat constructor)⟩
theorem rumorNone_lifted (os : Os) (started : os.Started) (H : Type) (enc : TypeId × Value → H) :
    ReturnsInHanded {} Try.checked os 5 .any (Rows.rumorNoneSpec.pre6 enc Try.prog Try.f5 Rows.rumorNoneRow.domain false) (Rows.rumorNoneSpec.post enc Try.prog Try.f5 false true false false) := by
  refine law_returns (C := Try.checked) (b := 4) (by kernel_rfl) started (by kernel_rfl) Try.func5
    (ChangeSpec.witness6 (enc := enc) (C := Try.checked) false ⟨#[], #[.agg #[.int .i64 0, .int .i64 0, .int .u32 0, .int .i64 0, .int .i64 0, .int .i64 0]], []⟩ 8 (by kernel_rfl) (by kernel_rfl) (by kernel_rfl) (by kernel_rfl))
    rfl rfl (by kernel_rfl) (by kernel_rfl) (by kernel_rfl) (fun ds h => ?_) ?_
  · rw [Try.params5] at h
    match ds, h with
    | [_], _ => rfl
  intro W base args ds ps hval hA hsz
  rw [Try.params5] at hA hval
  obtain ⟨v0, d0, hargs, rfl, h0⟩ := trodAll_one hA
  subst hargs
  obtain ⟨c0, rfl, l0⟩ := open_struct (l := [3, 3, 27, 3, 3, 3]) 6 Try.underlying31 (by kernel_rfl) (hval 0 31 v0 rfl rfl) h0
  obtain ⟨a0_0, a0_1, a0_2, a0_3, a0_4, a0_5, rfl, l0_0, l0_1, l0_2, l0_3, l0_4, l0_5⟩ := allLeaf_list6 l0
  obtain ⟨a0_0, rfl, ba0_0⟩ := leaf_int Try.underlying3 l0_0
  replace ba0_0 := bnd_i64 ba0_0
  obtain ⟨a0_1, rfl, ba0_1⟩ := leaf_int Try.underlying3 l0_1
  replace ba0_1 := bnd_i64 ba0_1
  obtain ⟨a0_2, rfl, ba0_2⟩ := leaf_int Try.underlying27 l0_2
  replace ba0_2 := bnd_u32 ba0_2
  obtain ⟨a0_3, rfl, ba0_3⟩ := leaf_int Try.underlying3 l0_3
  replace ba0_3 := bnd_i64 ba0_3
  obtain ⟨a0_4, rfl, ba0_4⟩ := leaf_int Try.underlying3 l0_4
  replace ba0_4 := bnd_i64 ba0_4
  obtain ⟨a0_5, rfl, ba0_5⟩ := leaf_int Try.underlying3 l0_5
  replace ba0_5 := bnd_i64 ba0_5
  exact law_done (none_any a0_0 a0_1 a0_2 a0_3 a0_4 a0_5 W)
theorem rumorNone_holds : Rows.RumorNoneSaid :=
  OpenClaim.holds_of_wide 5 Try.f5 rfl rfl rfl rfl rfl rfl rfl ⟨rfl, rfl, rfl, rfl, rfl⟩ rfl rfl rfl rfl rfl (by kernel_rfl) Try.func5 (by kernel_rfl)
    (of_decide_eq_true (by kernel_rfl)) (by unfold Func.isWrapper; first | (rw [if_pos (by decide +kernel)]; kernel_rfl) | (rw [if_neg (by decide +kernel)]; exact ⟨rfl, rfl⟩))
    (fun os started H enc _ => rumorNone_lifted os started H enc)
end Go.Proofs.Ytfkalbbdmlinlaa
