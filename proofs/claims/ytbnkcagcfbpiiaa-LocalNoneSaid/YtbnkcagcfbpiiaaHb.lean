/- Contracts of health's checks: told, followed, ticked; the program's and the document's. -/
import Derived.Test.YtbnkcagcfbpiiaaHa
set_option linter.unusedSimpArgs false
set_option linter.unusedVariables false
set_option maxRecDepth 100000
set_option maxHeartbeats 1000000
namespace Go.Proofs.Ytbnkcagcfbpiiaa
open Go.RowKit
structure Ck where
  p : Pl
  bare : Int
  age : Int
  long : Int
  good : Int
  other : Int
  maint : Bool
@[reducible] def fn (f : FuncId) : Value := .func (.func f) #[] #[]
/-- The cells of the program's check, and of the document's. -/
@[reducible] def hc (f : Value) (c : Ck) : List Value := [.int .i64 c.good, .int .i64 c.other, .int .i64 c.p.kind, .int .i64 c.p.lasts, .int .i64 c.p.up, .int .i64 c.p.down, str c.p.of, .int .i64 c.p.after, f, .int .i64 c.bare, .int .i64 c.age, .int .i64 c.long, .bool c.maint]
@[reducible] def rc (c : Ck) : List Value := [.int .i64 c.p.kind, .int .i64 c.p.lasts, .int .i64 c.p.up, .int .i64 c.p.down, str c.p.of, .int .i64 c.p.after, .int .i64 c.bare, .int .i64 c.age, .int .i64 c.long, .int .i64 c.good, .int .i64 c.other, .bool c.maint]
def fv (c : Ck) : Value := if c.p.kind = 1 then fn 74 else fn 73
/-- Numbers that a few steps more do not carry beyond their kind. -/
def Bd (n : Int) (c : Ck) : Prop := (0 ≤ c.good ∧ c.good ≤ n) ∧ (0 ≤ c.other ∧ c.other ≤ n) ∧ (0 ≤ c.age ∧ c.age ≤ n) ∧ (0 ≤ c.long ∧ c.long ≤ n)
theorem Bd.le {n m : Int} {c : Ck} (h : Bd n c) (hm : n ≤ m) : Bd m c := by unfold Bd at *; omega
def stat (c : Ck) : Int := if c.maint then 3 else c.bare
def over (c : Ck) : Bool := decide (0 < c.p.after ∧ c.p.after ≤ c.long)
def bad (c : Ck) (s : Int) : Prop := c.p.kind = 3 ∨ s < 0 ∨ 2 < s
instance (c : Ck) (s : Int) : Decidable (bad c s) := by unfold bad; infer_instance
def toldA (c : Ck) (s : Int) : Int := if bad c s then 2 else 0
def cntC (c : Ck) (s : Int) : Ck := if s = 0 then { c with good := c.good + 1, other := 0, bare := if c.p.up ≤ c.good + 1 then 0 else c.bare } else { c with good := 0, other := c.other + 1, bare := if c.p.down ≤ c.other + 1 then s else c.bare }
def toldC (c : Ck) (s : Int) : Ck := if bad c s then c else if c.p.kind = 1 then { c with bare := s, age := 0 } else cntC c s
def folA (c : Ck) (s : Int) : Int := if ¬ c.p.kind = 3 ∨ s < 0 ∨ 3 < s then 2 else 0
def folC (c : Ck) (s : Int) : Ck := if ¬ c.p.kind = 3 ∨ s < 0 ∨ 3 < s then c else { c with bare := s }
def tick1 (c : Ck) : Ck := if c.p.kind = 1 then { c with age := c.age + 1, bare := if c.p.lasts ≤ c.age + 1 then 2 else c.bare } else c
def tickC (c : Ck) : Ck := { tick1 c with long := if stat (tick1 c) = 2 then c.long + 1 else 0 }
def tickA (c : Ck) : Bool := decide (¬ stat (tickC c) = stat c)
theorem toldC_bd {n : Int} {c : Ck} {s : Int} (h : Bd n c) : Bd (n + 1) (toldC c s) := by
  unfold toldC cntC Bd at *
  split
  · omega
  · split
    · dsimp only; omega
    · split <;> (dsimp only; omega)
theorem folC_bd {n : Int} {c : Ck} {s : Int} (h : Bd n c) : Bd n (folC c s) := by
  unfold folC Bd at *
  split
  · omega
  · exact h
theorem tickC_bd {n : Int} {c : Ck} (h : Bd n c) : Bd (n + 1) (tickC c) := by
  unfold tickC tick1 Bd at *
  split <;> (dsimp only; refine ⟨by omega, by omega, by omega, ?_⟩; split <;> omega)
theorem toldC_p (c : Ck) (s : Int) : (toldC c s).p = c.p := by
  unfold toldC cntC
  (repeat' split) <;> rfl
theorem folC_p (c : Ck) (s : Int) : (folC c s).p = c.p := by
  unfold folC
  split <;> rfl
theorem tickC_p (c : Ck) : (tickC c).p = c.p := by
  unfold tickC tick1
  split <;> rfl
section
variable {c : Ck} {b : Nat} {f : Value} {w : World}
theorem none_any (hown : Own w [(b, C 108 (hc f c))]) (hk : ¬ c.p.kind = 0) : Ret Try.prog 66 #[.pointer (some ⟨b, 0, none⟩)] w fun v w' => v = .bool false ∧ St w [] [] w' := by
  have hS := St.init hown
  simp only [List.map_cons, List.map_nil] at hS
  refine Ret.enter Try.func66 Try.ntmps66 rfl rfl ?_
  simp only [argEnv, Nat.reduceAdd]
  refine SatC.seq ?_
  refine SatC.region ?_
  refine SatL.pu (RunV.assign rfl) rfl ?_
  refine SatL.nil (SatE.thenC ?_)
  refine SatC.seq ?_
  refine SatC.region ?_
  refine SatL.pu (RunV.move rfl) rfl ?_
  refine SatL.pu (RunV.eqlPtrNil rfl rfl rfl) rfl ?_
  refine SatL.pu (RunV.move rfl) rfl ?_
  refine SatL.guard rfl rfl rfl (fun h1 => ?_) (fun h1 => ?_)
  · (try simp only [cx, ne_eq] at h1)
    try (exfalso; (first | omega | exact h1 trivial | contradiction); done)
    all_goals
    refine SatL.pu (RunV.move rfl) rfl ?_
    refine SatL.guard_y rfl rfl ?_
    first | refine SatL.pu (RunV.nil_ptr rfl) rfl ?_ | refine SatL.pu (RunV.nil_func rfl) rfl ?_ | refine SatL.pu (RunV.nil_yield rfl) rfl ?_
    refine SatL.guard_y rfl rfl ?_
    first | refine SatL.pu (RunV.fieldAddrL rfl rfl rfl) rfl ?_ | refine SatL.pu (RunV.fieldAddr rfl rfl rfl) rfl ?_
    refine SatL.guard_y rfl rfl ?_
    first | refine SatL.pu (RunV.fieldAddrL rfl rfl rfl) rfl ?_ | refine SatL.pu (RunV.fieldAddr rfl rfl rfl) rfl ?_
    refine SatL.guard_y rfl rfl ?_
    refine SatL.pu (RunV.load1 hS rfl rfl (by repeat constructor) rfl) rfl ?_
    refine SatL.guard_y rfl rfl ?_
    refine SatL.pu (RunV.eql rfl rfl) rfl ?_
    refine SatL.pu (RunV.pick_f rfl rfl) rfl ?_
    refine SatL.pu (RunV.assign rfl) rfl ?_
    refine SatL.nil (SatE.thenC ?_)
    refine SatC.ret ?_
    refine SatE.ret1 rfl rfl ?_
    exact ⟨by first | rfl | simp [hk], St.ro hown hS (by repeat constructor)⟩
  · (try simp only [cx, ne_eq] at h1)
    try (exfalso; (first | omega | exact h1 trivial | contradiction); done)
    all_goals
    refine SatL.guard_n rfl rfl rfl rfl ?_
    refine SatL.guard_n rfl rfl rfl rfl ?_
    refine SatL.guard_n rfl rfl rfl rfl ?_
    refine SatL.guard_n rfl rfl rfl rfl ?_
    refine SatL.guard_n rfl rfl rfl rfl ?_
    refine SatL.pu (RunV.pick_t rfl rfl) rfl ?_
    refine SatL.pu (RunV.assign rfl) rfl ?_
    refine SatL.nil (SatE.thenC ?_)
    refine SatC.ret ?_
    refine SatE.ret1 rfl rfl ?_
    exact ⟨by first | rfl | simp [hk], St.ro hown hS (by repeat constructor)⟩
theorem stat_any (hown : Own w [(b, C 108 (hc f c))]) (hk : ¬ c.p.kind = 0) : Ret Try.prog 44 #[.pointer (some ⟨b, 0, none⟩)] w fun v w' => v = .int .i64 (stat c) ∧ St w [] [] w' := by
  have hS := St.init hown
  simp only [List.map_cons, List.map_nil] at hS
  refine Ret.enter Try.func44 Try.ntmps44 rfl rfl ?_
  simp only [argEnv, Nat.reduceAdd]
  refine SatC.seq ?_
  refine SatC.region ?_
  refine SatL.pu (RunV.assign rfl) rfl ?_
  refine SatL.nil (SatE.thenC ?_)
  refine SatC.seq ?_
  refine SatC.block ?_
  refine SatC.seq ?_
  refine SatC.region ?_
  refine SatL.pu (RunV.move rfl) rfl ?_
  refine SatL.op rfl (OpW.enter rfl rfl rfl (rfl) (none_any (hS.ownOf (by repeat constructor)) hk) ?_)
  rintro r1 w1 ⟨rfl, h⟩
  replace hS := St.callN hS h
  refine SatL.pu (RunV.assign rfl) rfl ?_
  refine SatL.nil (SatE.thenC ?_)
  refine SatC.cond rfl (fun h1 => ?_) (fun h1 => ?_)
  · (try simp only [cx, ne_eq] at h1)
    try (exfalso; (first | omega | exact h1 trivial | contradiction); done)
    all_goals
    refine SatC.seq ?_
    refine SatC.region ?_
    refine SatL.pu (RunV.assign rfl) rfl ?_
    refine SatL.nil (SatE.thenC ?_)
    refine SatC.ret (SatE.blk_ret (SatE.then_ret ?_))
    refine SatE.ret1 rfl rfl ?_
    exact ⟨by simp_all [stat], St.ro hown hS (by repeat constructor)⟩
  · (try simp only [cx, ne_eq] at h1)
    try (exfalso; (first | omega | exact h1 trivial | contradiction); done)
    all_goals
    refine SatC.seq ?_
    refine SatC.region ?_
    refine SatL.pu (RunV.move rfl) rfl ?_
    first | refine SatL.pu (RunV.nil_ptr rfl) rfl ?_ | refine SatL.pu (RunV.nil_func rfl) rfl ?_ | refine SatL.pu (RunV.nil_yield rfl) rfl ?_
    first | refine SatL.pu (RunV.fieldAddrL rfl rfl rfl) rfl ?_ | refine SatL.pu (RunV.fieldAddr rfl rfl rfl) rfl ?_
    refine SatL.pu (RunV.load1 hS rfl rfl (by repeat constructor) rfl) rfl ?_
    refine SatL.pu (RunV.assign rfl) rfl ?_
    refine SatL.nil (SatE.thenC ?_)
    refine SatC.cond rfl (fun h2 => ?_) (fun h2 => ?_)
    · (try simp only [cx, ne_eq] at h2)
      try (exfalso; (first | omega | exact h2 trivial | contradiction); done)
      all_goals
      refine SatC.seq ?_
      refine SatC.region ?_
      refine SatL.pu (RunV.assign rfl) rfl ?_
      refine SatL.nil (SatE.thenC ?_)
      refine SatC.ret (SatE.blk_ret (SatE.then_ret ?_))
      refine SatE.ret1 rfl rfl ?_
      exact ⟨by simp_all [stat], St.ro hown hS (by repeat constructor)⟩
    · (try simp only [cx, ne_eq] at h2)
      try (exfalso; (first | omega | exact h2 trivial | contradiction); done)
      all_goals
      refine SatC.skip (SatE.blk_normal (SatE.thenC ?_))
      refine SatC.seq ?_
      refine SatC.region ?_
      refine SatL.pu (RunV.move rfl) rfl ?_
      first | refine SatL.pu (RunV.nil_ptr rfl) rfl ?_ | refine SatL.pu (RunV.nil_func rfl) rfl ?_ | refine SatL.pu (RunV.nil_yield rfl) rfl ?_
      first | refine SatL.pu (RunV.fieldAddrL rfl rfl rfl) rfl ?_ | refine SatL.pu (RunV.fieldAddr rfl rfl rfl) rfl ?_
      refine SatL.pu (RunV.load1 hS rfl rfl (by repeat constructor) rfl) rfl ?_
      refine SatL.pu (RunV.assign rfl) rfl ?_
      refine SatL.nil (SatE.thenC ?_)
      refine SatC.ret ?_
      refine SatE.ret1 rfl rfl ?_
      exact ⟨by simp_all [stat], St.ro hown hS (by repeat constructor)⟩
theorem over_any (hown : Own w [(b, C 108 (hc f c))]) (hk : ¬ c.p.kind = 0) : Ret Try.prog 37 #[.pointer (some ⟨b, 0, none⟩)] w fun v w' => v = .bool (over c) ∧ St w [] [] w' := by
  have hS := St.init hown
  simp only [List.map_cons, List.map_nil] at hS
  refine Ret.enter Try.func37 Try.ntmps37 rfl rfl ?_
  simp only [argEnv, Nat.reduceAdd]
  refine SatC.seq ?_
  refine SatC.region ?_
  refine SatL.pu (RunV.assign rfl) rfl ?_
  refine SatL.nil (SatE.thenC ?_)
  refine SatC.seq ?_
  refine SatC.drawnT 24 hS (hS) (by kernel_rfl) ?_
  clear hS
  intro w1 hh hS hD
  refine SatD.tk 0 rfl hD (fun _ hw => RunV.move rfl) ?_
  refine SatD.ef 1 rfl (OpW.enter rfl rfl rfl (rfl) (none_any (hS.ownOf (by repeat constructor)) hk) ?_)
  rintro r2 w2 ⟨rfl, h⟩
  replace hS := St.callN hS h
  refine keepS (hS.sb (by repeat constructor)) (fun hD => ?_)
  refine SatD.tk 2 rfl hD (fun _ hw => RunV.not rfl) ?_
  refine SatD.tk 3 rfl hD (fun _ hw => RunV.move rfl) ?_
  refine SatD.ways 6 rfl (fun h1 => ?_) (fun h1 => ?_)
  · (try simp only [cx, ne_eq] at h1)
    try (exfalso; (first | omega | exact h1 trivial | contradiction); done)
    all_goals
    refine SatD.tk 4 rfl hD (fun _ hw => RunV.move rfl) ?_
    first | refine SatD.tk 5 rfl hD (fun _ hw => RunV.nil_ptr rfl) ?_ | refine SatD.tk 5 rfl hD (fun _ hw => RunV.nil_func rfl) ?_ | refine SatD.tk 5 rfl hD (fun _ hw => RunV.nil_yield rfl) ?_
    first | refine SatD.tk 6 rfl hD (fun _ hw => RunV.fieldAddrL rfl rfl rfl) ?_ | refine SatD.tk 6 rfl hD (fun _ hw => RunV.fieldAddr rfl rfl rfl) ?_
    first | refine SatD.tk 7 rfl hD (fun _ hw => RunV.fieldAddrL rfl rfl rfl) ?_ | refine SatD.tk 7 rfl hD (fun _ hw => RunV.fieldAddr rfl rfl rfl) ?_
    refine SatD.tk 8 rfl hD (fun _ hw => RunV.load1 hw rfl rfl (by repeat constructor) rfl) ?_
    refine SatD.tk 9 rfl hD (fun _ hw => RunV.gtr rfl rfl) ?_
    refine SatD.tk 10 rfl hD (fun _ hw => RunV.pick_t rfl rfl) ?_
    refine SatD.tk 11 rfl hD (fun _ hw => RunV.move rfl) ?_
    refine SatD.ways 14 rfl (fun h2 => ?_) (fun h2 => ?_)
    · (try simp only [cx, ne_eq] at h2)
      try (exfalso; (first | omega | exact h2 trivial | contradiction); done)
      all_goals
      refine SatD.tk 12 rfl hD (fun _ hw => RunV.move rfl) ?_
      first | refine SatD.tk 13 rfl hD (fun _ hw => RunV.nil_ptr rfl) ?_ | refine SatD.tk 13 rfl hD (fun _ hw => RunV.nil_func rfl) ?_ | refine SatD.tk 13 rfl hD (fun _ hw => RunV.nil_yield rfl) ?_
      first | refine SatD.tk 14 rfl hD (fun _ hw => RunV.fieldAddrL rfl rfl rfl) ?_ | refine SatD.tk 14 rfl hD (fun _ hw => RunV.fieldAddr rfl rfl rfl) ?_
      refine SatD.tk 15 rfl hD (fun _ hw => RunV.load1 hw rfl rfl (by repeat constructor) rfl) ?_
      refine SatD.tk 16 rfl hD (fun _ hw => RunV.move rfl) ?_
      first | refine SatD.tk 17 rfl hD (fun _ hw => RunV.nil_ptr rfl) ?_ | refine SatD.tk 17 rfl hD (fun _ hw => RunV.nil_func rfl) ?_ | refine SatD.tk 17 rfl hD (fun _ hw => RunV.nil_yield rfl) ?_
      first | refine SatD.tk 18 rfl hD (fun _ hw => RunV.fieldAddrL rfl rfl rfl) ?_ | refine SatD.tk 18 rfl hD (fun _ hw => RunV.fieldAddr rfl rfl rfl) ?_
      first | refine SatD.tk 19 rfl hD (fun _ hw => RunV.fieldAddrL rfl rfl rfl) ?_ | refine SatD.tk 19 rfl hD (fun _ hw => RunV.fieldAddr rfl rfl rfl) ?_
      refine SatD.tk 20 rfl hD (fun _ hw => RunV.load1 hw rfl rfl (by repeat constructor) rfl) ?_
      refine SatD.tk 21 rfl hD (fun _ hw => RunV.geq rfl rfl) ?_
      refine SatD.tk 22 rfl hD (fun _ hw => RunV.pick_t rfl rfl) ?_
      refine SatD.tk 23 rfl hD (fun _ hw => RunV.assign rfl) ?_
      refine SatD.done 0 (by kernel_rfl) (SatE.thenC ?_)
      clear hD
      refine SatC.ret ?_
      refine SatE.ret1 rfl rfl ?_
      refine ⟨congrArg Value.bool ?_, St.ro hown hS (by repeat constructor)⟩
      rw [Bool.eq_iff_iff]
      simp only [decide_eq_true_eq, Bool.false_eq_true, false_iff, over]
      omega
    · (try simp only [cx, ne_eq] at h2)
      try (exfalso; (first | omega | exact h2 trivial | contradiction); done)
      all_goals
      refine SatD.sk 12 rfl [] hD ?_
      refine SatD.sk 13 rfl [] hD ?_
      refine SatD.sk 14 rfl [] hD ?_
      refine SatD.sk 15 rfl [] hD ?_
      refine SatD.sk 16 rfl [] hD ?_
      refine SatD.sk 17 rfl [] hD ?_
      refine SatD.sk 18 rfl [] hD ?_
      refine SatD.sk 19 rfl [] hD ?_
      refine SatD.sk 20 rfl [] hD ?_
      refine SatD.sk 21 rfl [] hD ?_
      refine SatD.tk 22 rfl hD (fun _ hw => RunV.pick_f rfl rfl) ?_
      refine SatD.tk 23 rfl hD (fun _ hw => RunV.assign rfl) ?_
      refine SatD.done 0 (by kernel_rfl) (SatE.thenC ?_)
      clear hD
      refine SatC.ret ?_
      refine SatE.ret1 rfl rfl ?_
      refine ⟨congrArg Value.bool ?_, St.ro hown hS (by repeat constructor)⟩
      rw [Bool.eq_iff_iff]
      simp only [decide_eq_true_eq, Bool.false_eq_true, false_iff, over]
      omega
  · (try simp only [cx, ne_eq] at h1)
    try (exfalso; (first | omega | exact h1 trivial | contradiction); done)
    all_goals
    refine SatD.sk 4 rfl [] hD ?_
    refine SatD.sk 5 rfl [] hD ?_
    refine SatD.sk 6 rfl [] hD ?_
    refine SatD.sk 7 rfl [] hD ?_
    refine SatD.sk 8 rfl [] hD ?_
    refine SatD.sk 9 rfl [] hD ?_
    refine SatD.tk 10 rfl hD (fun _ hw => RunV.pick_f rfl rfl) ?_
    refine SatD.tk 11 rfl hD (fun _ hw => RunV.move rfl) ?_
    refine SatD.sk 12 rfl [] hD ?_
    refine SatD.sk 13 rfl [] hD ?_
    refine SatD.sk 14 rfl [] hD ?_
    refine SatD.sk 15 rfl [] hD ?_
    refine SatD.sk 16 rfl [] hD ?_
    refine SatD.sk 17 rfl [] hD ?_
    refine SatD.sk 18 rfl [] hD ?_
    refine SatD.sk 19 rfl [] hD ?_
    refine SatD.sk 20 rfl [] hD ?_
    refine SatD.sk 21 rfl [] hD ?_
    refine SatD.tk 22 rfl hD (fun _ hw => RunV.pick_f rfl rfl) ?_
    refine SatD.tk 23 rfl hD (fun _ hw => RunV.assign rfl) ?_
    refine SatD.done 0 (by kernel_rfl) (SatE.thenC ?_)
    clear hD
    refine SatC.ret ?_
    refine SatE.ret1 rfl rfl ?_
    refine ⟨congrArg Value.bool ?_, St.ro hown hS (by repeat constructor)⟩
    rw [Bool.eq_iff_iff]
    simp only [decide_eq_true_eq, Bool.false_eq_true, false_iff, over]
    omega
theorem plan_any (hown : Own w [(b, C 108 (hc f c))]) (hk : ¬ c.p.kind = 0) : Ret Try.prog 35 #[.pointer (some ⟨b, 0, none⟩)] w fun v w' => v = .agg (plc c.p).toArray ∧ St w [] [] w' := by
  have hS := St.init hown
  simp only [List.map_cons, List.map_nil] at hS
  refine Ret.enter Try.func35 Try.ntmps35 rfl rfl ?_
  simp only [argEnv, Nat.reduceAdd]
  refine SatC.seq ?_
  refine SatC.region ?_
  refine SatL.op rfl (OpW.alloc hS rfl rfl (by repeat constructor) ?_)
  clear hS
  intro b2 w1 _ hS
  refine SatL.nil (SatE.thenC ?_)
  refine SatC.seq ?_
  refine SatC.seq ?_
  refine SatC.region ?_
  refine SatL.pu (RunV.move rfl) rfl ?_
  refine SatL.op rfl (OpW.enter rfl rfl rfl (rfl) (none_any (hS.ownOf (by repeat constructor)) hk) ?_)
  rintro r2 w2 ⟨rfl, h⟩
  replace hS := St.callN hS h
  refine SatL.nil (SatE.thenC ?_)
  refine SatC.cond rfl (fun h1 => ?_) (fun h1 => ?_)
  · (try simp only [cx, ne_eq] at h1)
    try (exfalso; (first | omega | exact h1 trivial | contradiction); done)
    all_goals
    refine SatC.seq ?_
    refine SatC.region ?_
    refine SatL.pu (RunV.build rfl (by simp [go_sem]; try rfl)) rfl ?_
    refine SatL.op rfl (OpW.store hS rfl rfl (by repeat constructor) (by repeat constructor) (by repeat constructor) rfl rfl ?_)
    clear hS
    intro w3 hS
    refine SatL.nil (SatE.thenC ?_)
    refine SatC.ret (SatE.then_ret ?_)
    refine SatE.retG1 hS rfl (.cellN rfl rfl (by repeat constructor) (by repeat constructor)) ?_
    exact ⟨rfl, St.ro hown hS (by repeat constructor)⟩
  · (try simp only [cx, ne_eq] at h1)
    try (exfalso; (first | omega | exact h1 trivial | contradiction); done)
    all_goals
    refine SatC.skip (SatE.thenC ?_)
    refine SatC.seq ?_
    refine SatC.region ?_
    refine SatL.pu (RunV.move rfl) rfl ?_
    first | refine SatL.pu (RunV.nil_ptr rfl) rfl ?_ | refine SatL.pu (RunV.nil_func rfl) rfl ?_ | refine SatL.pu (RunV.nil_yield rfl) rfl ?_
    first | refine SatL.pu (RunV.fieldAddrL rfl rfl rfl) rfl ?_ | refine SatL.pu (RunV.fieldAddr rfl rfl rfl) rfl ?_
    refine SatL.pu (RunV.loadN hS rfl rfl (by repeat constructor) (by repeat constructor)) rfl ?_
    refine SatL.op rfl (OpW.store hS rfl rfl (by repeat constructor) (by repeat constructor) (by repeat constructor) rfl rfl ?_)
    clear hS
    intro w3 hS
    refine SatL.nil (SatE.thenC ?_)
    refine SatC.ret ?_
    refine SatE.retG1 hS rfl (.cellN rfl rfl (by repeat constructor) (by repeat constructor)) ?_
    exact ⟨rfl, St.ro hown hS (by repeat constructor)⟩
theorem maint_any (on : Bool) (hown : Own w [(b, C 108 (hc f c))]) (hk : ¬ c.p.kind = 0) : Ret Try.prog 64 #[.pointer (some ⟨b, 0, none⟩), .bool on] w fun v w' => St w [b] [(b, C 108 (hc f { c with maint := on }))] w' := by
  have hS := St.init hown
  simp only [List.map_cons, List.map_nil] at hS
  refine Ret.enter Try.func64 Try.ntmps64 rfl rfl ?_
  simp only [argEnv, Nat.reduceAdd]
  refine SatC.seq ?_
  refine SatC.region ?_
  refine SatL.pu (RunV.move rfl) rfl ?_
  refine SatL.op rfl (OpW.enter rfl rfl rfl (rfl) (none_any (hS.ownOf (by repeat constructor)) hk) ?_)
  rintro r1 w1 ⟨rfl, h⟩
  replace hS := St.callN hS h
  refine SatL.pu (RunV.not rfl) rfl ?_
  refine SatL.nil (SatE.thenC ?_)
  refine SatC.cond rfl (fun h1 => ?_) (fun h1 => ?_)
  · (try simp only [cx, ne_eq] at h1)
    try (exfalso; (first | omega | exact h1 trivial | contradiction); done)
    all_goals
    refine SatC.region ?_
    refine SatL.pu (RunV.move rfl) rfl ?_
    refine SatL.pu (RunV.move rfl) rfl ?_
    first | refine SatL.pu (RunV.nil_ptr rfl) rfl ?_ | refine SatL.pu (RunV.nil_func rfl) rfl ?_ | refine SatL.pu (RunV.nil_yield rfl) rfl ?_
    first | refine SatL.pu (RunV.fieldAddrL rfl rfl rfl) rfl ?_ | refine SatL.pu (RunV.fieldAddr rfl rfl rfl) rfl ?_
    refine SatL.op rfl (OpW.store hS rfl rfl (by repeat constructor) (by repeat constructor) (by repeat constructor) rfl rfl ?_)
    clear hS
    intro w2 hS
    refine SatL.nil ?_
    refine SatE.fin0 rfl ?_
    exact hS
  · (try simp only [cx, ne_eq] at h1)
    try (exfalso; (first | omega | exact h1 trivial | contradiction); done)
    all_goals
    refine SatC.skip ?_
    refine SatE.fin0 rfl ?_
    exact hS
theorem tell_any (q : Bool) (hown : Own w [(b, C 108 (hc f c))]) (hb : Bd 1000000 c) : Ret Try.prog 80 #[.pointer (some ⟨b, 0, none⟩), .bool q] w fun v w' => St w [b] [(b, C 108 (hc f (if q then { c with good := c.good + 1, other := 0 } else { c with good := 0, other := c.other + 1 })))] w' := by
  have hS := St.init hown
  simp only [List.map_cons, List.map_nil] at hS
  unfold Bd at hb
  refine Ret.enter Try.func80 Try.ntmps80 rfl rfl ?_
  simp only [argEnv, Nat.reduceAdd]
  refine SatC.seq ?_
  refine SatC.seq ?_
  refine SatC.region ?_
  refine SatL.pu (RunV.move rfl) rfl ?_
  refine SatL.nil (SatE.thenC ?_)
  refine SatC.cond rfl (fun h1 => ?_) (fun h1 => ?_)
  · (try simp only [cx, ne_eq] at h1)
    try (exfalso; (first | omega | exact h1 trivial | contradiction); done)
    all_goals
    refine SatC.seq ?_
    refine SatC.region ?_
    refine SatL.pu (RunV.move rfl) rfl ?_
    refine SatL.pu (RunV.move rfl) rfl ?_
    refine SatL.pu (RunV.move rfl) rfl ?_
    first | refine SatL.pu (RunV.nil_ptr rfl) rfl ?_ | refine SatL.pu (RunV.nil_func rfl) rfl ?_ | refine SatL.pu (RunV.nil_yield rfl) rfl ?_
    first | refine SatL.pu (RunV.fieldAddrL rfl rfl rfl) rfl ?_ | refine SatL.pu (RunV.fieldAddr rfl rfl rfl) rfl ?_
    refine SatL.pu (RunV.load1 hS rfl rfl (by repeat constructor) rfl) rfl ?_
    refine SatL.pu (RunV.add rfl rfl (by first | exact wrapI64 (by omega) | rfl)) rfl ?_
    first | refine SatL.pu (RunV.nil_ptr rfl) rfl ?_ | refine SatL.pu (RunV.nil_func rfl) rfl ?_ | refine SatL.pu (RunV.nil_yield rfl) rfl ?_
    first | refine SatL.pu (RunV.fieldAddrL rfl rfl rfl) rfl ?_ | refine SatL.pu (RunV.fieldAddr rfl rfl rfl) rfl ?_
    refine SatL.op rfl (OpW.store hS rfl rfl (by repeat constructor) (by repeat constructor) (by repeat constructor) rfl rfl ?_)
    clear hS
    intro w1 hS
    first | refine SatL.pu (RunV.nil_ptr rfl) rfl ?_ | refine SatL.pu (RunV.nil_func rfl) rfl ?_ | refine SatL.pu (RunV.nil_yield rfl) rfl ?_
    first | refine SatL.pu (RunV.fieldAddrL rfl rfl rfl) rfl ?_ | refine SatL.pu (RunV.fieldAddr rfl rfl rfl) rfl ?_
    refine SatL.op rfl (OpW.store hS rfl rfl (by repeat constructor) (by repeat constructor) (by repeat constructor) rfl rfl ?_)
    clear hS
    intro w2 hS
    refine SatL.nil (SatE.thenC ?_)
    refine SatC.ret (SatE.then_ret ?_)
    refine SatE.ret0 rfl ?_
    subst h1; exact hS
  · (try simp only [cx, ne_eq] at h1)
    try (exfalso; (first | omega | exact h1 trivial | contradiction); done)
    all_goals
    refine SatC.skip (SatE.thenC ?_)
    refine SatC.region ?_
    refine SatL.pu (RunV.move rfl) rfl ?_
    refine SatL.pu (RunV.move rfl) rfl ?_
    refine SatL.pu (RunV.move rfl) rfl ?_
    first | refine SatL.pu (RunV.nil_ptr rfl) rfl ?_ | refine SatL.pu (RunV.nil_func rfl) rfl ?_ | refine SatL.pu (RunV.nil_yield rfl) rfl ?_
    first | refine SatL.pu (RunV.fieldAddrL rfl rfl rfl) rfl ?_ | refine SatL.pu (RunV.fieldAddr rfl rfl rfl) rfl ?_
    refine SatL.pu (RunV.load1 hS rfl rfl (by repeat constructor) rfl) rfl ?_
    refine SatL.pu (RunV.add rfl rfl (by first | exact wrapI64 (by omega) | rfl)) rfl ?_
    first | refine SatL.pu (RunV.nil_ptr rfl) rfl ?_ | refine SatL.pu (RunV.nil_func rfl) rfl ?_ | refine SatL.pu (RunV.nil_yield rfl) rfl ?_
    first | refine SatL.pu (RunV.fieldAddrL rfl rfl rfl) rfl ?_ | refine SatL.pu (RunV.fieldAddr rfl rfl rfl) rfl ?_
    refine SatL.op rfl (OpW.store hS rfl rfl (by repeat constructor) (by repeat constructor) (by repeat constructor) rfl rfl ?_)
    clear hS
    intro w1 hS
    first | refine SatL.pu (RunV.nil_ptr rfl) rfl ?_ | refine SatL.pu (RunV.nil_func rfl) rfl ?_ | refine SatL.pu (RunV.nil_yield rfl) rfl ?_
    first | refine SatL.pu (RunV.fieldAddrL rfl rfl rfl) rfl ?_ | refine SatL.pu (RunV.fieldAddr rfl rfl rfl) rfl ?_
    refine SatL.op rfl (OpW.store hS rfl rfl (by repeat constructor) (by repeat constructor) (by repeat constructor) rfl rfl ?_)
    clear hS
    intro w2 hS
    refine SatL.nil ?_
    refine SatE.fin0 rfl ?_
    subst h1; exact hS
theorem tell_t (hown : Own w [(b, C 108 (hc f c))]) (hb : Bd 1000000 c) : Ret Try.prog 80 #[.pointer (some ⟨b, 0, none⟩), .bool true] w fun v w' => St w [b] [(b, C 108 (hc f { c with good := c.good + 1, other := 0 }))] w' :=
  (tell_any true hown hb).mono fun _ _ h => by simpa only [if_pos] using h
theorem tell_f (hown : Own w [(b, C 108 (hc f c))]) (hb : Bd 1000000 c) : Ret Try.prog 80 #[.pointer (some ⟨b, 0, none⟩), .bool false] w fun v w' => St w [b] [(b, C 108 (hc f { c with good := 0, other := c.other + 1 }))] w' :=
  (tell_any false hown hb).mono fun _ _ h => by simpa only [Bool.false_eq_true, if_false] using h
theorem lasting_any (s : Int) (hown : Own w [(b, C 108 (hc f c))]) : Ret Try.prog 74 #[.pointer (some ⟨b, 0, none⟩), .int .i64 s] w fun v w' => St w [b] [(b, C 108 (hc f { c with bare := s, age := 0 }))] w' := by
  have hS := St.init hown
  simp only [List.map_cons, List.map_nil] at hS
  refine Ret.enter Try.func74 Try.ntmps74 rfl rfl ?_
  simp only [argEnv, Nat.reduceAdd]
  refine SatC.region ?_
  refine SatL.pu (RunV.move rfl) rfl ?_
  refine SatL.pu (RunV.move rfl) rfl ?_
  refine SatL.pu (RunV.move rfl) rfl ?_
  first | refine SatL.pu (RunV.nil_ptr rfl) rfl ?_ | refine SatL.pu (RunV.nil_func rfl) rfl ?_ | refine SatL.pu (RunV.nil_yield rfl) rfl ?_
  first | refine SatL.pu (RunV.fieldAddrL rfl rfl rfl) rfl ?_ | refine SatL.pu (RunV.fieldAddr rfl rfl rfl) rfl ?_
  refine SatL.op rfl (OpW.store hS rfl rfl (by repeat constructor) (by repeat constructor) (by repeat constructor) rfl rfl ?_)
  clear hS
  intro w1 hS
  first | refine SatL.pu (RunV.nil_ptr rfl) rfl ?_ | refine SatL.pu (RunV.nil_func rfl) rfl ?_ | refine SatL.pu (RunV.nil_yield rfl) rfl ?_
  first | refine SatL.pu (RunV.fieldAddrL rfl rfl rfl) rfl ?_ | refine SatL.pu (RunV.fieldAddr rfl rfl rfl) rfl ?_
  refine SatL.op rfl (OpW.store hS rfl rfl (by repeat constructor) (by repeat constructor) (by repeat constructor) rfl rfl ?_)
  clear hS
  intro w2 hS
  refine SatL.nil ?_
  refine SatE.fin0 rfl ?_
  exact hS
theorem counted_any (s : Int) (hown : Own w [(b, C 108 (hc f c))]) (hb : Bd 1000000 c) : Ret Try.prog 73 #[.pointer (some ⟨b, 0, none⟩), .int .i64 s] w fun v w' => St w [b] [(b, C 108 (hc f (cntC c s)))] w' := by
  have hS := St.init hown
  simp only [List.map_cons, List.map_nil] at hS
  by_cases hz : s = 0
  · subst hz
    refine Ret.enter Try.func73 Try.ntmps73 rfl rfl ?_
    simp only [argEnv, Nat.reduceAdd]
    refine SatC.seq ?_
    refine SatC.region ?_
    refine SatL.pu (RunV.move rfl) rfl ?_
    refine SatL.pu (RunV.eql rfl rfl) rfl ?_
    refine SatL.pu (RunV.assign rfl) rfl ?_
    refine SatL.nil (SatE.thenC ?_)
    refine SatC.seq ?_
    refine SatC.region ?_
    refine SatL.pu (RunV.move rfl) rfl ?_
    first | refine SatL.pu (RunV.nil_ptr rfl) rfl ?_ | refine SatL.pu (RunV.nil_func rfl) rfl ?_ | refine SatL.pu (RunV.nil_yield rfl) rfl ?_
    first | refine SatL.pu (RunV.fieldAddrL rfl rfl rfl) rfl ?_ | refine SatL.pu (RunV.fieldAddr rfl rfl rfl) rfl ?_
    refine SatL.pu (RunV.move rfl) rfl ?_
    refine SatL.op rfl (OpW.enter rfl rfl rfl (rfl) (tell_t (hS.ownOf (by repeat constructor)) hb) ?_)
    rintro r1 w1 h
    replace hS := hS.callR (A := [(b, C 108 (hc f c))]) (by repeat constructor) h
    refine SatL.nil (SatE.thenC ?_)
    refine SatC.seq ?_
    refine SatC.drawnT 31 hS (hS) (by kernel_rfl) ?_
    clear hS
    intro w2 hh hS hD
    refine SatD.tk 0 rfl hD (fun _ hw => RunV.move rfl) ?_
    refine SatD.tk 1 rfl hD (fun _ hw => RunV.move rfl) ?_
    refine SatD.ways 13 rfl (fun h1 => ?_) (fun h1 => ?_)
    · (try simp only [cx, ne_eq] at h1)
      try (exfalso; (first | omega | exact h1 trivial | contradiction); done)
      all_goals
      refine SatD.tk 2 rfl hD (fun _ hw => RunV.move rfl) ?_
      first | refine SatD.tk 3 rfl hD (fun _ hw => RunV.nil_ptr rfl) ?_ | refine SatD.tk 3 rfl hD (fun _ hw => RunV.nil_func rfl) ?_ | refine SatD.tk 3 rfl hD (fun _ hw => RunV.nil_yield rfl) ?_
      first | refine SatD.tk 4 rfl hD (fun _ hw => RunV.fieldAddrL rfl rfl rfl) ?_ | refine SatD.tk 4 rfl hD (fun _ hw => RunV.fieldAddr rfl rfl rfl) ?_
      first | refine SatD.tk 5 rfl hD (fun _ hw => RunV.fieldAddrL rfl rfl rfl) ?_ | refine SatD.tk 5 rfl hD (fun _ hw => RunV.fieldAddr rfl rfl rfl) ?_
      refine SatD.tk 6 rfl hD (fun _ hw => RunV.load1 hw rfl rfl (by repeat constructor) rfl) ?_
      refine SatD.tk 7 rfl hD (fun _ hw => RunV.move rfl) ?_
      first | refine SatD.tk 8 rfl hD (fun _ hw => RunV.nil_ptr rfl) ?_ | refine SatD.tk 8 rfl hD (fun _ hw => RunV.nil_func rfl) ?_ | refine SatD.tk 8 rfl hD (fun _ hw => RunV.nil_yield rfl) ?_
      first | refine SatD.tk 9 rfl hD (fun _ hw => RunV.fieldAddrL rfl rfl rfl) ?_ | refine SatD.tk 9 rfl hD (fun _ hw => RunV.fieldAddr rfl rfl rfl) ?_
      first | refine SatD.tk 10 rfl hD (fun _ hw => RunV.fieldAddrL rfl rfl rfl) ?_ | refine SatD.tk 10 rfl hD (fun _ hw => RunV.fieldAddr rfl rfl rfl) ?_
      refine SatD.tk 11 rfl hD (fun _ hw => RunV.load1 hw rfl rfl (by repeat constructor) rfl) ?_
      refine SatD.tk 12 rfl hD (fun _ hw => RunV.geq rfl rfl) ?_
      refine SatD.tk 13 rfl hD (fun _ hw => RunV.pick_t rfl rfl) ?_
      refine SatD.tk 14 rfl hD (fun _ hw => RunV.move rfl) ?_
      refine SatD.ways 26 rfl (fun h2 => ?_) (fun h2 => ?_)
      · (try simp only [cx, ne_eq] at h2)
        try (exfalso; (first | omega | exact h2 trivial | contradiction); done)
        all_goals
        refine SatD.sk 15 rfl [] hD ?_
        refine SatD.sk 16 rfl [] hD ?_
        refine SatD.sk 17 rfl [] hD ?_
        refine SatD.sk 18 rfl [] hD ?_
        refine SatD.sk 19 rfl [] hD ?_
        refine SatD.sk 20 rfl [] hD ?_
        refine SatD.sk 21 rfl [] hD ?_
        refine SatD.sk 22 rfl [] hD ?_
        refine SatD.sk 23 rfl [] hD ?_
        refine SatD.sk 24 rfl [] hD ?_
        refine SatD.sk 25 rfl [] hD ?_
        refine SatD.sk 26 rfl [] hD ?_
        refine SatD.sk 27 rfl [] hD ?_
        refine SatD.sk 28 rfl [] hD ?_
        refine SatD.sk 29 rfl [] hD ?_
        refine SatD.tk 30 rfl hD (fun _ hw => RunV.pick_t rfl rfl) ?_
        refine SatD.done 0 (by kernel_rfl) (SatE.thenC ?_)
        clear hD
        refine SatC.weak (e' := [(0, _), (1, _), (42, _)]) (by repeat constructor) ?_
        refine SatC.cond_t rfl ?_
        refine SatC.region ?_
        refine SatL.pu (RunV.move rfl) rfl ?_
        refine SatL.pu (RunV.move rfl) rfl ?_
        first | refine SatL.pu (RunV.nil_ptr rfl) rfl ?_ | refine SatL.pu (RunV.nil_func rfl) rfl ?_ | refine SatL.pu (RunV.nil_yield rfl) rfl ?_
        first | refine SatL.pu (RunV.fieldAddrL rfl rfl rfl) rfl ?_ | refine SatL.pu (RunV.fieldAddr rfl rfl rfl) rfl ?_
        refine SatL.op rfl (OpW.store hS rfl rfl (by repeat constructor) (by repeat constructor) (by repeat constructor) rfl rfl ?_)
        clear hS
        intro w3 hS
        refine SatL.nil ?_
        refine SatE.fin0 rfl ?_
        rw [cntC, if_pos rfl]
        first
        | (rw [if_pos (by omega)]; exact hS)
        | (rw [if_neg (by omega)]; exact hS)
      · (try simp only [cx, ne_eq] at h2)
        try (exfalso; (first | omega | exact h2 trivial | contradiction); done)
        all_goals
        refine SatD.tk 15 rfl hD (fun _ hw => RunV.move rfl) ?_
        refine SatD.tk 16 rfl hD (fun _ hw => RunV.not rfl) ?_
        refine SatD.tk 17 rfl hD (fun _ hw => RunV.move rfl) ?_
        refine SatD.ways 29 rfl (fun h3 => ?_) (fun h3 => ?_)
        · (try simp only [cx, ne_eq] at h3)
          try (exfalso; (first | omega | exact h3 trivial | contradiction); done)
          all_goals
          refine SatD.tk 18 rfl hD (fun _ hw => RunV.move rfl) ?_
          first | refine SatD.tk 19 rfl hD (fun _ hw => RunV.nil_ptr rfl) ?_ | refine SatD.tk 19 rfl hD (fun _ hw => RunV.nil_func rfl) ?_ | refine SatD.tk 19 rfl hD (fun _ hw => RunV.nil_yield rfl) ?_
          first | refine SatD.tk 20 rfl hD (fun _ hw => RunV.fieldAddrL rfl rfl rfl) ?_ | refine SatD.tk 20 rfl hD (fun _ hw => RunV.fieldAddr rfl rfl rfl) ?_
          first | refine SatD.tk 21 rfl hD (fun _ hw => RunV.fieldAddrL rfl rfl rfl) ?_ | refine SatD.tk 21 rfl hD (fun _ hw => RunV.fieldAddr rfl rfl rfl) ?_
          refine SatD.tk 22 rfl hD (fun _ hw => RunV.load1 hw rfl rfl (by repeat constructor) rfl) ?_
          refine SatD.tk 23 rfl hD (fun _ hw => RunV.move rfl) ?_
          first | refine SatD.tk 24 rfl hD (fun _ hw => RunV.nil_ptr rfl) ?_ | refine SatD.tk 24 rfl hD (fun _ hw => RunV.nil_func rfl) ?_ | refine SatD.tk 24 rfl hD (fun _ hw => RunV.nil_yield rfl) ?_
          first | refine SatD.tk 25 rfl hD (fun _ hw => RunV.fieldAddrL rfl rfl rfl) ?_ | refine SatD.tk 25 rfl hD (fun _ hw => RunV.fieldAddr rfl rfl rfl) ?_
          first | refine SatD.tk 26 rfl hD (fun _ hw => RunV.fieldAddrL rfl rfl rfl) ?_ | refine SatD.tk 26 rfl hD (fun _ hw => RunV.fieldAddr rfl rfl rfl) ?_
          refine SatD.tk 27 rfl hD (fun _ hw => RunV.load1 hw rfl rfl (by repeat constructor) rfl) ?_
          refine SatD.tk 28 rfl hD (fun _ hw => RunV.geq rfl rfl) ?_
          refine SatD.tk 29 rfl hD (fun _ hw => RunV.pick_t rfl rfl) ?_
          refine SatD.tk 30 rfl hD (fun _ hw => RunV.pick_f rfl rfl) ?_
          refine SatD.done 0 (by kernel_rfl) (SatE.thenC ?_)
          clear hD
          refine SatC.weak (e' := [(0, _), (1, _), (42, _)]) (by repeat constructor) ?_
          refine SatC.cond rfl (fun h4 => ?_) (fun h4 => ?_)
          · (try simp only [cx, ne_eq] at h4)
            try (exfalso; (first | omega | exact h4 trivial | contradiction); done)
            all_goals
            refine SatC.region ?_
            refine SatL.pu (RunV.move rfl) rfl ?_
            refine SatL.pu (RunV.move rfl) rfl ?_
            first | refine SatL.pu (RunV.nil_ptr rfl) rfl ?_ | refine SatL.pu (RunV.nil_func rfl) rfl ?_ | refine SatL.pu (RunV.nil_yield rfl) rfl ?_
            first | refine SatL.pu (RunV.fieldAddrL rfl rfl rfl) rfl ?_ | refine SatL.pu (RunV.fieldAddr rfl rfl rfl) rfl ?_
            refine SatL.op rfl (OpW.store hS rfl rfl (by repeat constructor) (by repeat constructor) (by repeat constructor) rfl rfl ?_)
            clear hS
            intro w3 hS
            refine SatL.nil ?_
            refine SatE.fin0 rfl ?_
            rw [cntC, if_pos rfl]
            first
            | (rw [if_pos (by omega)]; exact hS)
            | (rw [if_neg (by omega)]; exact hS)
          · (try simp only [cx, ne_eq] at h4)
            try (exfalso; (first | omega | exact h4 trivial | contradiction); done)
            all_goals
            refine SatC.skip ?_
            refine SatE.fin0 rfl ?_
            rw [cntC, if_pos rfl]
            first
            | (rw [if_pos (by omega)]; exact hS)
            | (rw [if_neg (by omega)]; exact hS)
        · (try simp only [cx, ne_eq] at h3)
          try (exfalso; (first | omega | exact h3 trivial | contradiction); done)
          all_goals
          refine SatD.sk 18 rfl [] hD ?_
          refine SatD.sk 19 rfl [] hD ?_
          refine SatD.sk 20 rfl [] hD ?_
          refine SatD.sk 21 rfl [] hD ?_
          refine SatD.sk 22 rfl [] hD ?_
          refine SatD.sk 23 rfl [] hD ?_
          refine SatD.sk 24 rfl [] hD ?_
          refine SatD.sk 25 rfl [] hD ?_
          refine SatD.sk 26 rfl [] hD ?_
          refine SatD.sk 27 rfl [] hD ?_
          refine SatD.sk 28 rfl [] hD ?_
          refine SatD.tk 29 rfl hD (fun _ hw => RunV.pick_f rfl rfl) ?_
          refine SatD.tk 30 rfl hD (fun _ hw => RunV.pick_f rfl rfl) ?_
          refine SatD.done 0 (by kernel_rfl) (SatE.thenC ?_)
          clear hD
          refine SatC.weak (e' := [(0, _), (1, _), (42, _)]) (by repeat constructor) ?_
          refine SatC.cond_f rfl ?_
          refine SatC.skip ?_
          refine SatE.fin0 rfl ?_
          rw [cntC, if_pos rfl]
          first
          | (rw [if_pos (by omega)]; exact hS)
          | (rw [if_neg (by omega)]; exact hS)
    · (try simp only [cx, ne_eq] at h1)
      try (exfalso; (first | omega | exact h1 trivial | contradiction); done)
      all_goals
      refine SatD.sk 2 rfl [] hD ?_
      refine SatD.sk 3 rfl [] hD ?_
      refine SatD.sk 4 rfl [] hD ?_
      refine SatD.sk 5 rfl [] hD ?_
      refine SatD.sk 6 rfl [] hD ?_
      refine SatD.sk 7 rfl [] hD ?_
      refine SatD.sk 8 rfl [] hD ?_
      refine SatD.sk 9 rfl [] hD ?_
      refine SatD.sk 10 rfl [] hD ?_
      refine SatD.sk 11 rfl [] hD ?_
      refine SatD.sk 12 rfl [] hD ?_
      refine SatD.tk 13 rfl hD (fun _ hw => RunV.pick_f rfl rfl) ?_
      refine SatD.tk 14 rfl hD (fun _ hw => RunV.move rfl) ?_
      refine SatD.tk 15 rfl hD (fun _ hw => RunV.move rfl) ?_
      refine SatD.tk 16 rfl hD (fun _ hw => RunV.not rfl) ?_
      refine SatD.tk 17 rfl hD (fun _ hw => RunV.move rfl) ?_
      refine SatD.ways 29 rfl (fun h2 => ?_) (fun h2 => ?_)
      · (try simp only [cx, ne_eq] at h2)
        try (exfalso; (first | omega | exact h2 trivial | contradiction); done)
        all_goals
        refine SatD.tk 18 rfl hD (fun _ hw => RunV.move rfl) ?_
        first | refine SatD.tk 19 rfl hD (fun _ hw => RunV.nil_ptr rfl) ?_ | refine SatD.tk 19 rfl hD (fun _ hw => RunV.nil_func rfl) ?_ | refine SatD.tk 19 rfl hD (fun _ hw => RunV.nil_yield rfl) ?_
        first | refine SatD.tk 20 rfl hD (fun _ hw => RunV.fieldAddrL rfl rfl rfl) ?_ | refine SatD.tk 20 rfl hD (fun _ hw => RunV.fieldAddr rfl rfl rfl) ?_
        first | refine SatD.tk 21 rfl hD (fun _ hw => RunV.fieldAddrL rfl rfl rfl) ?_ | refine SatD.tk 21 rfl hD (fun _ hw => RunV.fieldAddr rfl rfl rfl) ?_
        refine SatD.tk 22 rfl hD (fun _ hw => RunV.load1 hw rfl rfl (by repeat constructor) rfl) ?_
        refine SatD.tk 23 rfl hD (fun _ hw => RunV.move rfl) ?_
        first | refine SatD.tk 24 rfl hD (fun _ hw => RunV.nil_ptr rfl) ?_ | refine SatD.tk 24 rfl hD (fun _ hw => RunV.nil_func rfl) ?_ | refine SatD.tk 24 rfl hD (fun _ hw => RunV.nil_yield rfl) ?_
        first | refine SatD.tk 25 rfl hD (fun _ hw => RunV.fieldAddrL rfl rfl rfl) ?_ | refine SatD.tk 25 rfl hD (fun _ hw => RunV.fieldAddr rfl rfl rfl) ?_
        first | refine SatD.tk 26 rfl hD (fun _ hw => RunV.fieldAddrL rfl rfl rfl) ?_ | refine SatD.tk 26 rfl hD (fun _ hw => RunV.fieldAddr rfl rfl rfl) ?_
        refine SatD.tk 27 rfl hD (fun _ hw => RunV.load1 hw rfl rfl (by repeat constructor) rfl) ?_
        refine SatD.tk 28 rfl hD (fun _ hw => RunV.geq rfl rfl) ?_
        refine SatD.tk 29 rfl hD (fun _ hw => RunV.pick_t rfl rfl) ?_
        refine SatD.tk 30 rfl hD (fun _ hw => RunV.pick_f rfl rfl) ?_
        refine SatD.done 0 (by kernel_rfl) (SatE.thenC ?_)
        clear hD
        refine SatC.weak (e' := [(0, _), (1, _), (42, _)]) (by repeat constructor) ?_
        refine SatC.cond rfl (fun h3 => ?_) (fun h3 => ?_)
        · (try simp only [cx, ne_eq] at h3)
          try (exfalso; (first | omega | exact h3 trivial | contradiction); done)
          all_goals
          refine SatC.region ?_
          refine SatL.pu (RunV.move rfl) rfl ?_
          refine SatL.pu (RunV.move rfl) rfl ?_
          first | refine SatL.pu (RunV.nil_ptr rfl) rfl ?_ | refine SatL.pu (RunV.nil_func rfl) rfl ?_ | refine SatL.pu (RunV.nil_yield rfl) rfl ?_
          first | refine SatL.pu (RunV.fieldAddrL rfl rfl rfl) rfl ?_ | refine SatL.pu (RunV.fieldAddr rfl rfl rfl) rfl ?_
          refine SatL.op rfl (OpW.store hS rfl rfl (by repeat constructor) (by repeat constructor) (by repeat constructor) rfl rfl ?_)
          clear hS
          intro w3 hS
          refine SatL.nil ?_
          refine SatE.fin0 rfl ?_
          rw [cntC, if_pos rfl]
          first
          | (rw [if_pos (by omega)]; exact hS)
          | (rw [if_neg (by omega)]; exact hS)
        · (try simp only [cx, ne_eq] at h3)
          try (exfalso; (first | omega | exact h3 trivial | contradiction); done)
          all_goals
          refine SatC.skip ?_
          refine SatE.fin0 rfl ?_
          rw [cntC, if_pos rfl]
          first
          | (rw [if_pos (by omega)]; exact hS)
          | (rw [if_neg (by omega)]; exact hS)
      · (try simp only [cx, ne_eq] at h2)
        try (exfalso; (first | omega | exact h2 trivial | contradiction); done)
        all_goals
        refine SatD.sk 18 rfl [] hD ?_
        refine SatD.sk 19 rfl [] hD ?_
        refine SatD.sk 20 rfl [] hD ?_
        refine SatD.sk 21 rfl [] hD ?_
        refine SatD.sk 22 rfl [] hD ?_
        refine SatD.sk 23 rfl [] hD ?_
        refine SatD.sk 24 rfl [] hD ?_
        refine SatD.sk 25 rfl [] hD ?_
        refine SatD.sk 26 rfl [] hD ?_
        refine SatD.sk 27 rfl [] hD ?_
        refine SatD.sk 28 rfl [] hD ?_
        refine SatD.tk 29 rfl hD (fun _ hw => RunV.pick_f rfl rfl) ?_
        refine SatD.tk 30 rfl hD (fun _ hw => RunV.pick_f rfl rfl) ?_
        refine SatD.done 0 (by kernel_rfl) (SatE.thenC ?_)
        clear hD
        refine SatC.weak (e' := [(0, _), (1, _), (42, _)]) (by repeat constructor) ?_
        refine SatC.cond_f rfl ?_
        refine SatC.skip ?_
        refine SatE.fin0 rfl ?_
        rw [cntC, if_pos rfl]
        first
        | (rw [if_pos (by omega)]; exact hS)
        | (rw [if_neg (by omega)]; exact hS)
  · refine Ret.enter Try.func73 Try.ntmps73 rfl rfl ?_
    simp only [argEnv, Nat.reduceAdd]
    refine SatC.seq ?_
    refine SatC.region ?_
    refine SatL.pu (RunV.move rfl) rfl ?_
    refine SatL.pu (RunV.eql rfl rfl) rfl ?_
    refine SatL.pu (RunV.assign rfl) rfl ?_
    refine SatL.nil (SatE.thenC ?_)
    refine SatC.seq ?_
    refine SatC.alt 4 rfl (congrArg Value.bool (decide_eq_false hz)) ?_
    refine SatC.region ?_
    refine SatL.pu (RunV.move rfl) rfl ?_
    first | refine SatL.pu (RunV.nil_ptr rfl) rfl ?_ | refine SatL.pu (RunV.nil_func rfl) rfl ?_ | refine SatL.pu (RunV.nil_yield rfl) rfl ?_
    first | refine SatL.pu (RunV.fieldAddrL rfl rfl rfl) rfl ?_ | refine SatL.pu (RunV.fieldAddr rfl rfl rfl) rfl ?_
    refine SatL.pu (RunV.move rfl) rfl ?_
    refine SatL.op rfl (OpW.enter rfl rfl rfl (rfl) (tell_f (hS.ownOf (by repeat constructor)) hb) ?_)
    rintro r1 w1 h
    replace hS := hS.callR (A := [(b, C 108 (hc f c))]) (by repeat constructor) h
    refine SatL.nil (SatE.thenC ?_)
    refine SatC.seq ?_
    refine SatC.drawnT 31 hS (hS) (by kernel_rfl) ?_
    clear hS
    intro w2 hh hS hD
    refine SatD.tk 0 rfl hD (fun _ hw => RunV.move rfl) ?_
    refine SatD.tk 1 rfl hD (fun _ hw => RunV.move rfl) ?_
    refine SatD.ways 13 rfl (fun h1 => ?_) (fun h1 => ?_)
    · (try simp only [cx, ne_eq] at h1)
      try (exfalso; (first | omega | exact h1 trivial | contradiction); done)
      all_goals
      refine SatD.tk 2 rfl hD (fun _ hw => RunV.move rfl) ?_
      first | refine SatD.tk 3 rfl hD (fun _ hw => RunV.nil_ptr rfl) ?_ | refine SatD.tk 3 rfl hD (fun _ hw => RunV.nil_func rfl) ?_ | refine SatD.tk 3 rfl hD (fun _ hw => RunV.nil_yield rfl) ?_
      first | refine SatD.tk 4 rfl hD (fun _ hw => RunV.fieldAddrL rfl rfl rfl) ?_ | refine SatD.tk 4 rfl hD (fun _ hw => RunV.fieldAddr rfl rfl rfl) ?_
      first | refine SatD.tk 5 rfl hD (fun _ hw => RunV.fieldAddrL rfl rfl rfl) ?_ | refine SatD.tk 5 rfl hD (fun _ hw => RunV.fieldAddr rfl rfl rfl) ?_
      refine SatD.tk 6 rfl hD (fun _ hw => RunV.load1 hw rfl rfl (by repeat constructor) rfl) ?_
      refine SatD.tk 7 rfl hD (fun _ hw => RunV.move rfl) ?_
      first | refine SatD.tk 8 rfl hD (fun _ hw => RunV.nil_ptr rfl) ?_ | refine SatD.tk 8 rfl hD (fun _ hw => RunV.nil_func rfl) ?_ | refine SatD.tk 8 rfl hD (fun _ hw => RunV.nil_yield rfl) ?_
      first | refine SatD.tk 9 rfl hD (fun _ hw => RunV.fieldAddrL rfl rfl rfl) ?_ | refine SatD.tk 9 rfl hD (fun _ hw => RunV.fieldAddr rfl rfl rfl) ?_
      first | refine SatD.tk 10 rfl hD (fun _ hw => RunV.fieldAddrL rfl rfl rfl) ?_ | refine SatD.tk 10 rfl hD (fun _ hw => RunV.fieldAddr rfl rfl rfl) ?_
      refine SatD.tk 11 rfl hD (fun _ hw => RunV.load1 hw rfl rfl (by repeat constructor) rfl) ?_
      refine SatD.tk 12 rfl hD (fun _ hw => RunV.geq rfl rfl) ?_
      refine SatD.tk 13 rfl hD (fun _ hw => RunV.pick_t rfl rfl) ?_
      refine SatD.tk 14 rfl hD (fun _ hw => RunV.move rfl) ?_
      refine SatD.ways 26 rfl (fun h2 => ?_) (fun h2 => ?_)
      · (try simp only [cx, ne_eq] at h2)
        try (exfalso; (first | omega | exact h2 trivial | contradiction); done)
        all_goals
        refine SatD.sk 15 rfl [] hD ?_
        refine SatD.sk 16 rfl [] hD ?_
        refine SatD.sk 17 rfl [] hD ?_
        refine SatD.sk 18 rfl [] hD ?_
        refine SatD.sk 19 rfl [] hD ?_
        refine SatD.sk 20 rfl [] hD ?_
        refine SatD.sk 21 rfl [] hD ?_
        refine SatD.sk 22 rfl [] hD ?_
        refine SatD.sk 23 rfl [] hD ?_
        refine SatD.sk 24 rfl [] hD ?_
        refine SatD.sk 25 rfl [] hD ?_
        refine SatD.sk 26 rfl [] hD ?_
        refine SatD.sk 27 rfl [] hD ?_
        refine SatD.sk 28 rfl [] hD ?_
        refine SatD.sk 29 rfl [] hD ?_
        refine SatD.tk 30 rfl hD (fun _ hw => RunV.pick_t rfl rfl) ?_
        refine SatD.done 0 (by kernel_rfl) (SatE.thenC ?_)
        clear hD
        refine SatC.weak (e' := [(0, _), (1, _), (42, _)]) (by repeat constructor) ?_
        refine SatC.cond_t rfl ?_
        refine SatC.region ?_
        refine SatL.pu (RunV.move rfl) rfl ?_
        refine SatL.pu (RunV.move rfl) rfl ?_
        first | refine SatL.pu (RunV.nil_ptr rfl) rfl ?_ | refine SatL.pu (RunV.nil_func rfl) rfl ?_ | refine SatL.pu (RunV.nil_yield rfl) rfl ?_
        first | refine SatL.pu (RunV.fieldAddrL rfl rfl rfl) rfl ?_ | refine SatL.pu (RunV.fieldAddr rfl rfl rfl) rfl ?_
        refine SatL.op rfl (OpW.store hS rfl rfl (by repeat constructor) (by repeat constructor) (by repeat constructor) rfl rfl ?_)
        clear hS
        intro w3 hS
        refine SatL.nil ?_
        refine SatE.fin0 rfl ?_
        rw [cntC, if_neg hz]
        first
        | (rw [if_pos (by omega)]; exact hS)
        | (rw [if_neg (by omega)]; exact hS)
      · (try simp only [cx, ne_eq] at h2)
        try (exfalso; (first | omega | exact h2 trivial | contradiction); done)
        all_goals
        refine SatD.tk 15 rfl hD (fun _ hw => RunV.move rfl) ?_
        refine SatD.tk 16 rfl hD (fun _ hw => RunV.not rfl) ?_
        refine SatD.tk 17 rfl hD (fun _ hw => RunV.move rfl) ?_
        refine SatD.ways 29 rfl (fun h3 => ?_) (fun h3 => ?_)
        · (try simp only [cx, ne_eq] at h3)
          try (exfalso; (first | omega | exact h3 trivial | contradiction); done)
          all_goals
          refine SatD.tk 18 rfl hD (fun _ hw => RunV.move rfl) ?_
          first | refine SatD.tk 19 rfl hD (fun _ hw => RunV.nil_ptr rfl) ?_ | refine SatD.tk 19 rfl hD (fun _ hw => RunV.nil_func rfl) ?_ | refine SatD.tk 19 rfl hD (fun _ hw => RunV.nil_yield rfl) ?_
          first | refine SatD.tk 20 rfl hD (fun _ hw => RunV.fieldAddrL rfl rfl rfl) ?_ | refine SatD.tk 20 rfl hD (fun _ hw => RunV.fieldAddr rfl rfl rfl) ?_
          first | refine SatD.tk 21 rfl hD (fun _ hw => RunV.fieldAddrL rfl rfl rfl) ?_ | refine SatD.tk 21 rfl hD (fun _ hw => RunV.fieldAddr rfl rfl rfl) ?_
          refine SatD.tk 22 rfl hD (fun _ hw => RunV.load1 hw rfl rfl (by repeat constructor) rfl) ?_
          refine SatD.tk 23 rfl hD (fun _ hw => RunV.move rfl) ?_
          first | refine SatD.tk 24 rfl hD (fun _ hw => RunV.nil_ptr rfl) ?_ | refine SatD.tk 24 rfl hD (fun _ hw => RunV.nil_func rfl) ?_ | refine SatD.tk 24 rfl hD (fun _ hw => RunV.nil_yield rfl) ?_
          first | refine SatD.tk 25 rfl hD (fun _ hw => RunV.fieldAddrL rfl rfl rfl) ?_ | refine SatD.tk 25 rfl hD (fun _ hw => RunV.fieldAddr rfl rfl rfl) ?_
          first | refine SatD.tk 26 rfl hD (fun _ hw => RunV.fieldAddrL rfl rfl rfl) ?_ | refine SatD.tk 26 rfl hD (fun _ hw => RunV.fieldAddr rfl rfl rfl) ?_
          refine SatD.tk 27 rfl hD (fun _ hw => RunV.load1 hw rfl rfl (by repeat constructor) rfl) ?_
          refine SatD.tk 28 rfl hD (fun _ hw => RunV.geq rfl rfl) ?_
          refine SatD.tk 29 rfl hD (fun _ hw => RunV.pick_t rfl rfl) ?_
          refine SatD.tk 30 rfl hD (fun _ hw => RunV.pick_f rfl rfl) ?_
          refine SatD.done 0 (by kernel_rfl) (SatE.thenC ?_)
          clear hD
          refine SatC.weak (e' := [(0, _), (1, _), (42, _)]) (by repeat constructor) ?_
          refine SatC.cond rfl (fun h4 => ?_) (fun h4 => ?_)
          · (try simp only [cx, ne_eq] at h4)
            try (exfalso; (first | omega | exact h4 trivial | contradiction); done)
            all_goals
            refine SatC.region ?_
            refine SatL.pu (RunV.move rfl) rfl ?_
            refine SatL.pu (RunV.move rfl) rfl ?_
            first | refine SatL.pu (RunV.nil_ptr rfl) rfl ?_ | refine SatL.pu (RunV.nil_func rfl) rfl ?_ | refine SatL.pu (RunV.nil_yield rfl) rfl ?_
            first | refine SatL.pu (RunV.fieldAddrL rfl rfl rfl) rfl ?_ | refine SatL.pu (RunV.fieldAddr rfl rfl rfl) rfl ?_
            refine SatL.op rfl (OpW.store hS rfl rfl (by repeat constructor) (by repeat constructor) (by repeat constructor) rfl rfl ?_)
            clear hS
            intro w3 hS
            refine SatL.nil ?_
            refine SatE.fin0 rfl ?_
            rw [cntC, if_neg hz]
            first
            | (rw [if_pos (by omega)]; exact hS)
            | (rw [if_neg (by omega)]; exact hS)
          · (try simp only [cx, ne_eq] at h4)
            try (exfalso; (first | omega | exact h4 trivial | contradiction); done)
            all_goals
            refine SatC.skip ?_
            refine SatE.fin0 rfl ?_
            rw [cntC, if_neg hz]
            first
            | (rw [if_pos (by omega)]; exact hS)
            | (rw [if_neg (by omega)]; exact hS)
        · (try simp only [cx, ne_eq] at h3)
          try (exfalso; (first | omega | exact h3 trivial | contradiction); done)
          all_goals
          refine SatD.sk 18 rfl [] hD ?_
          refine SatD.sk 19 rfl [] hD ?_
          refine SatD.sk 20 rfl [] hD ?_
          refine SatD.sk 21 rfl [] hD ?_
          refine SatD.sk 22 rfl [] hD ?_
          refine SatD.sk 23 rfl [] hD ?_
          refine SatD.sk 24 rfl [] hD ?_
          refine SatD.sk 25 rfl [] hD ?_
          refine SatD.sk 26 rfl [] hD ?_
          refine SatD.sk 27 rfl [] hD ?_
          refine SatD.sk 28 rfl [] hD ?_
          refine SatD.tk 29 rfl hD (fun _ hw => RunV.pick_f rfl rfl) ?_
          refine SatD.tk 30 rfl hD (fun _ hw => RunV.pick_f rfl rfl) ?_
          refine SatD.done 0 (by kernel_rfl) (SatE.thenC ?_)
          clear hD
          refine SatC.weak (e' := [(0, _), (1, _), (42, _)]) (by repeat constructor) ?_
          refine SatC.cond_f rfl ?_
          refine SatC.skip ?_
          refine SatE.fin0 rfl ?_
          rw [cntC, if_neg hz]
          first
          | (rw [if_pos (by omega)]; exact hS)
          | (rw [if_neg (by omega)]; exact hS)
    · (try simp only [cx, ne_eq] at h1)
      try (exfalso; (first | omega | exact h1 trivial | contradiction); done)
      all_goals
      refine SatD.sk 2 rfl [] hD ?_
      refine SatD.sk 3 rfl [] hD ?_
      refine SatD.sk 4 rfl [] hD ?_
      refine SatD.sk 5 rfl [] hD ?_
      refine SatD.sk 6 rfl [] hD ?_
      refine SatD.sk 7 rfl [] hD ?_
      refine SatD.sk 8 rfl [] hD ?_
      refine SatD.sk 9 rfl [] hD ?_
      refine SatD.sk 10 rfl [] hD ?_
      refine SatD.sk 11 rfl [] hD ?_
      refine SatD.sk 12 rfl [] hD ?_
      refine SatD.tk 13 rfl hD (fun _ hw => RunV.pick_f rfl rfl) ?_
      refine SatD.tk 14 rfl hD (fun _ hw => RunV.move rfl) ?_
      refine SatD.tk 15 rfl hD (fun _ hw => RunV.move rfl) ?_
      refine SatD.tk 16 rfl hD (fun _ hw => RunV.not rfl) ?_
      refine SatD.tk 17 rfl hD (fun _ hw => RunV.move rfl) ?_
      refine SatD.ways 29 rfl (fun h2 => ?_) (fun h2 => ?_)
      · (try simp only [cx, ne_eq] at h2)
        try (exfalso; (first | omega | exact h2 trivial | contradiction); done)
        all_goals
        refine SatD.tk 18 rfl hD (fun _ hw => RunV.move rfl) ?_
        first | refine SatD.tk 19 rfl hD (fun _ hw => RunV.nil_ptr rfl) ?_ | refine SatD.tk 19 rfl hD (fun _ hw => RunV.nil_func rfl) ?_ | refine SatD.tk 19 rfl hD (fun _ hw => RunV.nil_yield rfl) ?_
        first | refine SatD.tk 20 rfl hD (fun _ hw => RunV.fieldAddrL rfl rfl rfl) ?_ | refine SatD.tk 20 rfl hD (fun _ hw => RunV.fieldAddr rfl rfl rfl) ?_
        first | refine SatD.tk 21 rfl hD (fun _ hw => RunV.fieldAddrL rfl rfl rfl) ?_ | refine SatD.tk 21 rfl hD (fun _ hw => RunV.fieldAddr rfl rfl rfl) ?_
        refine SatD.tk 22 rfl hD (fun _ hw => RunV.load1 hw rfl rfl (by repeat constructor) rfl) ?_
        refine SatD.tk 23 rfl hD (fun _ hw => RunV.move rfl) ?_
        first | refine SatD.tk 24 rfl hD (fun _ hw => RunV.nil_ptr rfl) ?_ | refine SatD.tk 24 rfl hD (fun _ hw => RunV.nil_func rfl) ?_ | refine SatD.tk 24 rfl hD (fun _ hw => RunV.nil_yield rfl) ?_
        first | refine SatD.tk 25 rfl hD (fun _ hw => RunV.fieldAddrL rfl rfl rfl) ?_ | refine SatD.tk 25 rfl hD (fun _ hw => RunV.fieldAddr rfl rfl rfl) ?_
        first | refine SatD.tk 26 rfl hD (fun _ hw => RunV.fieldAddrL rfl rfl rfl) ?_ | refine SatD.tk 26 rfl hD (fun _ hw => RunV.fieldAddr rfl rfl rfl) ?_
        refine SatD.tk 27 rfl hD (fun _ hw => RunV.load1 hw rfl rfl (by repeat constructor) rfl) ?_
        refine SatD.tk 28 rfl hD (fun _ hw => RunV.geq rfl rfl) ?_
        refine SatD.tk 29 rfl hD (fun _ hw => RunV.pick_t rfl rfl) ?_
        refine SatD.tk 30 rfl hD (fun _ hw => RunV.pick_f rfl rfl) ?_
        refine SatD.done 0 (by kernel_rfl) (SatE.thenC ?_)
        clear hD
        refine SatC.weak (e' := [(0, _), (1, _), (42, _)]) (by repeat constructor) ?_
        refine SatC.cond rfl (fun h3 => ?_) (fun h3 => ?_)
        · (try simp only [cx, ne_eq] at h3)
          try (exfalso; (first | omega | exact h3 trivial | contradiction); done)
          all_goals
          refine SatC.region ?_
          refine SatL.pu (RunV.move rfl) rfl ?_
          refine SatL.pu (RunV.move rfl) rfl ?_
          first | refine SatL.pu (RunV.nil_ptr rfl) rfl ?_ | refine SatL.pu (RunV.nil_func rfl) rfl ?_ | refine SatL.pu (RunV.nil_yield rfl) rfl ?_
          first | refine SatL.pu (RunV.fieldAddrL rfl rfl rfl) rfl ?_ | refine SatL.pu (RunV.fieldAddr rfl rfl rfl) rfl ?_
          refine SatL.op rfl (OpW.store hS rfl rfl (by repeat constructor) (by repeat constructor) (by repeat constructor) rfl rfl ?_)
          clear hS
          intro w3 hS
          refine SatL.nil ?_
          refine SatE.fin0 rfl ?_
          rw [cntC, if_neg hz]
          first
          | (rw [if_pos (by omega)]; exact hS)
          | (rw [if_neg (by omega)]; exact hS)
        · (try simp only [cx, ne_eq] at h3)
          try (exfalso; (first | omega | exact h3 trivial | contradiction); done)
          all_goals
          refine SatC.skip ?_
          refine SatE.fin0 rfl ?_
          rw [cntC, if_neg hz]
          first
          | (rw [if_pos (by omega)]; exact hS)
          | (rw [if_neg (by omega)]; exact hS)
      · (try simp only [cx, ne_eq] at h2)
        try (exfalso; (first | omega | exact h2 trivial | contradiction); done)
        all_goals
        refine SatD.sk 18 rfl [] hD ?_
        refine SatD.sk 19 rfl [] hD ?_
        refine SatD.sk 20 rfl [] hD ?_
        refine SatD.sk 21 rfl [] hD ?_
        refine SatD.sk 22 rfl [] hD ?_
        refine SatD.sk 23 rfl [] hD ?_
        refine SatD.sk 24 rfl [] hD ?_
        refine SatD.sk 25 rfl [] hD ?_
        refine SatD.sk 26 rfl [] hD ?_
        refine SatD.sk 27 rfl [] hD ?_
        refine SatD.sk 28 rfl [] hD ?_
        refine SatD.tk 29 rfl hD (fun _ hw => RunV.pick_f rfl rfl) ?_
        refine SatD.tk 30 rfl hD (fun _ hw => RunV.pick_f rfl rfl) ?_
        refine SatD.done 0 (by kernel_rfl) (SatE.thenC ?_)
        clear hD
        refine SatC.weak (e' := [(0, _), (1, _), (42, _)]) (by repeat constructor) ?_
        refine SatC.cond_f rfl ?_
        refine SatC.skip ?_
        refine SatE.fin0 rfl ?_
        rw [cntC, if_neg hz]
        first
        | (rw [if_pos (by omega)]; exact hS)
        | (rw [if_neg (by omega)]; exact hS)
end
end Go.Proofs.Ytbnkcagcfbpiiaa
