/- The queue's own functions: new, none, right, above, how often, asked for one. -/
import Derived.Test.YtfkalbbdmlinlaaLs
import Derived.Test.YtfkalbbdmlinlaaK22
set_option linter.unusedSimpArgs false
set_option linter.unusedVariables false
set_option maxRecDepth 100000
set_option maxHeartbeats 4000000
namespace Go.Proofs.Ytfkalbbdmlinlaa
open Go.RowKit
structure Upd where
  n : Int
  i : Int
  s : Int
deriving DecidableEq
@[reducible] def ud (u : Upd) : List Value := [.int .i64 u.n, .int .u32 u.i, .int .i64 u.s]
@[reducible] def uv (u : Upd) : Value := .agg #[.int .i64 u.n, .int .u32 u.i, .int .i64 u.s]
@[reducible] def iv (x : It) : Value := .agg #[.int .i64 x.n, .int .u32 x.i, .int .i64 x.s, .int .i64 x.c, .int .i64 x.w]
def up (x : It) : Upd := ⟨x.n, x.i, x.s⟩
def abv (a b : Upd) : Bool := decide (a.n = b.n ∧ (b.i < a.i ∨ a.i = b.i ∧ b.s < a.s))
def right (u : Upd) : Prop := 0 ≤ u.n ∧ u.n < 8 ∧ 0 ≤ u.s ∧ u.s ≤ 3
instance (u : Upd) : Decidable (right u) := by unfold right; infer_instance
theorem run_neq29 (n i s n' i' s' : Int) (w : World) : (binOp .neq 29 (.agg #[.int .i64 n, .int .u32 i, .int .i64 s]) (.agg #[.int .i64 n', .int .u32 i', .int .i64 s'])).run Try.prog w = .ok (.bool (decide (Upd.mk n i s ≠ ⟨n', i', s'⟩))) w := by
  by_cases h1 : n = n' <;> by_cases h2 : i = i' <;> by_cases h3 : s = s' <;> simp [go_sem, h1, h2, h3]
theorem run_eql29 (n i s n' i' s' : Int) (w : World) : (binOp .eql 29 (.agg #[.int .i64 n, .int .u32 i, .int .i64 s]) (.agg #[.int .i64 n', .int .u32 i', .int .i64 s'])).run Try.prog w = .ok (.bool (decide (Upd.mk n i s = ⟨n', i', s'⟩))) w := by
  by_cases h1 : n = n' <;> by_cases h2 : i = i' <;> by_cases h3 : s = s' <;> simp [go_sem, h1, h2, h3]
theorem guard29 (op : BinOp) (x y : Operand) (n i s n' i' s' : Int) (w : World) : (eqGuard op 29 x y (.agg #[.int .i64 n, .int .u32 i, .int .i64 s]) (.agg #[.int .i64 n', .int .u32 i', .int .i64 s'])).run Try.prog w = .ok () w := by
  unfold eqGuard
  cases op <;> simp [go_sem]
theorem above_any (a b : Upd) (w : World) : Ret Try.prog 10 #[uv a, uv b] w fun v w' => v = .bool (abv a b) ∧ St w [] [] w' := by
  have hS := St.init0 w
  refine Ret.enter Try.func10 Try.ntmps10 rfl rfl ?_
  simp only [argEnv, Nat.reduceAdd]
  obtain ⟨n, i, s⟩ := a
  obtain ⟨n', i', s'⟩ := b
  refine SatC.seq ?_
  refine SatC.region ?_
  refine SatL.op rfl (OpW.box hS rfl rfl (by repeat constructor) ?_)
  clear hS
  intro b2 w1 _ hS
  refine SatL.op rfl (OpW.box hS rfl rfl (by repeat constructor) ?_)
  clear hS
  intro b3 w2 _ hS
  refine SatL.pu (RunV.assign rfl) rfl ?_
  refine SatL.nil (SatE.thenC ?_)
  refine SatC.seq ?_
  refine SatC.seq ?_
  refine SatC.region ?_
  first | refine SatL.pu (RunV.fieldAddrL rfl rfl rfl) rfl ?_ | refine SatL.pu (RunV.fieldAddr rfl rfl rfl) rfl ?_
  refine SatL.pu (RunV.load1 hS rfl rfl (by repeat constructor) rfl) rfl ?_
  first | refine SatL.pu (RunV.fieldAddrL rfl rfl rfl) rfl ?_ | refine SatL.pu (RunV.fieldAddr rfl rfl rfl) rfl ?_
  refine SatL.pu (RunV.load1 hS rfl rfl (by repeat constructor) rfl) rfl ?_
  refine SatL.pu (RunV.neq rfl rfl) rfl ?_
  refine SatL.pu (RunV.move rfl) rfl ?_
  refine SatL.guard rfl rfl rfl (fun h1 => ?_) (fun h1 => ?_)
  · (try simp only [cx, ne_eq] at h1)
    try (exfalso; (first | omega | exact h1 trivial | contradiction); done)
    all_goals
    refine SatL.pu (RunV.loadN hS rfl rfl (by repeat constructor) (by repeat constructor)) rfl ?_
    refine SatL.guard_y rfl rfl ?_
    refine SatL.pu (RunV.loadN hS rfl rfl (by repeat constructor) (by repeat constructor)) rfl ?_
    refine SatL.guard_y rfl rfl ?_
    refine SatL.pu (RunV.bin rfl rfl (guard29 _ _ _ _ _ _ _ _ _ _) (run_eql29 _ _ _ _ _ _ _)) rfl ?_
    refine SatL.pu (RunV.pick_f rfl rfl) rfl ?_
    refine SatL.nil (SatE.thenC ?_)
    refine SatC.cond rfl (fun h2 => ?_) (fun h2 => ?_)
    · (try simp only [cx, ne_eq] at h2)
      try (exfalso; (first | omega | exact h2 trivial | contradiction); done)
      all_goals
      refine SatC.seq ?_
      refine SatC.weak (e' := [(4, _)]) (by repeat constructor) ?_
      refine SatC.region ?_
      refine SatL.pu (RunV.assign rfl) rfl ?_
      refine SatL.nil (SatE.thenC ?_)
      refine SatC.ret (SatE.then_ret ?_)
      refine SatE.ret1 rfl rfl ?_
      refine ⟨congrArg Value.bool ?_, hS.sub (List.nil_sublist _)⟩
      simp only [abv]
      first | (rw [Bool.eq_iff_iff]; simp only [decide_eq_true_eq, decide_eq_false_iff_not, Bool.not_true, Bool.not_false, Bool.not_eq_true', Bool.not_eq_false', beq_iff_eq, beq_eq_false_iff_ne, bne_iff_ne, ne_eq, Int.not_lt, Int.not_le, Decidable.not_not, Bool.and_eq_true, Bool.or_eq_true, Bool.false_eq_true, false_iff, true_iff, iff_false, iff_true] <;> omega) | (simp_all; done) | (simp_all <;> omega)
    · (try simp only [cx, ne_eq] at h2)
      try (exfalso; (first | omega | exact h2 trivial | contradiction); done)
      all_goals
      refine SatC.skip (SatE.thenC ?_)
      refine SatC.seq ?_
      refine SatC.seq ?_
      refine SatC.weak (e' := [(2, _), (3, _), (4, _)]) (by repeat constructor) ?_
      refine SatC.region ?_
      first | refine SatL.pu (RunV.fieldAddrL rfl rfl rfl) rfl ?_ | refine SatL.pu (RunV.fieldAddr rfl rfl rfl) rfl ?_
      refine SatL.pu (RunV.load1 hS rfl rfl (by repeat constructor) rfl) rfl ?_
      first | refine SatL.pu (RunV.fieldAddrL rfl rfl rfl) rfl ?_ | refine SatL.pu (RunV.fieldAddr rfl rfl rfl) rfl ?_
      refine SatL.pu (RunV.load1 hS rfl rfl (by repeat constructor) rfl) rfl ?_
      refine SatL.pu (RunV.neq rfl rfl) rfl ?_
      refine SatL.nil (SatE.thenC ?_)
      refine SatC.cond rfl (fun h3 => ?_) (fun h3 => ?_)
      · (try simp only [cx, ne_eq] at h3)
        try (exfalso; (first | omega | exact h3 trivial | contradiction); done)
        all_goals
        refine SatC.seq ?_
        refine SatC.region ?_
        first | refine SatL.pu (RunV.fieldAddrL rfl rfl rfl) rfl ?_ | refine SatL.pu (RunV.fieldAddr rfl rfl rfl) rfl ?_
        refine SatL.pu (RunV.load1 hS rfl rfl (by repeat constructor) rfl) rfl ?_
        first | refine SatL.pu (RunV.fieldAddrL rfl rfl rfl) rfl ?_ | refine SatL.pu (RunV.fieldAddr rfl rfl rfl) rfl ?_
        refine SatL.pu (RunV.load1 hS rfl rfl (by repeat constructor) rfl) rfl ?_
        refine SatL.pu (RunV.gtr rfl rfl) rfl ?_
        refine SatL.pu (RunV.assign rfl) rfl ?_
        refine SatL.nil (SatE.thenC ?_)
        refine SatC.ret (SatE.then_ret ?_)
        refine SatE.ret1 rfl rfl ?_
        refine ⟨congrArg Value.bool ?_, hS.sub (List.nil_sublist _)⟩
        simp only [abv]
        first | (rw [Bool.eq_iff_iff]; simp only [decide_eq_true_eq, decide_eq_false_iff_not, Bool.not_true, Bool.not_false, Bool.not_eq_true', Bool.not_eq_false', beq_iff_eq, beq_eq_false_iff_ne, bne_iff_ne, ne_eq, Int.not_lt, Int.not_le, Decidable.not_not, Bool.and_eq_true, Bool.or_eq_true, Bool.false_eq_true, false_iff, true_iff, iff_false, iff_true] <;> omega) | (simp_all; done) | (simp_all <;> omega)
      · (try simp only [cx, ne_eq] at h3)
        try (exfalso; (first | omega | exact h3 trivial | contradiction); done)
        all_goals
        refine SatC.skip (SatE.thenC ?_)
        refine SatC.seq ?_
        refine SatC.region ?_
        first | refine SatL.pu (RunV.fieldAddrL rfl rfl rfl) rfl ?_ | refine SatL.pu (RunV.fieldAddr rfl rfl rfl) rfl ?_
        refine SatL.pu (RunV.load1 hS rfl rfl (by repeat constructor) rfl) rfl ?_
        first | refine SatL.pu (RunV.fieldAddrL rfl rfl rfl) rfl ?_ | refine SatL.pu (RunV.fieldAddr rfl rfl rfl) rfl ?_
        refine SatL.pu (RunV.load1 hS rfl rfl (by repeat constructor) rfl) rfl ?_
        refine SatL.pu (RunV.gtr rfl rfl) rfl ?_
        refine SatL.pu (RunV.assign rfl) rfl ?_
        refine SatL.nil (SatE.thenC ?_)
        refine SatC.ret ?_
        refine SatE.ret1 rfl rfl ?_
        refine ⟨congrArg Value.bool ?_, hS.sub (List.nil_sublist _)⟩
        simp only [abv]
        first | (rw [Bool.eq_iff_iff]; simp only [decide_eq_true_eq, decide_eq_false_iff_not, Bool.not_true, Bool.not_false, Bool.not_eq_true', Bool.not_eq_false', beq_iff_eq, beq_eq_false_iff_ne, bne_iff_ne, ne_eq, Int.not_lt, Int.not_le, Decidable.not_not, Bool.and_eq_true, Bool.or_eq_true, Bool.false_eq_true, false_iff, true_iff, iff_false, iff_true] <;> omega) | (simp_all; done) | (simp_all <;> omega)
  · (try simp only [cx, ne_eq] at h1)
    try (exfalso; (first | omega | exact h1 trivial | contradiction); done)
    all_goals
    refine SatL.guard_n rfl rfl rfl rfl ?_
    refine SatL.guard_n rfl rfl rfl rfl ?_
    refine SatL.pu (RunV.pick_t rfl rfl) rfl ?_
    refine SatL.nil (SatE.thenC ?_)
    refine SatC.cond_t rfl ?_
    refine SatC.seq ?_
    refine SatC.weak (e' := [(4, _)]) (by repeat constructor) ?_
    refine SatC.region ?_
    refine SatL.pu (RunV.assign rfl) rfl ?_
    refine SatL.nil (SatE.thenC ?_)
    refine SatC.ret (SatE.then_ret ?_)
    refine SatE.ret1 rfl rfl ?_
    refine ⟨congrArg Value.bool ?_, hS.sub (List.nil_sublist _)⟩
    simp only [abv]
    first | (rw [Bool.eq_iff_iff]; simp only [decide_eq_true_eq, decide_eq_false_iff_not, Bool.not_true, Bool.not_false, Bool.not_eq_true', Bool.not_eq_false', beq_iff_eq, beq_eq_false_iff_ne, bne_iff_ne, ne_eq, Int.not_lt, Int.not_le, Decidable.not_not, Bool.and_eq_true, Bool.or_eq_true, Bool.false_eq_true, false_iff, true_iff, iff_false, iff_true] <;> omega) | (simp_all; done) | (simp_all <;> omega)
theorem right_any (u : Upd) (w : World) : Ret Try.prog 12 #[uv u] w fun v w' => v = .bool (decide (right u)) ∧ St w [] [] w' := by
  have hS := St.init0 w
  refine Ret.enter Try.func12 Try.ntmps12 rfl rfl ?_
  simp only [argEnv, Nat.reduceAdd]
  obtain ⟨n, i, s⟩ := u
  have hr : decide (right ⟨n, i, s⟩) = decide (0 ≤ n ∧ n < 8 ∧ 0 ≤ s ∧ s ≤ 3) := decide_eq_decide.2 Iff.rfl
  simp only [hr]
  refine SatC.seq ?_
  refine SatC.region ?_
  refine SatL.op rfl (OpW.box hS rfl rfl (by repeat constructor) ?_)
  clear hS
  intro b1 w1 _ hS
  refine SatL.pu (RunV.assign rfl) rfl ?_
  refine SatL.nil (SatE.thenC ?_)
  refine SatC.seq ?_
  refine SatC.region ?_
  first | refine SatL.pu (RunV.fieldAddrL rfl rfl rfl) rfl ?_ | refine SatL.pu (RunV.fieldAddr rfl rfl rfl) rfl ?_
  refine SatL.pu (RunV.load1 hS rfl rfl (by repeat constructor) rfl) rfl ?_
  refine SatL.pu (RunV.geq rfl rfl) rfl ?_
  refine SatL.pu (RunV.move rfl) rfl ?_
  refine SatL.guard rfl rfl rfl (fun h1 => ?_) (fun h1 => ?_)
  · (try simp only [cx, ne_eq] at h1)
    try (exfalso; (first | omega | exact h1 trivial | contradiction); done)
    all_goals
    first | refine SatL.pu (RunV.fieldAddrL rfl rfl rfl) rfl ?_ | refine SatL.pu (RunV.fieldAddr rfl rfl rfl) rfl ?_
    refine SatL.guard_y rfl rfl ?_
    refine SatL.pu (RunV.load1 hS rfl rfl (by repeat constructor) rfl) rfl ?_
    refine SatL.guard_y rfl rfl ?_
    refine SatL.pu (RunV.lss rfl rfl) rfl ?_
    refine SatL.pu (RunV.pick_t rfl rfl) rfl ?_
    refine SatL.pu (RunV.move rfl) rfl ?_
    refine SatL.guard rfl rfl rfl (fun h2 => ?_) (fun h2 => ?_)
    · (try simp only [cx, ne_eq] at h2)
      try (exfalso; (first | omega | exact h2 trivial | contradiction); done)
      all_goals
      first | refine SatL.pu (RunV.fieldAddrL rfl rfl rfl) rfl ?_ | refine SatL.pu (RunV.fieldAddr rfl rfl rfl) rfl ?_
      refine SatL.guard_y rfl rfl ?_
      refine SatL.pu (RunV.load1 hS rfl rfl (by repeat constructor) rfl) rfl ?_
      refine SatL.guard_y rfl rfl ?_
      refine SatL.pu (RunV.geq rfl rfl) rfl ?_
      refine SatL.pu (RunV.pick_t rfl rfl) rfl ?_
      refine SatL.pu (RunV.move rfl) rfl ?_
      refine SatL.guard rfl rfl rfl (fun h3 => ?_) (fun h3 => ?_)
      · (try simp only [cx, ne_eq] at h3)
        try (exfalso; (first | omega | exact h3 trivial | contradiction); done)
        all_goals
        first | refine SatL.pu (RunV.fieldAddrL rfl rfl rfl) rfl ?_ | refine SatL.pu (RunV.fieldAddr rfl rfl rfl) rfl ?_
        refine SatL.guard_y rfl rfl ?_
        refine SatL.pu (RunV.load1 hS rfl rfl (by repeat constructor) rfl) rfl ?_
        refine SatL.guard_y rfl rfl ?_
        refine SatL.pu (RunV.leq rfl rfl) rfl ?_
        refine SatL.pu (RunV.pick_t rfl rfl) rfl ?_
        refine SatL.pu (RunV.assign rfl) rfl ?_
        refine SatL.nil (SatE.thenC ?_)
        refine SatC.ret ?_
        refine SatE.ret1 rfl rfl ?_
        refine ⟨congrArg Value.bool ?_, hS.sub (List.nil_sublist _)⟩
        first | (rw [Bool.eq_iff_iff]; simp only [decide_eq_true_eq, decide_eq_false_iff_not, Bool.not_true, Bool.not_false, Bool.not_eq_true', Bool.not_eq_false', beq_iff_eq, beq_eq_false_iff_ne, bne_iff_ne, ne_eq, Int.not_lt, Int.not_le, Decidable.not_not, Bool.and_eq_true, Bool.or_eq_true, Bool.false_eq_true, false_iff, true_iff, iff_false, iff_true] <;> omega) | (simp_all; done) | (simp_all <;> omega)
      · (try simp only [cx, ne_eq] at h3)
        try (exfalso; (first | omega | exact h3 trivial | contradiction); done)
        all_goals
        refine SatL.guard_n rfl rfl rfl rfl ?_
        refine SatL.guard_n rfl rfl rfl rfl ?_
        refine SatL.pu (RunV.pick_f rfl rfl) rfl ?_
        refine SatL.pu (RunV.assign rfl) rfl ?_
        refine SatL.nil (SatE.thenC ?_)
        refine SatC.ret ?_
        refine SatE.ret1 rfl rfl ?_
        refine ⟨congrArg Value.bool ?_, hS.sub (List.nil_sublist _)⟩
        first | (rw [Bool.eq_iff_iff]; simp only [decide_eq_true_eq, decide_eq_false_iff_not, Bool.not_true, Bool.not_false, Bool.not_eq_true', Bool.not_eq_false', beq_iff_eq, beq_eq_false_iff_ne, bne_iff_ne, ne_eq, Int.not_lt, Int.not_le, Decidable.not_not, Bool.and_eq_true, Bool.or_eq_true, Bool.false_eq_true, false_iff, true_iff, iff_false, iff_true] <;> omega) | (simp_all; done) | (simp_all <;> omega)
    · (try simp only [cx, ne_eq] at h2)
      try (exfalso; (first | omega | exact h2 trivial | contradiction); done)
      all_goals
      refine SatL.guard_n rfl rfl rfl rfl ?_
      refine SatL.guard_n rfl rfl rfl rfl ?_
      refine SatL.pu (RunV.pick_f rfl rfl) rfl ?_
      refine SatL.pu (RunV.move rfl) rfl ?_
      refine SatL.guard_n rfl rfl rfl rfl ?_
      refine SatL.guard_n rfl rfl rfl rfl ?_
      refine SatL.guard_n rfl rfl rfl rfl ?_
      refine SatL.pu (RunV.pick_f rfl rfl) rfl ?_
      refine SatL.pu (RunV.assign rfl) rfl ?_
      refine SatL.nil (SatE.thenC ?_)
      refine SatC.ret ?_
      refine SatE.ret1 rfl rfl ?_
      refine ⟨congrArg Value.bool ?_, hS.sub (List.nil_sublist _)⟩
      first | (rw [Bool.eq_iff_iff]; simp only [decide_eq_true_eq, decide_eq_false_iff_not, Bool.not_true, Bool.not_false, Bool.not_eq_true', Bool.not_eq_false', beq_iff_eq, beq_eq_false_iff_ne, bne_iff_ne, ne_eq, Int.not_lt, Int.not_le, Decidable.not_not, Bool.and_eq_true, Bool.or_eq_true, Bool.false_eq_true, false_iff, true_iff, iff_false, iff_true] <;> omega) | (simp_all; done) | (simp_all <;> omega)
  · (try simp only [cx, ne_eq] at h1)
    try (exfalso; (first | omega | exact h1 trivial | contradiction); done)
    all_goals
    refine SatL.guard_n rfl rfl rfl rfl ?_
    refine SatL.guard_n rfl rfl rfl rfl ?_
    refine SatL.pu (RunV.pick_f rfl rfl) rfl ?_
    refine SatL.pu (RunV.move rfl) rfl ?_
    refine SatL.guard_n rfl rfl rfl rfl ?_
    refine SatL.guard_n rfl rfl rfl rfl ?_
    refine SatL.guard_n rfl rfl rfl rfl ?_
    refine SatL.pu (RunV.pick_f rfl rfl) rfl ?_
    refine SatL.pu (RunV.move rfl) rfl ?_
    refine SatL.guard_n rfl rfl rfl rfl ?_
    refine SatL.guard_n rfl rfl rfl rfl ?_
    refine SatL.guard_n rfl rfl rfl rfl ?_
    refine SatL.pu (RunV.pick_f rfl rfl) rfl ?_
    refine SatL.pu (RunV.assign rfl) rfl ?_
    refine SatL.nil (SatE.thenC ?_)
    refine SatC.ret ?_
    refine SatE.ret1 rfl rfl ?_
    refine ⟨congrArg Value.bool ?_, hS.sub (List.nil_sublist _)⟩
    first | (rw [Bool.eq_iff_iff]; simp only [decide_eq_true_eq, decide_eq_false_iff_not, Bool.not_true, Bool.not_false, Bool.not_eq_true', Bool.not_eq_false', beq_iff_eq, beq_eq_false_iff_ne, bne_iff_ne, ne_eq, Int.not_lt, Int.not_le, Decidable.not_not, Bool.and_eq_true, Bool.or_eq_true, Bool.false_eq_true, false_iff, true_iff, iff_false, iff_true] <;> omega) | (simp_all; done) | (simp_all <;> omega)
theorem RunV.halfI {P : Program} {N : Nat} {env : Env} {w : World} {dd : Option Nat} {ty : TypeId} {pos : String} {af : Array Edge} {g : Option (Nat × Bool)} {t t2 : TypeId} {x y : Operand} {k' : IntKind} {m : Int} (hx : evO env x = some (.int .i64 m)) (hy : evO env y = some (.int k' 1)) : RunV P N env w ⟨dd, .binOp .shr t x y t2, ty, pos, af, g⟩ (.int .i64 (m / 2)) :=
  RunV.bin hx hy run_guardInt (by
    have h1 : min (1 : Int).toNat IntKind.i64.bits = 1 := rfl
    have h2 : Int.fdiv m (2 ^ 1) = m / 2 := Int.fdiv_eq_ediv_of_nonneg _ (by decide)
    simp only [binOp, Op.shift, if_neg (show ¬ (1 : Int) < 0 by decide), h1, h2]
    rfl)
/-- How many binary digits. -/
def digF : Nat → Nat → Nat
  | 0, _ => 0
  | f + 1, n => if n = 0 then 0 else digF f (n / 2) + 1
def dg (n : Int) : Int := (digF 63 n.toNat : Nat)
theorem digF_le : ∀ (f n : Nat), digF f n ≤ f
  | 0, _ => Nat.le_refl _
  | f + 1, n => by unfold digF; split; omega; have := digF_le f (n / 2); omega
theorem dg_b (n : Int) : 0 ≤ dg n ∧ dg n ≤ 63 := by unfold dg; have := digF_le 63 n.toNat; omega
theorem digits_any (n : Int) (hn : 0 ≤ n ∧ n ≤ 9223372036854775807) (w : World) : Ret Try.prog 17 #[.int .i64 n] w fun v w' => v = .int .i64 (dg n) ∧ St w [] [] w' := by
  have hS := St.init0 w
  unfold dg
  obtain ⟨m, rfl⟩ : ∃ m : Nat, n = (m : Int) := ⟨n.toNat, by omega⟩
  rw [Int.toNat_natCast]
  generalize hR : digF 63 m = R
  refine Ret.enter Try.func17 Try.ntmps17 rfl rfl ?_
  simp only [argEnv, Nat.reduceAdd]
  refine SatC.seq ?_
  refine SatC.region ?_
  refine SatL.pu (RunV.assign rfl) rfl ?_
  refine SatL.nil (SatE.thenC ?_)
  refine SatC.seq ?_
  refine SatC.region ?_
  refine SatL.pu (RunV.assign rfl) rfl ?_
  refine SatL.nil (SatE.thenC ?_)
  refine SatC.seq ?_
  refine SatC.block ?_
  refine SatC.loopK (G := Nat × Nat) (V := fun ⟨x, d⟩ => [(0, .int .i64 (x : Int)), (3, .int .i64 (d : Int))]) (Cn := [(2, _)]) (I := fun ⟨x, d⟩ w' => d ≤ 63 ∧ x < 2 ^ (63 - d) ∧ digF (63 - d) x + d = R ∧ St w [] [] w') (μ := fun ⟨x, d⟩ => 63 - d) (m, 0) ?_ (by repeat constructor) ?_
  · exact ⟨by omega, by show m < 2 ^ 63; omega, by show digF 63 m + 0 = R; omega, hS⟩
  clear hS
  rintro ⟨x, d⟩ w1 ⟨hd, hx, hf, hS⟩
  refine SatC.weak (e' := [(0, _), (2, _), (3, _)]) (by repeat constructor) ?_
  refine SatC.seq ?_
  refine SatC.seq ?_
  refine SatC.region ?_
  refine SatL.pu (RunV.move rfl) rfl ?_
  refine SatL.pu (RunV.gtr rfl rfl) rfl ?_
  refine SatL.nil (SatE.thenC ?_)
  refine SatC.cond rfl (fun h1 => ?_) (fun h1 => ?_)
  · (try simp only [cx, ne_eq] at h1)
    try (exfalso; (first | omega | exact h1 trivial | contradiction); done)
    all_goals
    refine SatC.skip (SatE.thenC ?_)
    refine SatC.seq ?_
    refine SatC.block ?_
    have hd63 : d < 63 := by
      rcases Nat.lt_or_ge d 63 with h | h
      · exact h
      · rw [show 63 - d = 0 by omega] at hx; simp at hx; omega
    obtain ⟨f, hf'⟩ : ∃ f, 63 - d = f + 1 := ⟨62 - d, by omega⟩
    rw [hf'] at hx hf
    unfold digF at hf
    rw [if_neg (by omega)] at hf
    refine SatC.region ?_
    refine SatL.pu (RunV.move rfl) rfl ?_
    refine SatL.pu (RunV.add rfl rfl (by first | exact wrapI64 (by omega) | rfl)) rfl ?_
    refine SatL.pu (RunV.assign rfl) rfl ?_
    refine SatL.nil (SatE.blk_normal (SatE.thenC ?_))
    refine SatC.region ?_
    refine SatL.pu (RunV.move rfl) rfl ?_
    refine SatL.pu (RunV.halfI rfl rfl) rfl ?_
    refine SatL.pu (RunV.assign rfl) rfl ?_
    refine SatL.nil ?_
    refine SatE.again ((x / 2, d + 1)) ?_ (by first | omega | (dsimp only; omega)) (by repeat constructor)
    dsimp only
    rw [show 63 - (d + 1) = f by omega]
    exact ⟨by omega, by rw [Nat.pow_succ] at hx; omega, by omega, hS⟩
  · (try simp only [cx, ne_eq] at h1)
    try (exfalso; (first | omega | exact h1 trivial | contradiction); done)
    all_goals
    refine SatC.exit (SatE.then_exit (SatE.then_exit (SatE.blk_exit (SatE.thenC ?_))))
    refine SatC.seq ?_
    refine SatC.region ?_
    refine SatL.pu (RunV.move rfl) rfl ?_
    refine SatL.pu (RunV.assign rfl) rfl ?_
    refine SatL.nil (SatE.thenC ?_)
    refine SatC.ret ?_
    refine SatE.ret1 rfl rfl ?_
    refine ⟨?_, hS⟩
    have hx0 : x = 0 := by omega
    subst hx0
    have : digF (63 - d) 0 = 0 := by cases 63 - d <;> simp [digF]
    rw [← hf, this, Nat.zero_add]
end Go.Proofs.Ytfkalbbdmlinlaa
