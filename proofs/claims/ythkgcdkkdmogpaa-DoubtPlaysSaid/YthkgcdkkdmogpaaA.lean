/- Contracts of chapter 11's reckoning: how long a doubt lasts, the program's and the document's. -/
import Derived.Test.YthkgcdkkdmogpaaProg
import Derived.Test.YthkgcdkkdmogpaaK8
set_option linter.unusedSimpArgs false
set_option linter.unusedVariables false
set_option maxRecDepth 100000
set_option maxHeartbeats 1000000
namespace Go.Proofs.Ythkgcdkkdmogpaa
open Go.RowKit
def okp (l m k : Int) : Prop := 1 ≤ l ∧ l ≤ m ∧ m ≤ 262144 ∧ 0 ≤ k ∧ k ≤ 8
instance (l m k : Int) : Decidable (okp l m k) := by unfold okp; infer_instance
def sc (n : Int) : Int := [0, 0, 1000, 1585, 2000, 2322, 2585, 2807, 3000, 3170].getD n.toNat 0
def wt (l m k h : Int) : Int := if ¬ okp l m k then 0 else if k = 0 then l else m - ((m - l) * sc (min (max h 0) k + 1)).tdiv (sc (k + 1))
theorem sc_le {a b : Int} (h0 : 1 ≤ a) (h1 : a ≤ b) (h2 : b ≤ 9) : 0 ≤ sc a ∧ sc a ≤ sc b ∧ sc b ≤ 3170 := by
  have ha : a = 1 ∨ a = 2 ∨ a = 3 ∨ a = 4 ∨ a = 5 ∨ a = 6 ∨ a = 7 ∨ a = 8 ∨ a = 9 := by omega
  have hb : b = 1 ∨ b = 2 ∨ b = 3 ∨ b = 4 ∨ b = 5 ∨ b = 6 ∨ b = 7 ∨ b = 8 ∨ b = 9 := by omega
  rcases ha with rfl | rfl | rfl | rfl | rfl | rfl | rfl | rfl | rfl <;> rcases hb with rfl | rfl | rfl | rfl | rfl | rfl | rfl | rfl | rfl <;> first | omega | decide
theorem sc_pos {a : Int} (h0 : 2 ≤ a) (h2 : a ≤ 9) : 1000 ≤ sc a := (sc_le (by omega) h0 h2).2.1
theorem wt_facts {l m k h : Int} (ho : okp l m k) (hk : ¬ k = 0) :
    (1 ≤ min (max h 0) k + 1 ∧ min (max h 0) k + 1 ≤ 9) ∧ (2 ≤ k + 1 ∧ k + 1 ≤ 9) ∧ (0 ≤ (m - l) * sc (min (max h 0) k + 1) ∧ (m - l) * sc (min (max h 0) k + 1) ≤ 831000000) ∧ ¬ sc (k + 1) = 0 ∧
    (0 ≤ ((m - l) * sc (min (max h 0) k + 1)).tdiv (sc (k + 1)) ∧ ((m - l) * sc (min (max h 0) k + 1)).tdiv (sc (k + 1)) ≤ m - l) ∧ 1 ≤ l ∧ l ≤ m ∧ m ≤ 262144 ∧ 0 ≤ k ∧ k ≤ 8 := by
  unfold okp at ho
  have hc := sc_le (a := min (max h 0) k + 1) (b := k + 1) (by omega) (by omega) (by omega)
  have hp := sc_pos (a := k + 1) (by omega) (by omega)
  have h1 : 0 ≤ (m - l) * sc (min (max h 0) k + 1) := Int.mul_nonneg (by omega) hc.1
  have h2 : (m - l) * sc (min (max h 0) k + 1) ≤ (m - l) * sc (k + 1) := Int.mul_le_mul_of_nonneg_left hc.2.1 (by omega)
  have h3 : (m - l) * sc (k + 1) ≤ 262143 * 3170 := Int.mul_le_mul (by omega) hc.2.2 (by omega) (by omega)
  refine ⟨⟨by omega, by omega⟩, ⟨by omega, by omega⟩, ⟨h1, by omega⟩, by omega, ⟨?_, ?_⟩, by omega, by omega, by omega, by omega, by omega⟩
  · exact Int.tdiv_nonneg h1 (by omega)
  · have := Int.tdiv_le_tdiv (c := sc (k + 1)) (by omega) h2
    rwa [Int.mul_tdiv_cancel _ (by omega)] at this
theorem sc_at {n : Int} (h0 : 0 ≤ n) (h1 : n ≤ 9) : ([.int .i64 0, .int .i64 0, .int .i64 1000, .int .i64 1585, .int .i64 2000, .int .i64 2322, .int .i64 2585, .int .i64 2807, .int .i64 3000, .int .i64 3170] : List Value)[n.toNat]? = some (.int .i64 (sc n)) := by
  have hn : n = 0 ∨ n = 1 ∨ n = 2 ∨ n = 3 ∨ n = 4 ∨ n = 5 ∨ n = 6 ∨ n = 7 ∨ n = 8 ∨ n = 9 := by omega
  rcases hn with rfl | rfl | rfl | rfl | rfl | rfl | rfl | rfl | rfl | rfl <;> rfl
theorem sc_at' {n : Int} (h0 : 0 ≤ n) (h1 : n ≤ 9) : ([.int .i64 0, .int .i64 0, .int .i64 1000, .int .i64 1585, .int .i64 2000, .int .i64 2322, .int .i64 2585, .int .i64 2807, .int .i64 3000, .int .i64 3170] : List Value)[0 + n.toNat * 1]? = some (.int .i64 (sc n)) := by
  rw [Nat.zero_add, Nat.mul_one]
  exact sc_at h0 h1
theorem scale_any (n : Int) (w : World) (hn : 0 ≤ n ∧ n ≤ 9) : Ret Try.prog 20 #[.int .i64 n] w fun v w' => v = .int .i64 (sc n) ∧ St w [] [] w' := by
  have hS := St.init0 w
  refine Ret.enter Try.func20 Try.ntmps20 rfl rfl ?_
  simp only [argEnv, Nat.reduceAdd]
  refine SatC.seq ?_
  refine SatC.region ?_
  refine SatL.pu (RunV.assign rfl) rfl ?_
  refine SatL.nil (SatE.thenC ?_)
  refine SatC.seq ?_
  refine SatC.region ?_
  refine SatL.pu (RunV.build rfl (by simp [go_sem]; try rfl)) rfl ?_
  refine SatL.pu (RunV.move rfl) rfl ?_
  refine SatL.pu (RunV.indexV1 rfl rfl rfl rfl rfl (by omega) (by omega) (sc_at hn.1 hn.2)) rfl ?_
  refine SatL.pu (RunV.assign rfl) rfl ?_
  refine SatL.nil (SatE.thenC ?_)
  refine SatC.ret ?_
  refine SatE.ret1 rfl rfl ?_
  exact ⟨rfl, hS⟩
theorem may_any (l m k : Int) (w : World) : Ret Try.prog 19 #[.int .i64 l, .int .i64 m, .int .i64 k] w fun v w' => v = .bool (decide (okp l m k)) ∧ St w [] [] w' := by
  have hS := St.init0 w
  refine Ret.enter Try.func19 Try.ntmps19 rfl rfl ?_
  simp only [argEnv, Nat.reduceAdd]
  refine SatC.seq ?_
  refine SatC.region ?_
  refine SatL.pu (RunV.assign rfl) rfl ?_
  refine SatL.nil (SatE.thenC ?_)
  refine SatC.seq ?_
  refine SatC.region ?_
  refine SatL.pu (RunV.move rfl) rfl ?_
  refine SatL.pu (RunV.geq rfl rfl) rfl ?_
  refine SatL.pu (RunV.move rfl) rfl ?_
  refine SatL.guard rfl rfl rfl (fun h1 => ?_) (fun h1 => ?_)
  · (try simp only [cx, ne_eq] at h1)
    try (exfalso; (first | omega | exact h1 trivial); done)
    all_goals
    refine SatL.pu (RunV.move rfl) rfl ?_
    refine SatL.guard_y rfl rfl ?_
    refine SatL.pu (RunV.move rfl) rfl ?_
    refine SatL.guard_y rfl rfl ?_
    refine SatL.pu (RunV.geq rfl rfl) rfl ?_
    refine SatL.pu (RunV.pick_t rfl rfl) rfl ?_
    refine SatL.pu (RunV.move rfl) rfl ?_
    refine SatL.guard rfl rfl rfl (fun h2 => ?_) (fun h2 => ?_)
    · (try simp only [cx, ne_eq] at h2)
      try (exfalso; (first | omega | exact h2 trivial); done)
      all_goals
      refine SatL.pu (RunV.move rfl) rfl ?_
      refine SatL.guard_y rfl rfl ?_
      refine SatL.pu (RunV.leq rfl rfl) rfl ?_
      refine SatL.pu (RunV.pick_t rfl rfl) rfl ?_
      refine SatL.pu (RunV.move rfl) rfl ?_
      refine SatL.guard rfl rfl rfl (fun h3 => ?_) (fun h3 => ?_)
      · (try simp only [cx, ne_eq] at h3)
        try (exfalso; (first | omega | exact h3 trivial); done)
        all_goals
        refine SatL.pu (RunV.move rfl) rfl ?_
        refine SatL.guard_y rfl rfl ?_
        refine SatL.pu (RunV.geq rfl rfl) rfl ?_
        refine SatL.pu (RunV.pick_t rfl rfl) rfl ?_
        refine SatL.pu (RunV.move rfl) rfl ?_
        refine SatL.guard rfl rfl rfl (fun h4 => ?_) (fun h4 => ?_)
        · (try simp only [cx, ne_eq] at h4)
          try (exfalso; (first | omega | exact h4 trivial); done)
          all_goals
          refine SatL.pu (RunV.move rfl) rfl ?_
          refine SatL.guard_y rfl rfl ?_
          refine SatL.pu (RunV.leq rfl rfl) rfl ?_
          refine SatL.pu (RunV.pick_t rfl rfl) rfl ?_
          refine SatL.pu (RunV.assign rfl) rfl ?_
          refine SatL.nil (SatE.thenC ?_)
          refine SatC.ret ?_
          refine SatE.ret1 rfl rfl ?_
          refine ⟨congrArg Value.bool ?_, hS⟩
          rw [Bool.eq_iff_iff]
          simp only [decide_eq_true_eq, Bool.false_eq_true, false_iff]
          unfold okp
          omega
        · (try simp only [cx, ne_eq] at h4)
          try (exfalso; (first | omega | exact h4 trivial); done)
          all_goals
          refine SatL.guard_n rfl rfl rfl rfl ?_
          refine SatL.pu (RunV.pick_f rfl rfl) rfl ?_
          refine SatL.pu (RunV.assign rfl) rfl ?_
          refine SatL.nil (SatE.thenC ?_)
          refine SatC.ret ?_
          refine SatE.ret1 rfl rfl ?_
          refine ⟨congrArg Value.bool ?_, hS⟩
          rw [Bool.eq_iff_iff]
          simp only [decide_eq_true_eq, Bool.false_eq_true, false_iff]
          unfold okp
          omega
      · (try simp only [cx, ne_eq] at h3)
        try (exfalso; (first | omega | exact h3 trivial); done)
        all_goals
        refine SatL.guard_n rfl rfl rfl rfl ?_
        refine SatL.pu (RunV.pick_f rfl rfl) rfl ?_
        refine SatL.pu (RunV.move rfl) rfl ?_
        refine SatL.guard_n rfl rfl rfl rfl ?_
        refine SatL.guard_n rfl rfl rfl rfl ?_
        refine SatL.pu (RunV.pick_f rfl rfl) rfl ?_
        refine SatL.pu (RunV.assign rfl) rfl ?_
        refine SatL.nil (SatE.thenC ?_)
        refine SatC.ret ?_
        refine SatE.ret1 rfl rfl ?_
        refine ⟨congrArg Value.bool ?_, hS⟩
        rw [Bool.eq_iff_iff]
        simp only [decide_eq_true_eq, Bool.false_eq_true, false_iff]
        unfold okp
        omega
    · (try simp only [cx, ne_eq] at h2)
      try (exfalso; (first | omega | exact h2 trivial); done)
      all_goals
      refine SatL.guard_n rfl rfl rfl rfl ?_
      refine SatL.pu (RunV.pick_f rfl rfl) rfl ?_
      refine SatL.pu (RunV.move rfl) rfl ?_
      refine SatL.guard_n rfl rfl rfl rfl ?_
      refine SatL.guard_n rfl rfl rfl rfl ?_
      refine SatL.pu (RunV.pick_f rfl rfl) rfl ?_
      refine SatL.pu (RunV.move rfl) rfl ?_
      refine SatL.guard_n rfl rfl rfl rfl ?_
      refine SatL.guard_n rfl rfl rfl rfl ?_
      refine SatL.pu (RunV.pick_f rfl rfl) rfl ?_
      refine SatL.pu (RunV.assign rfl) rfl ?_
      refine SatL.nil (SatE.thenC ?_)
      refine SatC.ret ?_
      refine SatE.ret1 rfl rfl ?_
      refine ⟨congrArg Value.bool ?_, hS⟩
      rw [Bool.eq_iff_iff]
      simp only [decide_eq_true_eq, Bool.false_eq_true, false_iff]
      unfold okp
      omega
  · (try simp only [cx, ne_eq] at h1)
    try (exfalso; (first | omega | exact h1 trivial); done)
    all_goals
    refine SatL.guard_n rfl rfl rfl rfl ?_
    refine SatL.guard_n rfl rfl rfl rfl ?_
    refine SatL.pu (RunV.pick_f rfl rfl) rfl ?_
    refine SatL.pu (RunV.move rfl) rfl ?_
    refine SatL.guard_n rfl rfl rfl rfl ?_
    refine SatL.guard_n rfl rfl rfl rfl ?_
    refine SatL.pu (RunV.pick_f rfl rfl) rfl ?_
    refine SatL.pu (RunV.move rfl) rfl ?_
    refine SatL.guard_n rfl rfl rfl rfl ?_
    refine SatL.guard_n rfl rfl rfl rfl ?_
    refine SatL.pu (RunV.pick_f rfl rfl) rfl ?_
    refine SatL.pu (RunV.move rfl) rfl ?_
    refine SatL.guard_n rfl rfl rfl rfl ?_
    refine SatL.guard_n rfl rfl rfl rfl ?_
    refine SatL.pu (RunV.pick_f rfl rfl) rfl ?_
    refine SatL.pu (RunV.assign rfl) rfl ?_
    refine SatL.nil (SatE.thenC ?_)
    refine SatC.ret ?_
    refine SatE.ret1 rfl rfl ?_
    refine ⟨congrArg Value.bool ?_, hS⟩
    rw [Bool.eq_iff_iff]
    simp only [decide_eq_true_eq, Bool.false_eq_true, false_iff]
    unfold okp
    omega
theorem wait_any (l m k q : Int) (w : World) : Ret Try.prog 7 #[.int .i64 l, .int .i64 m, .int .i64 k, .int .i64 q] w fun v w' => v = .int .i64 (wt l m k q) ∧ St w [] [] w' := by
  have hS := St.init0 w
  refine Ret.enter Try.func7 Try.ntmps7 rfl rfl ?_
  simp only [argEnv, Nat.reduceAdd]
  refine SatC.seq ?_
  refine SatC.region ?_
  refine SatL.pu (RunV.assign rfl) rfl ?_
  refine SatL.nil (SatE.thenC ?_)
  refine SatC.seq ?_
  refine SatC.seq ?_
  refine SatC.region ?_
  refine SatL.pu (RunV.move rfl) rfl ?_
  refine SatL.pu (RunV.move rfl) rfl ?_
  refine SatL.pu (RunV.move rfl) rfl ?_
  refine SatL.op rfl (OpW.enter rfl rfl rfl rfl (may_any _ _ _ _) ?_)
  rintro r1 w1 ⟨rfl, h⟩
  replace hS := St.callN hS h
  refine SatL.pu (RunV.not rfl) rfl ?_
  refine SatL.nil (SatE.thenC ?_)
  refine SatC.cond rfl (fun h1 => ?_) (fun h1 => ?_)
  · (try simp only [cx, ne_eq] at h1)
    try (exfalso; (first | omega | exact h1 trivial); done)
    all_goals
    refine SatC.seq ?_
    refine SatC.region ?_
    refine SatL.pu (RunV.assign rfl) rfl ?_
    refine SatL.nil (SatE.thenC ?_)
    refine SatC.ret (SatE.then_ret ?_)
    refine SatE.ret1 rfl rfl ?_
    exact ⟨by rw [wt, if_pos h1], hS⟩
  · (try simp only [cx, ne_eq] at h1)
    try (exfalso; (first | omega | exact h1 trivial); done)
    all_goals
    refine SatC.skip (SatE.thenC ?_)
    refine SatC.seq ?_
    refine SatC.seq ?_
    refine SatC.region ?_
    refine SatL.pu (RunV.move rfl) rfl ?_
    refine SatL.pu (RunV.eql rfl rfl) rfl ?_
    refine SatL.nil (SatE.thenC ?_)
    refine SatC.cond rfl (fun h2 => ?_) (fun h2 => ?_)
    · (try simp only [cx, ne_eq] at h2)
      try (exfalso; (first | omega | exact h2 trivial); done)
      all_goals
      refine SatC.seq ?_
      refine SatC.region ?_
      refine SatL.pu (RunV.move rfl) rfl ?_
      refine SatL.pu (RunV.assign rfl) rfl ?_
      refine SatL.nil (SatE.thenC ?_)
      refine SatC.ret (SatE.then_ret ?_)
      refine SatE.ret1 rfl rfl ?_
      exact ⟨by rw [wt, if_neg (fun e => e h1), if_pos h2], hS⟩
    · (try simp only [cx, ne_eq] at h2)
      try (exfalso; (first | omega | exact h2 trivial); done)
      all_goals
      refine SatC.skip (SatE.thenC ?_)
      refine SatC.seq ?_
      refine SatC.region ?_
      refine SatL.pu (RunV.move rfl) rfl ?_
      refine SatL.pu (RunV.max2 rfl rfl) rfl ?_
      refine SatL.pu (RunV.move rfl) rfl ?_
      refine SatL.pu (RunV.min2 rfl rfl) rfl ?_
      refine SatL.pu (RunV.assign rfl) rfl ?_
      refine SatL.nil (SatE.thenC ?_)
      refine SatC.seq ?_
      refine SatC.weak (e' := [(0, _), (1, _), (2, _), (8, _), (9, _)]) (by repeat constructor) ?_
      obtain ⟨f1, f2, f3, f4, f5, f6⟩ := wt_facts (h := q) h1 h2
      refine SatC.region ?_
      refine SatL.pu (RunV.move rfl) rfl ?_
      refine SatL.pu (RunV.move rfl) rfl ?_
      refine SatL.pu (RunV.move rfl) rfl ?_
      refine SatL.pu (RunV.sub rfl rfl (by first | exact wrapI64 (by omega) | rfl)) rfl ?_
      refine SatL.pu (RunV.move rfl) rfl ?_
      refine SatL.pu (RunV.add rfl rfl (by first | exact wrapI64 (by omega) | rfl)) rfl ?_
      refine SatL.op rfl (OpW.enter rfl rfl rfl rfl (scale_any _ _ (by omega)) ?_)
      rintro r2 w2 ⟨rfl, h⟩
      replace hS := St.callN hS h
      refine SatL.pu (RunV.mul rfl rfl (by first | exact wrapI64 (by omega) | rfl)) rfl ?_
      refine SatL.pu (RunV.move rfl) rfl ?_
      refine SatL.pu (RunV.add rfl rfl (by first | exact wrapI64 (by omega) | rfl)) rfl ?_
      refine SatL.op rfl (OpW.enter rfl rfl rfl rfl (scale_any _ _ (by omega)) ?_)
      rintro r3 w3 ⟨rfl, h⟩
      replace hS := St.callN hS h
      refine SatL.pu (RunV.quo rfl rfl (by first | decide | omega) (by first | exact wrapI64 (by omega) | rfl)) rfl ?_
      refine SatL.pu (RunV.sub rfl rfl (by first | exact wrapI64 (by omega) | rfl)) rfl ?_
      refine SatL.pu (RunV.assign rfl) rfl ?_
      refine SatL.nil (SatE.thenC ?_)
      refine SatC.ret ?_
      refine SatE.ret1 rfl rfl ?_
      exact ⟨by rw [wt, if_neg (fun e => e h1), if_neg h2], hS⟩
theorem wait_ref (l m k q : Int) (w : World) : Ret Try.prog 8 #[.int .i64 l, .int .i64 m, .int .i64 k, .int .i64 q] w fun v w' => v = .int .i64 (wt l m k q) ∧ St w [] [] w' := by
  have hS := St.init0 w
  refine Ret.enter Try.func8 Try.ntmps8 rfl rfl ?_
  simp only [argEnv, Nat.reduceAdd]
  refine SatC.seq ?_
  refine SatC.region ?_
  refine SatL.pu (RunV.assign rfl) rfl ?_
  refine SatL.nil (SatE.thenC ?_)
  refine SatC.seq ?_
  refine SatC.seq ?_
  refine SatC.region ?_
  refine SatL.pu (RunV.move rfl) rfl ?_
  refine SatL.pu (RunV.lss rfl rfl) rfl ?_
  refine SatL.pu (RunV.move rfl) rfl ?_
  refine SatL.guard rfl rfl rfl (fun h1 => ?_) (fun h1 => ?_)
  · (try simp only [cx, ne_eq] at h1)
    try (exfalso; (first | omega | exact h1 trivial); done)
    all_goals
    refine SatL.pu (RunV.move rfl) rfl ?_
    refine SatL.guard_y rfl rfl ?_
    refine SatL.pu (RunV.move rfl) rfl ?_
    refine SatL.guard_y rfl rfl ?_
    refine SatL.pu (RunV.lss rfl rfl) rfl ?_
    refine SatL.pu (RunV.pick_f rfl rfl) rfl ?_
    refine SatL.pu (RunV.move rfl) rfl ?_
    refine SatL.guard rfl rfl rfl (fun h2 => ?_) (fun h2 => ?_)
    · (try simp only [cx, ne_eq] at h2)
      try (exfalso; (first | omega | exact h2 trivial); done)
      all_goals
      refine SatL.pu (RunV.move rfl) rfl ?_
      refine SatL.guard_y rfl rfl ?_
      refine SatL.pu (RunV.gtr rfl rfl) rfl ?_
      refine SatL.pu (RunV.pick_f rfl rfl) rfl ?_
      refine SatL.pu (RunV.move rfl) rfl ?_
      refine SatL.guard rfl rfl rfl (fun h3 => ?_) (fun h3 => ?_)
      · (try simp only [cx, ne_eq] at h3)
        try (exfalso; (first | omega | exact h3 trivial); done)
        all_goals
        refine SatL.pu (RunV.move rfl) rfl ?_
        refine SatL.guard_y rfl rfl ?_
        refine SatL.pu (RunV.lss rfl rfl) rfl ?_
        refine SatL.pu (RunV.pick_f rfl rfl) rfl ?_
        refine SatL.pu (RunV.move rfl) rfl ?_
        refine SatL.guard rfl rfl rfl (fun h4 => ?_) (fun h4 => ?_)
        · (try simp only [cx, ne_eq] at h4)
          try (exfalso; (first | omega | exact h4 trivial); done)
          all_goals
          refine SatL.pu (RunV.move rfl) rfl ?_
          refine SatL.guard_y rfl rfl ?_
          refine SatL.pu (RunV.gtr rfl rfl) rfl ?_
          refine SatL.pu (RunV.pick_f rfl rfl) rfl ?_
          refine SatL.nil (SatE.thenC ?_)
          refine SatC.weak (e' := [(0, _), (1, _), (2, _), (3, _), (8, _), (29, _)]) (by repeat constructor) ?_
          refine SatC.cond rfl (fun h5 => ?_) (fun h5 => ?_)
          · (try simp only [cx, ne_eq] at h5)
            try (exfalso; (first | omega | exact h5 trivial); done)
            all_goals
            refine SatC.seq ?_
            refine SatC.region ?_
            refine SatL.pu (RunV.assign rfl) rfl ?_
            refine SatL.nil (SatE.thenC ?_)
            refine SatC.ret (SatE.then_ret ?_)
            refine SatE.ret1 rfl rfl ?_
            first | exact ⟨by rw [wt, if_pos (by unfold okp; omega)], hS⟩ | exact ⟨by rw [wt, if_neg (fun e => e (by unfold okp; omega)), if_pos (by omega)], hS⟩ | exact ⟨by rw [hw], hS.sub (List.nil_sublist _)⟩
          · (try simp only [cx, ne_eq] at h5)
            try (exfalso; (first | omega | exact h5 trivial); done)
            all_goals
            refine SatC.skip (SatE.thenC ?_)
            refine SatC.seq ?_
            refine SatC.seq ?_
            refine SatC.region ?_
            refine SatL.pu (RunV.move rfl) rfl ?_
            refine SatL.pu (RunV.eql rfl rfl) rfl ?_
            refine SatL.nil (SatE.thenC ?_)
            refine SatC.cond rfl (fun h6 => ?_) (fun h6 => ?_)
            · (try simp only [cx, ne_eq] at h6)
              try (exfalso; (first | omega | exact h6 trivial); done)
              all_goals
              refine SatC.seq ?_
              refine SatC.region ?_
              refine SatL.pu (RunV.move rfl) rfl ?_
              refine SatL.pu (RunV.assign rfl) rfl ?_
              refine SatL.nil (SatE.thenC ?_)
              refine SatC.ret (SatE.then_ret ?_)
              refine SatE.ret1 rfl rfl ?_
              first | exact ⟨by rw [wt, if_pos (by unfold okp; omega)], hS⟩ | exact ⟨by rw [wt, if_neg (fun e => e (by unfold okp; omega)), if_pos (by omega)], hS⟩ | exact ⟨by rw [hw], hS.sub (List.nil_sublist _)⟩
            · (try simp only [cx, ne_eq] at h6)
              try (exfalso; (first | omega | exact h6 trivial); done)
              all_goals
              refine SatC.skip (SatE.thenC ?_)
              refine SatC.seq ?_
              refine SatC.region ?_
              refine SatL.pu (RunV.move rfl) rfl ?_
              refine SatL.pu (RunV.assign rfl) rfl ?_
              refine SatL.nil (SatE.thenC ?_)
              refine SatC.seq ?_
              refine SatC.seq ?_
              refine SatC.region ?_
              refine SatL.pu (RunV.move rfl) rfl ?_
              refine SatL.pu (RunV.lss rfl rfl) rfl ?_
              refine SatL.nil (SatE.thenC ?_)
              refine SatC.cond rfl (fun h7 => ?_) (fun h7 => ?_)
              · (try simp only [cx, ne_eq] at h7)
                try (exfalso; (first | omega | exact h7 trivial); done)
                all_goals
                refine SatC.region ?_
                refine SatL.pu (RunV.assign rfl) rfl ?_
                refine SatL.nil (SatE.thenC ?_)
                refine SatC.seq ?_
                refine SatC.seq ?_
                refine SatC.region ?_
                refine SatL.pu (RunV.move rfl) rfl ?_
                refine SatL.pu (RunV.move rfl) rfl ?_
                refine SatL.pu (RunV.gtr rfl rfl) rfl ?_
                refine SatL.nil (SatE.thenC ?_)
                refine SatC.cond rfl (fun h8 => ?_) (fun h8 => ?_)
                · (try simp only [cx, ne_eq] at h8)
                  try (exfalso; (first | omega | exact h8 trivial); done)
                  all_goals
                  refine SatC.region ?_
                  refine SatL.pu (RunV.move rfl) rfl ?_
                  refine SatL.pu (RunV.assign rfl) rfl ?_
                  refine SatL.nil (SatE.thenC ?_)
                  refine SatC.seq ?_
                  have ho : okp l m k := by unfold okp; omega
                  have hk0 : ¬ k = 0 := by omega
                  have hf := wt_facts (h := q) ho hk0
                  have hw : wt l m k q = m - ((m - l) * sc (min (max q 0) k + 1)).tdiv (sc (k + 1)) := by rw [wt, if_neg (fun e => e ho), if_neg hk0]
                  first | rw [show min (max q 0) k = q by omega] at hf hw | rw [show min (max q 0) k = 0 by omega] at hf hw | rw [show min (max q 0) k = k by omega] at hf hw
                  obtain ⟨f1, f2, f3, f4, f5, f6⟩ := hf
                  refine SatC.region ?_
                  refine SatL.op rfl (OpW.buildSliceV (vs := [_, _, _, _, _, _, _, _, _, _]) hS rfl rfl rfl rfl rfl rfl rfl rfl rfl ?_)
                  clear hS
                  intro b40 w1 _ hS
                  refine SatL.pu (RunV.assign rfl) rfl ?_
                  refine SatL.nil (SatE.thenC ?_)
                  refine SatC.seq ?_
                  refine SatC.weak (e' := [(0, _), (1, _), (2, _), (8, _), (9, _), (10, _)]) (by repeat constructor) ?_
                  refine SatC.drawnS 18 (hS) (by kernel_rfl) ?_
                  clear hS
                  intro w2 _ hS hD
                  refine SatD.take 0 rfl [] (by kernel_rfl) (fun _ _ _ h => h) rfl rfl hD (fun _ hw => RunV.move rfl) ?_
                  refine SatD.take 1 rfl [] (by kernel_rfl) (fun _ _ _ h => h) rfl rfl hD (fun _ hw => RunV.move rfl) ?_
                  refine SatD.take 2 rfl [] (by kernel_rfl) (fun _ _ _ h => h) rfl rfl hD (fun _ hw => RunV.move rfl) ?_
                  refine SatD.take 3 rfl [] (by kernel_rfl) (fun _ _ _ h => h) rfl rfl hD (fun _ hw => RunV.sub rfl rfl (by first | exact wrapI64 (by omega) | rfl)) ?_
                  refine SatD.take 4 rfl [] (by kernel_rfl) (fun _ _ _ h => h) rfl rfl hD (fun _ hw => RunV.move rfl) ?_
                  refine SatD.take 5 rfl [] (by kernel_rfl) (fun _ _ _ h => h) rfl rfl hD (fun _ hw => RunV.move rfl) ?_
                  refine SatD.take 6 rfl [] (by kernel_rfl) (fun _ _ _ h => h) rfl rfl hD (fun _ hw => RunV.add rfl rfl (by first | exact wrapI64 (by omega) | rfl)) ?_
                  first | refine SatD.take 7 rfl [] (by kernel_rfl) (fun _ _ _ h => h) rfl rfl hD (fun _ hw => RunV.indexR (by assumption) rfl rfl rfl (by omega) (by omega) rfl) ?_ | refine SatD.take 7 rfl [] (by kernel_rfl) (fun _ _ _ h => h) rfl rfl hD (fun _ hw => RunV.indexS rfl rfl rfl (by omega) (by omega) rfl) ?_
                  refine SatD.take 8 rfl [] (by kernel_rfl) (fun _ _ _ h => h) rfl rfl hD (fun _ hw => RunV.load1 hw rfl rfl (by repeat constructor) (sc_at' (by omega) (by omega))) ?_
                  refine SatD.take 9 rfl [] (by kernel_rfl) (fun _ _ _ h => h) rfl rfl hD (fun _ hw => RunV.mul rfl rfl (by first | exact wrapI64 (by omega) | rfl)) ?_
                  refine SatD.take 10 rfl [] (by kernel_rfl) (fun _ _ _ h => h) rfl rfl hD (fun _ hw => RunV.move rfl) ?_
                  refine SatD.take 11 rfl [] (by kernel_rfl) (fun _ _ _ h => h) rfl rfl hD (fun _ hw => RunV.move rfl) ?_
                  refine SatD.take 12 rfl [] (by kernel_rfl) (fun _ _ _ h => h) rfl rfl hD (fun _ hw => RunV.add rfl rfl (by first | exact wrapI64 (by omega) | rfl)) ?_
                  first | refine SatD.take 13 rfl [] (by kernel_rfl) (fun _ _ _ h => h) rfl rfl hD (fun _ hw => RunV.indexR (by assumption) rfl rfl rfl (by omega) (by omega) rfl) ?_ | refine SatD.take 13 rfl [] (by kernel_rfl) (fun _ _ _ h => h) rfl rfl hD (fun _ hw => RunV.indexS rfl rfl rfl (by omega) (by omega) rfl) ?_
                  refine SatD.take 14 rfl [] (by kernel_rfl) (fun _ _ _ h => h) rfl rfl hD (fun _ hw => RunV.load1 hw rfl rfl (by repeat constructor) (sc_at' (by omega) (by omega))) ?_
                  refine SatD.take 15 rfl [] (by kernel_rfl) (fun _ _ _ h => h) rfl rfl hD (fun _ hw => RunV.quo rfl rfl (by first | decide | omega) (by first | exact wrapI64 (by omega) | rfl)) ?_
                  refine SatD.take 16 rfl [] (by kernel_rfl) (fun _ _ _ h => h) rfl rfl hD (fun _ hw => RunV.sub rfl rfl (by first | exact wrapI64 (by omega) | rfl)) ?_
                  refine SatD.take 17 rfl [] (by kernel_rfl) (fun _ _ _ h => h) rfl rfl hD (fun _ hw => RunV.assign rfl) ?_
                  refine SatD.done 0 (by kernel_rfl) (SatE.thenC ?_)
                  clear hD
                  refine SatC.ret ?_
                  refine SatE.ret1 rfl rfl ?_
                  first | exact ⟨by rw [wt, if_pos (by unfold okp; omega)], hS⟩ | exact ⟨by rw [wt, if_neg (fun e => e (by unfold okp; omega)), if_pos (by omega)], hS⟩ | exact ⟨by rw [hw], hS.sub (List.nil_sublist _)⟩
                · (try simp only [cx, ne_eq] at h8)
                  try (exfalso; (first | omega | exact h8 trivial); done)
                  all_goals
                  refine SatC.skip (SatE.thenC ?_)
                  refine SatC.seq ?_
                  have ho : okp l m k := by unfold okp; omega
                  have hk0 : ¬ k = 0 := by omega
                  have hf := wt_facts (h := q) ho hk0
                  have hw : wt l m k q = m - ((m - l) * sc (min (max q 0) k + 1)).tdiv (sc (k + 1)) := by rw [wt, if_neg (fun e => e ho), if_neg hk0]
                  first | rw [show min (max q 0) k = q by omega] at hf hw | rw [show min (max q 0) k = 0 by omega] at hf hw | rw [show min (max q 0) k = k by omega] at hf hw
                  obtain ⟨f1, f2, f3, f4, f5, f6⟩ := hf
                  refine SatC.region ?_
                  refine SatL.op rfl (OpW.buildSliceV (vs := [_, _, _, _, _, _, _, _, _, _]) hS rfl rfl rfl rfl rfl rfl rfl rfl rfl ?_)
                  clear hS
                  intro b40 w1 _ hS
                  refine SatL.pu (RunV.assign rfl) rfl ?_
                  refine SatL.nil (SatE.thenC ?_)
                  refine SatC.seq ?_
                  refine SatC.drawnS 18 (hS) (by kernel_rfl) ?_
                  clear hS
                  intro w2 _ hS hD
                  refine SatD.take 0 rfl [] (by kernel_rfl) (fun _ _ _ h => h) rfl rfl hD (fun _ hw => RunV.move rfl) ?_
                  refine SatD.take 1 rfl [] (by kernel_rfl) (fun _ _ _ h => h) rfl rfl hD (fun _ hw => RunV.move rfl) ?_
                  refine SatD.take 2 rfl [] (by kernel_rfl) (fun _ _ _ h => h) rfl rfl hD (fun _ hw => RunV.move rfl) ?_
                  refine SatD.take 3 rfl [] (by kernel_rfl) (fun _ _ _ h => h) rfl rfl hD (fun _ hw => RunV.sub rfl rfl (by first | exact wrapI64 (by omega) | rfl)) ?_
                  refine SatD.take 4 rfl [] (by kernel_rfl) (fun _ _ _ h => h) rfl rfl hD (fun _ hw => RunV.move rfl) ?_
                  refine SatD.take 5 rfl [] (by kernel_rfl) (fun _ _ _ h => h) rfl rfl hD (fun _ hw => RunV.move rfl) ?_
                  refine SatD.take 6 rfl [] (by kernel_rfl) (fun _ _ _ h => h) rfl rfl hD (fun _ hw => RunV.add rfl rfl (by first | exact wrapI64 (by omega) | rfl)) ?_
                  first | refine SatD.take 7 rfl [] (by kernel_rfl) (fun _ _ _ h => h) rfl rfl hD (fun _ hw => RunV.indexR (by assumption) rfl rfl rfl (by omega) (by omega) rfl) ?_ | refine SatD.take 7 rfl [] (by kernel_rfl) (fun _ _ _ h => h) rfl rfl hD (fun _ hw => RunV.indexS rfl rfl rfl (by omega) (by omega) rfl) ?_
                  refine SatD.take 8 rfl [] (by kernel_rfl) (fun _ _ _ h => h) rfl rfl hD (fun _ hw => RunV.load1 hw rfl rfl (by repeat constructor) (sc_at' (by omega) (by omega))) ?_
                  refine SatD.take 9 rfl [] (by kernel_rfl) (fun _ _ _ h => h) rfl rfl hD (fun _ hw => RunV.mul rfl rfl (by first | exact wrapI64 (by omega) | rfl)) ?_
                  refine SatD.take 10 rfl [] (by kernel_rfl) (fun _ _ _ h => h) rfl rfl hD (fun _ hw => RunV.move rfl) ?_
                  refine SatD.take 11 rfl [] (by kernel_rfl) (fun _ _ _ h => h) rfl rfl hD (fun _ hw => RunV.move rfl) ?_
                  refine SatD.take 12 rfl [] (by kernel_rfl) (fun _ _ _ h => h) rfl rfl hD (fun _ hw => RunV.add rfl rfl (by first | exact wrapI64 (by omega) | rfl)) ?_
                  first | refine SatD.take 13 rfl [] (by kernel_rfl) (fun _ _ _ h => h) rfl rfl hD (fun _ hw => RunV.indexR (by assumption) rfl rfl rfl (by omega) (by omega) rfl) ?_ | refine SatD.take 13 rfl [] (by kernel_rfl) (fun _ _ _ h => h) rfl rfl hD (fun _ hw => RunV.indexS rfl rfl rfl (by omega) (by omega) rfl) ?_
                  refine SatD.take 14 rfl [] (by kernel_rfl) (fun _ _ _ h => h) rfl rfl hD (fun _ hw => RunV.load1 hw rfl rfl (by repeat constructor) (sc_at' (by omega) (by omega))) ?_
                  refine SatD.take 15 rfl [] (by kernel_rfl) (fun _ _ _ h => h) rfl rfl hD (fun _ hw => RunV.quo rfl rfl (by first | decide | omega) (by first | exact wrapI64 (by omega) | rfl)) ?_
                  refine SatD.take 16 rfl [] (by kernel_rfl) (fun _ _ _ h => h) rfl rfl hD (fun _ hw => RunV.sub rfl rfl (by first | exact wrapI64 (by omega) | rfl)) ?_
                  refine SatD.take 17 rfl [] (by kernel_rfl) (fun _ _ _ h => h) rfl rfl hD (fun _ hw => RunV.assign rfl) ?_
                  refine SatD.done 0 (by kernel_rfl) (SatE.thenC ?_)
                  clear hD
                  refine SatC.ret ?_
                  refine SatE.ret1 rfl rfl ?_
                  first | exact ⟨by rw [wt, if_pos (by unfold okp; omega)], hS⟩ | exact ⟨by rw [wt, if_neg (fun e => e (by unfold okp; omega)), if_pos (by omega)], hS⟩ | exact ⟨by rw [hw], hS.sub (List.nil_sublist _)⟩
              · (try simp only [cx, ne_eq] at h7)
                try (exfalso; (first | omega | exact h7 trivial); done)
                all_goals
                refine SatC.skip (SatE.thenC ?_)
                refine SatC.seq ?_
                refine SatC.seq ?_
                refine SatC.region ?_
                refine SatL.pu (RunV.move rfl) rfl ?_
                refine SatL.pu (RunV.move rfl) rfl ?_
                refine SatL.pu (RunV.gtr rfl rfl) rfl ?_
                refine SatL.nil (SatE.thenC ?_)
                refine SatC.cond rfl (fun h8 => ?_) (fun h8 => ?_)
                · (try simp only [cx, ne_eq] at h8)
                  try (exfalso; (first | omega | exact h8 trivial); done)
                  all_goals
                  refine SatC.region ?_
                  refine SatL.pu (RunV.move rfl) rfl ?_
                  refine SatL.pu (RunV.assign rfl) rfl ?_
                  refine SatL.nil (SatE.thenC ?_)
                  refine SatC.seq ?_
                  have ho : okp l m k := by unfold okp; omega
                  have hk0 : ¬ k = 0 := by omega
                  have hf := wt_facts (h := q) ho hk0
                  have hw : wt l m k q = m - ((m - l) * sc (min (max q 0) k + 1)).tdiv (sc (k + 1)) := by rw [wt, if_neg (fun e => e ho), if_neg hk0]
                  first | rw [show min (max q 0) k = q by omega] at hf hw | rw [show min (max q 0) k = 0 by omega] at hf hw | rw [show min (max q 0) k = k by omega] at hf hw
                  obtain ⟨f1, f2, f3, f4, f5, f6⟩ := hf
                  refine SatC.region ?_
                  refine SatL.op rfl (OpW.buildSliceV (vs := [_, _, _, _, _, _, _, _, _, _]) hS rfl rfl rfl rfl rfl rfl rfl rfl rfl ?_)
                  clear hS
                  intro b40 w1 _ hS
                  refine SatL.pu (RunV.assign rfl) rfl ?_
                  refine SatL.nil (SatE.thenC ?_)
                  refine SatC.seq ?_
                  refine SatC.weak (e' := [(0, _), (1, _), (2, _), (8, _), (9, _), (10, _)]) (by repeat constructor) ?_
                  refine SatC.drawnS 18 (hS) (by kernel_rfl) ?_
                  clear hS
                  intro w2 _ hS hD
                  refine SatD.take 0 rfl [] (by kernel_rfl) (fun _ _ _ h => h) rfl rfl hD (fun _ hw => RunV.move rfl) ?_
                  refine SatD.take 1 rfl [] (by kernel_rfl) (fun _ _ _ h => h) rfl rfl hD (fun _ hw => RunV.move rfl) ?_
                  refine SatD.take 2 rfl [] (by kernel_rfl) (fun _ _ _ h => h) rfl rfl hD (fun _ hw => RunV.move rfl) ?_
                  refine SatD.take 3 rfl [] (by kernel_rfl) (fun _ _ _ h => h) rfl rfl hD (fun _ hw => RunV.sub rfl rfl (by first | exact wrapI64 (by omega) | rfl)) ?_
                  refine SatD.take 4 rfl [] (by kernel_rfl) (fun _ _ _ h => h) rfl rfl hD (fun _ hw => RunV.move rfl) ?_
                  refine SatD.take 5 rfl [] (by kernel_rfl) (fun _ _ _ h => h) rfl rfl hD (fun _ hw => RunV.move rfl) ?_
                  refine SatD.take 6 rfl [] (by kernel_rfl) (fun _ _ _ h => h) rfl rfl hD (fun _ hw => RunV.add rfl rfl (by first | exact wrapI64 (by omega) | rfl)) ?_
                  first | refine SatD.take 7 rfl [] (by kernel_rfl) (fun _ _ _ h => h) rfl rfl hD (fun _ hw => RunV.indexR (by assumption) rfl rfl rfl (by omega) (by omega) rfl) ?_ | refine SatD.take 7 rfl [] (by kernel_rfl) (fun _ _ _ h => h) rfl rfl hD (fun _ hw => RunV.indexS rfl rfl rfl (by omega) (by omega) rfl) ?_
                  refine SatD.take 8 rfl [] (by kernel_rfl) (fun _ _ _ h => h) rfl rfl hD (fun _ hw => RunV.load1 hw rfl rfl (by repeat constructor) (sc_at' (by omega) (by omega))) ?_
                  refine SatD.take 9 rfl [] (by kernel_rfl) (fun _ _ _ h => h) rfl rfl hD (fun _ hw => RunV.mul rfl rfl (by first | exact wrapI64 (by omega) | rfl)) ?_
                  refine SatD.take 10 rfl [] (by kernel_rfl) (fun _ _ _ h => h) rfl rfl hD (fun _ hw => RunV.move rfl) ?_
                  refine SatD.take 11 rfl [] (by kernel_rfl) (fun _ _ _ h => h) rfl rfl hD (fun _ hw => RunV.move rfl) ?_
                  refine SatD.take 12 rfl [] (by kernel_rfl) (fun _ _ _ h => h) rfl rfl hD (fun _ hw => RunV.add rfl rfl (by first | exact wrapI64 (by omega) | rfl)) ?_
                  first | refine SatD.take 13 rfl [] (by kernel_rfl) (fun _ _ _ h => h) rfl rfl hD (fun _ hw => RunV.indexR (by assumption) rfl rfl rfl (by omega) (by omega) rfl) ?_ | refine SatD.take 13 rfl [] (by kernel_rfl) (fun _ _ _ h => h) rfl rfl hD (fun _ hw => RunV.indexS rfl rfl rfl (by omega) (by omega) rfl) ?_
                  refine SatD.take 14 rfl [] (by kernel_rfl) (fun _ _ _ h => h) rfl rfl hD (fun _ hw => RunV.load1 hw rfl rfl (by repeat constructor) (sc_at' (by omega) (by omega))) ?_
                  refine SatD.take 15 rfl [] (by kernel_rfl) (fun _ _ _ h => h) rfl rfl hD (fun _ hw => RunV.quo rfl rfl (by first | decide | omega) (by first | exact wrapI64 (by omega) | rfl)) ?_
                  refine SatD.take 16 rfl [] (by kernel_rfl) (fun _ _ _ h => h) rfl rfl hD (fun _ hw => RunV.sub rfl rfl (by first | exact wrapI64 (by omega) | rfl)) ?_
                  refine SatD.take 17 rfl [] (by kernel_rfl) (fun _ _ _ h => h) rfl rfl hD (fun _ hw => RunV.assign rfl) ?_
                  refine SatD.done 0 (by kernel_rfl) (SatE.thenC ?_)
                  clear hD
                  refine SatC.ret ?_
                  refine SatE.ret1 rfl rfl ?_
                  first | exact ⟨by rw [wt, if_pos (by unfold okp; omega)], hS⟩ | exact ⟨by rw [wt, if_neg (fun e => e (by unfold okp; omega)), if_pos (by omega)], hS⟩ | exact ⟨by rw [hw], hS.sub (List.nil_sublist _)⟩
                · (try simp only [cx, ne_eq] at h8)
                  try (exfalso; (first | omega | exact h8 trivial); done)
                  all_goals
                  refine SatC.skip (SatE.thenC ?_)
                  refine SatC.seq ?_
                  have ho : okp l m k := by unfold okp; omega
                  have hk0 : ¬ k = 0 := by omega
                  have hf := wt_facts (h := q) ho hk0
                  have hw : wt l m k q = m - ((m - l) * sc (min (max q 0) k + 1)).tdiv (sc (k + 1)) := by rw [wt, if_neg (fun e => e ho), if_neg hk0]
                  first | rw [show min (max q 0) k = q by omega] at hf hw | rw [show min (max q 0) k = 0 by omega] at hf hw | rw [show min (max q 0) k = k by omega] at hf hw
                  obtain ⟨f1, f2, f3, f4, f5, f6⟩ := hf
                  refine SatC.region ?_
                  refine SatL.op rfl (OpW.buildSliceV (vs := [_, _, _, _, _, _, _, _, _, _]) hS rfl rfl rfl rfl rfl rfl rfl rfl rfl ?_)
                  clear hS
                  intro b40 w1 _ hS
                  refine SatL.pu (RunV.assign rfl) rfl ?_
                  refine SatL.nil (SatE.thenC ?_)
                  refine SatC.seq ?_
                  refine SatC.drawnS 18 (hS) (by kernel_rfl) ?_
                  clear hS
                  intro w2 _ hS hD
                  refine SatD.take 0 rfl [] (by kernel_rfl) (fun _ _ _ h => h) rfl rfl hD (fun _ hw => RunV.move rfl) ?_
                  refine SatD.take 1 rfl [] (by kernel_rfl) (fun _ _ _ h => h) rfl rfl hD (fun _ hw => RunV.move rfl) ?_
                  refine SatD.take 2 rfl [] (by kernel_rfl) (fun _ _ _ h => h) rfl rfl hD (fun _ hw => RunV.move rfl) ?_
                  refine SatD.take 3 rfl [] (by kernel_rfl) (fun _ _ _ h => h) rfl rfl hD (fun _ hw => RunV.sub rfl rfl (by first | exact wrapI64 (by omega) | rfl)) ?_
                  refine SatD.take 4 rfl [] (by kernel_rfl) (fun _ _ _ h => h) rfl rfl hD (fun _ hw => RunV.move rfl) ?_
                  refine SatD.take 5 rfl [] (by kernel_rfl) (fun _ _ _ h => h) rfl rfl hD (fun _ hw => RunV.move rfl) ?_
                  refine SatD.take 6 rfl [] (by kernel_rfl) (fun _ _ _ h => h) rfl rfl hD (fun _ hw => RunV.add rfl rfl (by first | exact wrapI64 (by omega) | rfl)) ?_
                  first | refine SatD.take 7 rfl [] (by kernel_rfl) (fun _ _ _ h => h) rfl rfl hD (fun _ hw => RunV.indexR (by assumption) rfl rfl rfl (by omega) (by omega) rfl) ?_ | refine SatD.take 7 rfl [] (by kernel_rfl) (fun _ _ _ h => h) rfl rfl hD (fun _ hw => RunV.indexS rfl rfl rfl (by omega) (by omega) rfl) ?_
                  refine SatD.take 8 rfl [] (by kernel_rfl) (fun _ _ _ h => h) rfl rfl hD (fun _ hw => RunV.load1 hw rfl rfl (by repeat constructor) (sc_at' (by omega) (by omega))) ?_
                  refine SatD.take 9 rfl [] (by kernel_rfl) (fun _ _ _ h => h) rfl rfl hD (fun _ hw => RunV.mul rfl rfl (by first | exact wrapI64 (by omega) | rfl)) ?_
                  refine SatD.take 10 rfl [] (by kernel_rfl) (fun _ _ _ h => h) rfl rfl hD (fun _ hw => RunV.move rfl) ?_
                  refine SatD.take 11 rfl [] (by kernel_rfl) (fun _ _ _ h => h) rfl rfl hD (fun _ hw => RunV.move rfl) ?_
                  refine SatD.take 12 rfl [] (by kernel_rfl) (fun _ _ _ h => h) rfl rfl hD (fun _ hw => RunV.add rfl rfl (by first | exact wrapI64 (by omega) | rfl)) ?_
                  first | refine SatD.take 13 rfl [] (by kernel_rfl) (fun _ _ _ h => h) rfl rfl hD (fun _ hw => RunV.indexR (by assumption) rfl rfl rfl (by omega) (by omega) rfl) ?_ | refine SatD.take 13 rfl [] (by kernel_rfl) (fun _ _ _ h => h) rfl rfl hD (fun _ hw => RunV.indexS rfl rfl rfl (by omega) (by omega) rfl) ?_
                  refine SatD.take 14 rfl [] (by kernel_rfl) (fun _ _ _ h => h) rfl rfl hD (fun _ hw => RunV.load1 hw rfl rfl (by repeat constructor) (sc_at' (by omega) (by omega))) ?_
                  refine SatD.take 15 rfl [] (by kernel_rfl) (fun _ _ _ h => h) rfl rfl hD (fun _ hw => RunV.quo rfl rfl (by first | decide | omega) (by first | exact wrapI64 (by omega) | rfl)) ?_
                  refine SatD.take 16 rfl [] (by kernel_rfl) (fun _ _ _ h => h) rfl rfl hD (fun _ hw => RunV.sub rfl rfl (by first | exact wrapI64 (by omega) | rfl)) ?_
                  refine SatD.take 17 rfl [] (by kernel_rfl) (fun _ _ _ h => h) rfl rfl hD (fun _ hw => RunV.assign rfl) ?_
                  refine SatD.done 0 (by kernel_rfl) (SatE.thenC ?_)
                  clear hD
                  refine SatC.ret ?_
                  refine SatE.ret1 rfl rfl ?_
                  first | exact ⟨by rw [wt, if_pos (by unfold okp; omega)], hS⟩ | exact ⟨by rw [wt, if_neg (fun e => e (by unfold okp; omega)), if_pos (by omega)], hS⟩ | exact ⟨by rw [hw], hS.sub (List.nil_sublist _)⟩
        · (try simp only [cx, ne_eq] at h4)
          try (exfalso; (first | omega | exact h4 trivial); done)
          all_goals
          refine SatL.guard_n rfl rfl rfl rfl ?_
          refine SatL.pu (RunV.pick_t rfl rfl) rfl ?_
          refine SatL.nil (SatE.thenC ?_)
          refine SatC.weak (e' := [(0, _), (1, _), (2, _), (3, _), (8, _), (29, _)]) (by repeat constructor) ?_
          refine SatC.cond_t rfl ?_
          refine SatC.seq ?_
          refine SatC.region ?_
          refine SatL.pu (RunV.assign rfl) rfl ?_
          refine SatL.nil (SatE.thenC ?_)
          refine SatC.ret (SatE.then_ret ?_)
          refine SatE.ret1 rfl rfl ?_
          first | exact ⟨by rw [wt, if_pos (by unfold okp; omega)], hS⟩ | exact ⟨by rw [wt, if_neg (fun e => e (by unfold okp; omega)), if_pos (by omega)], hS⟩ | exact ⟨by rw [hw], hS.sub (List.nil_sublist _)⟩
      · (try simp only [cx, ne_eq] at h3)
        try (exfalso; (first | omega | exact h3 trivial); done)
        all_goals
        refine SatL.guard_n rfl rfl rfl rfl ?_
        refine SatL.pu (RunV.pick_t rfl rfl) rfl ?_
        refine SatL.pu (RunV.move rfl) rfl ?_
        refine SatL.guard_n rfl rfl rfl rfl ?_
        refine SatL.guard_n rfl rfl rfl rfl ?_
        refine SatL.pu (RunV.pick_t rfl rfl) rfl ?_
        refine SatL.nil (SatE.thenC ?_)
        refine SatC.weak (e' := [(0, _), (1, _), (2, _), (3, _), (8, _), (29, _)]) (by repeat constructor) ?_
        refine SatC.cond_t rfl ?_
        refine SatC.seq ?_
        refine SatC.region ?_
        refine SatL.pu (RunV.assign rfl) rfl ?_
        refine SatL.nil (SatE.thenC ?_)
        refine SatC.ret (SatE.then_ret ?_)
        refine SatE.ret1 rfl rfl ?_
        first | exact ⟨by rw [wt, if_pos (by unfold okp; omega)], hS⟩ | exact ⟨by rw [wt, if_neg (fun e => e (by unfold okp; omega)), if_pos (by omega)], hS⟩ | exact ⟨by rw [hw], hS.sub (List.nil_sublist _)⟩
    · (try simp only [cx, ne_eq] at h2)
      try (exfalso; (first | omega | exact h2 trivial); done)
      all_goals
      refine SatL.guard_n rfl rfl rfl rfl ?_
      refine SatL.pu (RunV.pick_t rfl rfl) rfl ?_
      refine SatL.pu (RunV.move rfl) rfl ?_
      refine SatL.guard_n rfl rfl rfl rfl ?_
      refine SatL.guard_n rfl rfl rfl rfl ?_
      refine SatL.pu (RunV.pick_t rfl rfl) rfl ?_
      refine SatL.pu (RunV.move rfl) rfl ?_
      refine SatL.guard_n rfl rfl rfl rfl ?_
      refine SatL.guard_n rfl rfl rfl rfl ?_
      refine SatL.pu (RunV.pick_t rfl rfl) rfl ?_
      refine SatL.nil (SatE.thenC ?_)
      refine SatC.weak (e' := [(0, _), (1, _), (2, _), (3, _), (8, _), (29, _)]) (by repeat constructor) ?_
      refine SatC.cond_t rfl ?_
      refine SatC.seq ?_
      refine SatC.region ?_
      refine SatL.pu (RunV.assign rfl) rfl ?_
      refine SatL.nil (SatE.thenC ?_)
      refine SatC.ret (SatE.then_ret ?_)
      refine SatE.ret1 rfl rfl ?_
      first | exact ⟨by rw [wt, if_pos (by unfold okp; omega)], hS⟩ | exact ⟨by rw [wt, if_neg (fun e => e (by unfold okp; omega)), if_pos (by omega)], hS⟩ | exact ⟨by rw [hw], hS.sub (List.nil_sublist _)⟩
  · (try simp only [cx, ne_eq] at h1)
    try (exfalso; (first | omega | exact h1 trivial); done)
    all_goals
    refine SatL.guard_n rfl rfl rfl rfl ?_
    refine SatL.guard_n rfl rfl rfl rfl ?_
    refine SatL.pu (RunV.pick_t rfl rfl) rfl ?_
    refine SatL.pu (RunV.move rfl) rfl ?_
    refine SatL.guard_n rfl rfl rfl rfl ?_
    refine SatL.guard_n rfl rfl rfl rfl ?_
    refine SatL.pu (RunV.pick_t rfl rfl) rfl ?_
    refine SatL.pu (RunV.move rfl) rfl ?_
    refine SatL.guard_n rfl rfl rfl rfl ?_
    refine SatL.guard_n rfl rfl rfl rfl ?_
    refine SatL.pu (RunV.pick_t rfl rfl) rfl ?_
    refine SatL.pu (RunV.move rfl) rfl ?_
    refine SatL.guard_n rfl rfl rfl rfl ?_
    refine SatL.guard_n rfl rfl rfl rfl ?_
    refine SatL.pu (RunV.pick_t rfl rfl) rfl ?_
    refine SatL.nil (SatE.thenC ?_)
    refine SatC.weak (e' := [(0, _), (1, _), (2, _), (3, _), (8, _), (29, _)]) (by repeat constructor) ?_
    refine SatC.cond_t rfl ?_
    refine SatC.seq ?_
    refine SatC.region ?_
    refine SatL.pu (RunV.assign rfl) rfl ?_
    refine SatL.nil (SatE.thenC ?_)
    refine SatC.ret (SatE.then_ret ?_)
    refine SatE.ret1 rfl rfl ?_
    first | exact ⟨by rw [wt, if_pos (by unfold okp; omega)], hS⟩ | exact ⟨by rw [wt, if_neg (fun e => e (by unfold okp; omega)), if_pos (by omega)], hS⟩ | exact ⟨by rw [hw], hS.sub (List.nil_sublist _)⟩
theorem works_any (w : World) : Ret Try.prog 9 #[] w fun v w' => v = .bool true ∧ St w [] [] w' := by
  have hS := St.init0 w
  refine Ret.enter Try.func9 Try.ntmps9 rfl rfl ?_
  simp only [argEnv, Nat.reduceAdd]
  refine SatC.seq ?_
  refine SatC.region ?_
  refine SatL.pu (RunV.assign rfl) rfl ?_
  refine SatL.nil (SatE.thenC ?_)
  refine SatC.seq ?_
  refine SatC.region ?_
  refine SatL.op rfl (OpW.enter rfl rfl rfl rfl (wait_any _ _ _ _ _) ?_)
  rintro r1 w1 ⟨rfl, h⟩
  replace hS := St.callN hS h
  refine SatL.pu (RunV.eql rfl rfl) rfl ?_
  refine SatL.pu (RunV.assign rfl) rfl ?_
  refine SatL.nil (SatE.thenC ?_)
  refine SatC.ret ?_
  refine SatE.ret1 rfl rfl ?_
  exact ⟨rfl, hS⟩
end Go.Proofs.Ythkgcdkkdmogpaa
