/- The document's roll: a sorted list of records. -/
import Derived.Test.YtpbfjadkimojeaaLi
set_option linter.unusedSimpArgs false
set_option linter.unusedVariables false
set_option maxRecDepth 100000
set_option maxHeartbeats 8000000
namespace Go.Proofs.Ytpbfjadkimojeaa
open Go.RowKit
theorem right_ref (n i s : Int) (w : World) :
    Ret Try.prog 34 #[.agg #[.int .i64 n, .int .u32 i, .int .i64 s]] w fun v w' => v = .bool (decide (0 ≤ n ∧ n < 8 ∧ 0 ≤ s ∧ s ≤ 3)) ∧ St w [] [] w' := by
  have hS := St.init0 w
  refine Ret.enter Try.func34 Try.ntmps34 rfl rfl ?_
  simp only [argEnv, Nat.reduceAdd]
  refine SatC.seq ?_
  refine SatC.region ?_
  refine SatL.op rfl (OpW.box hS rfl rfl (by repeat constructor) ?_)
  clear hS
  intro b1 w1 _ hS
  refine SatL.pu (RunV.assign rfl) rfl ?_
  refine SatL.nil (SatE.thenC ?_)
  refine SatC.seq ?_
  refine SatC.region ?_
  first | refine SatL.pu (RunV.fieldAddrL rfl rfl rfl) rfl ?_ | refine SatL.pu (RunV.fieldAddr rfl rfl rfl) rfl ?_
  refine SatL.pu (RunV.load1 hS rfl rfl (by repeat constructor) rfl) rfl ?_
  refine SatL.pu (RunV.geq rfl rfl) rfl ?_
  refine SatL.pu (RunV.move rfl) rfl ?_
  refine SatL.guard rfl rfl rfl (fun h1 => ?_) (fun h1 => ?_)
  · (try simp only [cx, ne_eq] at h1)
    try (exfalso; (first | omega | exact h1 trivial | contradiction); done)
    all_goals
    first | refine SatL.pu (RunV.fieldAddrL rfl rfl rfl) rfl ?_ | refine SatL.pu (RunV.fieldAddr rfl rfl rfl) rfl ?_
    refine SatL.guard_y rfl rfl ?_
    refine SatL.pu (RunV.load1 hS rfl rfl (by repeat constructor) rfl) rfl ?_
    refine SatL.guard_y rfl rfl ?_
    refine SatL.pu (RunV.lss rfl rfl) rfl ?_
    refine SatL.pu (RunV.pick_t rfl rfl) rfl ?_
    refine SatL.pu (RunV.move rfl) rfl ?_
    refine SatL.guard rfl rfl rfl (fun h2 => ?_) (fun h2 => ?_)
    · (try simp only [cx, ne_eq] at h2)
      try (exfalso; (first | omega | exact h2 trivial | contradiction); done)
      all_goals
      first | refine SatL.pu (RunV.fieldAddrL rfl rfl rfl) rfl ?_ | refine SatL.pu (RunV.fieldAddr rfl rfl rfl) rfl ?_
      refine SatL.guard_y rfl rfl ?_
      refine SatL.pu (RunV.load1 hS rfl rfl (by repeat constructor) rfl) rfl ?_
      refine SatL.guard_y rfl rfl ?_
      refine SatL.pu (RunV.eql rfl rfl) rfl ?_
      refine SatL.guard_y rfl rfl ?_
      refine SatL.pu (RunV.move rfl) rfl ?_
      refine SatL.guard rfl rfl rfl (fun h3 => ?_) (fun h3 => ?_)
      · (try simp only [cx, ne_eq] at h3)
        try (exfalso; (first | omega | exact h3 trivial | contradiction); done)
        all_goals
        first | refine SatL.pu (RunV.fieldAddrL rfl rfl rfl) rfl ?_ | refine SatL.pu (RunV.fieldAddr rfl rfl rfl) rfl ?_
        refine SatL.guard_y rfl rfl ?_
        refine SatL.pu (RunV.load1 hS rfl rfl (by repeat constructor) rfl) rfl ?_
        refine SatL.guard_y rfl rfl ?_
        refine SatL.pu (RunV.eql rfl rfl) rfl ?_
        refine SatL.guard_y rfl rfl ?_
        refine SatL.pu (RunV.pick_f rfl rfl) rfl ?_
        refine SatL.guard_y rfl rfl ?_
        refine SatL.pu (RunV.move rfl) rfl ?_
        refine SatL.guard rfl rfl rfl (fun h4 => ?_) (fun h4 => ?_)
        · (try simp only [cx, ne_eq] at h4)
          try (exfalso; (first | omega | exact h4 trivial | contradiction); done)
          all_goals
          first | refine SatL.pu (RunV.fieldAddrL rfl rfl rfl) rfl ?_ | refine SatL.pu (RunV.fieldAddr rfl rfl rfl) rfl ?_
          refine SatL.guard_y rfl rfl ?_
          refine SatL.pu (RunV.load1 hS rfl rfl (by repeat constructor) rfl) rfl ?_
          refine SatL.guard_y rfl rfl ?_
          refine SatL.pu (RunV.eql rfl rfl) rfl ?_
          refine SatL.guard_y rfl rfl ?_
          refine SatL.pu (RunV.pick_f rfl rfl) rfl ?_
          refine SatL.guard_y rfl rfl ?_
          refine SatL.pu (RunV.move rfl) rfl ?_
          refine SatL.guard rfl rfl rfl (fun h5 => ?_) (fun h5 => ?_)
          · (try simp only [cx, ne_eq] at h5)
            try (exfalso; (first | omega | exact h5 trivial | contradiction); done)
            all_goals
            first | refine SatL.pu (RunV.fieldAddrL rfl rfl rfl) rfl ?_ | refine SatL.pu (RunV.fieldAddr rfl rfl rfl) rfl ?_
            refine SatL.guard_y rfl rfl ?_
            refine SatL.pu (RunV.load1 hS rfl rfl (by repeat constructor) rfl) rfl ?_
            refine SatL.guard_y rfl rfl ?_
            refine SatL.pu (RunV.eql rfl rfl) rfl ?_
            refine SatL.guard_y rfl rfl ?_
            refine SatL.pu (RunV.pick_f rfl rfl) rfl ?_
            refine SatL.pu (RunV.pick_t rfl rfl) rfl ?_
            refine SatL.pu (RunV.assign rfl) rfl ?_
            refine SatL.nil (SatE.thenC ?_)
            refine SatC.ret ?_
            refine SatE.ret1 rfl rfl ?_
            refine ⟨congrArg Value.bool ?_, hS.sub (List.nil_sublist _)⟩
            first | (rw [Bool.eq_iff_iff]; simp only [decide_eq_true_eq, decide_eq_false_iff_not, Bool.not_true, Bool.not_false, Bool.not_eq_true', Bool.not_eq_false', beq_iff_eq, beq_eq_false_iff_ne, bne_iff_ne, ne_eq, Int.not_lt, Int.not_le, Decidable.not_not, Bool.and_eq_true, Bool.or_eq_true, Bool.false_eq_true, false_iff, true_iff, iff_false, iff_true] <;> omega) | (simp_all; done) | (simp_all <;> omega)
          · (try simp only [cx, ne_eq] at h5)
            try (exfalso; (first | omega | exact h5 trivial | contradiction); done)
            all_goals
            refine SatL.guard_n rfl rfl rfl rfl ?_
            refine SatL.guard_n rfl rfl rfl rfl ?_
            refine SatL.guard_y rfl rfl ?_
            refine SatL.pu (RunV.pick_t rfl rfl) rfl ?_
            refine SatL.pu (RunV.pick_t rfl rfl) rfl ?_
            refine SatL.pu (RunV.assign rfl) rfl ?_
            refine SatL.nil (SatE.thenC ?_)
            refine SatC.ret ?_
            refine SatE.ret1 rfl rfl ?_
            refine ⟨congrArg Value.bool ?_, hS.sub (List.nil_sublist _)⟩
            first | (rw [Bool.eq_iff_iff]; simp only [decide_eq_true_eq, decide_eq_false_iff_not, Bool.not_true, Bool.not_false, Bool.not_eq_true', Bool.not_eq_false', beq_iff_eq, beq_eq_false_iff_ne, bne_iff_ne, ne_eq, Int.not_lt, Int.not_le, Decidable.not_not, Bool.and_eq_true, Bool.or_eq_true, Bool.false_eq_true, false_iff, true_iff, iff_false, iff_true] <;> omega) | (simp_all; done) | (simp_all <;> omega)
        · (try simp only [cx, ne_eq] at h4)
          try (exfalso; (first | omega | exact h4 trivial | contradiction); done)
          all_goals
          refine SatL.guard_n rfl rfl rfl rfl ?_
          refine SatL.guard_n rfl rfl rfl rfl ?_
          refine SatL.guard_y rfl rfl ?_
          refine SatL.pu (RunV.pick_t rfl rfl) rfl ?_
          refine SatL.guard_y rfl rfl ?_
          refine SatL.pu (RunV.move rfl) rfl ?_
          refine SatL.guard_n rfl rfl rfl rfl ?_
          refine SatL.guard_n rfl rfl rfl rfl ?_
          refine SatL.guard_n rfl rfl rfl rfl ?_
          refine SatL.guard_y rfl rfl ?_
          refine SatL.pu (RunV.pick_t rfl rfl) rfl ?_
          refine SatL.pu (RunV.pick_t rfl rfl) rfl ?_
          refine SatL.pu (RunV.assign rfl) rfl ?_
          refine SatL.nil (SatE.thenC ?_)
          refine SatC.ret ?_
          refine SatE.ret1 rfl rfl ?_
          refine ⟨congrArg Value.bool ?_, hS.sub (List.nil_sublist _)⟩
          first | (rw [Bool.eq_iff_iff]; simp only [decide_eq_true_eq, decide_eq_false_iff_not, Bool.not_true, Bool.not_false, Bool.not_eq_true', Bool.not_eq_false', beq_iff_eq, beq_eq_false_iff_ne, bne_iff_ne, ne_eq, Int.not_lt, Int.not_le, Decidable.not_not, Bool.and_eq_true, Bool.or_eq_true, Bool.false_eq_true, false_iff, true_iff, iff_false, iff_true] <;> omega) | (simp_all; done) | (simp_all <;> omega)
      · (try simp only [cx, ne_eq] at h3)
        try (exfalso; (first | omega | exact h3 trivial | contradiction); done)
        all_goals
        refine SatL.guard_n rfl rfl rfl rfl ?_
        refine SatL.guard_n rfl rfl rfl rfl ?_
        refine SatL.guard_y rfl rfl ?_
        refine SatL.pu (RunV.pick_t rfl rfl) rfl ?_
        refine SatL.guard_y rfl rfl ?_
        refine SatL.pu (RunV.move rfl) rfl ?_
        refine SatL.guard_n rfl rfl rfl rfl ?_
        refine SatL.guard_n rfl rfl rfl rfl ?_
        refine SatL.guard_n rfl rfl rfl rfl ?_
        refine SatL.guard_y rfl rfl ?_
        refine SatL.pu (RunV.pick_t rfl rfl) rfl ?_
        refine SatL.guard_y rfl rfl ?_
        refine SatL.pu (RunV.move rfl) rfl ?_
        refine SatL.guard_n rfl rfl rfl rfl ?_
        refine SatL.guard_n rfl rfl rfl rfl ?_
        refine SatL.guard_n rfl rfl rfl rfl ?_
        refine SatL.guard_y rfl rfl ?_
        refine SatL.pu (RunV.pick_t rfl rfl) rfl ?_
        refine SatL.pu (RunV.pick_t rfl rfl) rfl ?_
        refine SatL.pu (RunV.assign rfl) rfl ?_
        refine SatL.nil (SatE.thenC ?_)
        refine SatC.ret ?_
        refine SatE.ret1 rfl rfl ?_
        refine ⟨congrArg Value.bool ?_, hS.sub (List.nil_sublist _)⟩
        first | (rw [Bool.eq_iff_iff]; simp only [decide_eq_true_eq, decide_eq_false_iff_not, Bool.not_true, Bool.not_false, Bool.not_eq_true', Bool.not_eq_false', beq_iff_eq, beq_eq_false_iff_ne, bne_iff_ne, ne_eq, Int.not_lt, Int.not_le, Decidable.not_not, Bool.and_eq_true, Bool.or_eq_true, Bool.false_eq_true, false_iff, true_iff, iff_false, iff_true] <;> omega) | (simp_all; done) | (simp_all <;> omega)
    · (try simp only [cx, ne_eq] at h2)
      try (exfalso; (first | omega | exact h2 trivial | contradiction); done)
      all_goals
      refine SatL.guard_n rfl rfl rfl rfl ?_
      refine SatL.guard_n rfl rfl rfl rfl ?_
      refine SatL.guard_n rfl rfl rfl rfl ?_
      refine SatL.guard_u rfl rfl rfl ?_
      refine SatL.guard_u rfl rfl rfl ?_
      refine SatL.guard_u rfl rfl rfl ?_
      refine SatL.guard_n rfl rfl rfl rfl ?_
      refine SatL.guard_n rfl rfl rfl rfl ?_
      refine SatL.guard_u rfl rfl rfl ?_
      refine SatL.guard_u rfl rfl rfl ?_
      refine SatL.guard_u rfl rfl rfl ?_
      refine SatL.guard_n rfl rfl rfl rfl ?_
      refine SatL.guard_n rfl rfl rfl rfl ?_
      refine SatL.guard_u rfl rfl rfl ?_
      refine SatL.guard_u rfl rfl rfl ?_
      refine SatL.guard_u rfl rfl rfl ?_
      refine SatL.guard_n rfl rfl rfl rfl ?_
      refine SatL.pu (RunV.pick_f rfl rfl) rfl ?_
      refine SatL.pu (RunV.assign rfl) rfl ?_
      refine SatL.nil (SatE.thenC ?_)
      refine SatC.ret ?_
      refine SatE.ret1 rfl rfl ?_
      refine ⟨congrArg Value.bool ?_, hS.sub (List.nil_sublist _)⟩
      first | (rw [Bool.eq_iff_iff]; simp only [decide_eq_true_eq, decide_eq_false_iff_not, Bool.not_true, Bool.not_false, Bool.not_eq_true', Bool.not_eq_false', beq_iff_eq, beq_eq_false_iff_ne, bne_iff_ne, ne_eq, Int.not_lt, Int.not_le, Decidable.not_not, Bool.and_eq_true, Bool.or_eq_true, Bool.false_eq_true, false_iff, true_iff, iff_false, iff_true] <;> omega) | (simp_all; done) | (simp_all <;> omega)
  · (try simp only [cx, ne_eq] at h1)
    try (exfalso; (first | omega | exact h1 trivial | contradiction); done)
    all_goals
    refine SatL.guard_n rfl rfl rfl rfl ?_
    refine SatL.guard_n rfl rfl rfl rfl ?_
    refine SatL.pu (RunV.pick_f rfl rfl) rfl ?_
    refine SatL.pu (RunV.move rfl) rfl ?_
    refine SatL.guard_n rfl rfl rfl rfl ?_
    refine SatL.guard_n rfl rfl rfl rfl ?_
    refine SatL.guard_n rfl rfl rfl rfl ?_
    refine SatL.guard_n rfl rfl rfl rfl ?_
    refine SatL.guard_u rfl rfl rfl ?_
    refine SatL.guard_u rfl rfl rfl ?_
    refine SatL.guard_u rfl rfl rfl ?_
    refine SatL.guard_n rfl rfl rfl rfl ?_
    refine SatL.guard_n rfl rfl rfl rfl ?_
    refine SatL.guard_u rfl rfl rfl ?_
    refine SatL.guard_u rfl rfl rfl ?_
    refine SatL.guard_u rfl rfl rfl ?_
    refine SatL.guard_n rfl rfl rfl rfl ?_
    refine SatL.guard_n rfl rfl rfl rfl ?_
    refine SatL.guard_u rfl rfl rfl ?_
    refine SatL.guard_u rfl rfl rfl ?_
    refine SatL.guard_u rfl rfl rfl ?_
    refine SatL.guard_n rfl rfl rfl rfl ?_
    refine SatL.pu (RunV.pick_f rfl rfl) rfl ?_
    refine SatL.pu (RunV.assign rfl) rfl ?_
    refine SatL.nil (SatE.thenC ?_)
    refine SatC.ret ?_
    refine SatE.ret1 rfl rfl ?_
    refine ⟨congrArg Value.bool ?_, hS.sub (List.nil_sublist _)⟩
    first | (rw [Bool.eq_iff_iff]; simp only [decide_eq_true_eq, decide_eq_false_iff_not, Bool.not_true, Bool.not_false, Bool.not_eq_true', Bool.not_eq_false', beq_iff_eq, beq_eq_false_iff_ne, bne_iff_ne, ne_eq, Int.not_lt, Int.not_le, Decidable.not_not, Bool.and_eq_true, Bool.or_eq_true, Bool.false_eq_true, false_iff, true_iff, iff_false, iff_true] <;> omega) | (simp_all; done) | (simp_all <;> omega)
theorem above_ref (n i s n' i' s' : Int) (w : World) :
    Ret Try.prog 36 #[.agg #[.int .i64 n, .int .u32 i, .int .i64 s], .agg #[.int .i64 n', .int .u32 i', .int .i64 s']] w fun v w' => v = .bool (abv ⟨n, i, s⟩ ⟨n', i', s'⟩) ∧ St w [] [] w' := by
  have hS := St.init0 w
  refine Ret.enter Try.func36 Try.ntmps36 rfl rfl ?_
  simp only [argEnv, Nat.reduceAdd]
  refine SatC.seq ?_
  refine SatC.region ?_
  refine SatL.op rfl (OpW.box hS rfl rfl (by repeat constructor) ?_)
  clear hS
  intro b2 w1 _ hS
  refine SatL.op rfl (OpW.box hS rfl rfl (by repeat constructor) ?_)
  clear hS
  intro b3 w2 _ hS
  refine SatL.pu (RunV.assign rfl) rfl ?_
  refine SatL.nil (SatE.thenC ?_)
  refine SatC.seq ?_
  refine SatC.region ?_
  first | refine SatL.pu (RunV.fieldAddrL rfl rfl rfl) rfl ?_ | refine SatL.pu (RunV.fieldAddr rfl rfl rfl) rfl ?_
  refine SatL.pu (RunV.load1 hS rfl rfl (by repeat constructor) rfl) rfl ?_
  first | refine SatL.pu (RunV.fieldAddrL rfl rfl rfl) rfl ?_ | refine SatL.pu (RunV.fieldAddr rfl rfl rfl) rfl ?_
  refine SatL.pu (RunV.load1 hS rfl rfl (by repeat constructor) rfl) rfl ?_
  refine SatL.pu (RunV.eql rfl rfl) rfl ?_
  refine SatL.pu (RunV.move rfl) rfl ?_
  refine SatL.guard rfl rfl rfl (fun h1 => ?_) (fun h1 => ?_)
  · (try simp only [cx, ne_eq] at h1)
    try (exfalso; (first | omega | exact h1 trivial | contradiction); done)
    all_goals
    first | refine SatL.pu (RunV.fieldAddrL rfl rfl rfl) rfl ?_ | refine SatL.pu (RunV.fieldAddr rfl rfl rfl) rfl ?_
    refine SatL.guard_y rfl rfl ?_
    refine SatL.pu (RunV.load1 hS rfl rfl (by repeat constructor) rfl) rfl ?_
    refine SatL.guard_y rfl rfl ?_
    first | refine SatL.pu (RunV.fieldAddrL rfl rfl rfl) rfl ?_ | refine SatL.pu (RunV.fieldAddr rfl rfl rfl) rfl ?_
    refine SatL.guard_y rfl rfl ?_
    refine SatL.pu (RunV.load1 hS rfl rfl (by repeat constructor) rfl) rfl ?_
    refine SatL.guard_y rfl rfl ?_
    refine SatL.pu (RunV.gtr rfl rfl) rfl ?_
    refine SatL.guard_y rfl rfl ?_
    refine SatL.pu (RunV.move rfl) rfl ?_
    refine SatL.guard rfl rfl rfl (fun h2 => ?_) (fun h2 => ?_)
    · (try simp only [cx, ne_eq] at h2)
      try (exfalso; (first | omega | exact h2 trivial | contradiction); done)
      all_goals
      first | refine SatL.pu (RunV.fieldAddrL rfl rfl rfl) rfl ?_ | refine SatL.pu (RunV.fieldAddr rfl rfl rfl) rfl ?_
      refine SatL.guard_y rfl rfl ?_
      refine SatL.pu (RunV.load1 hS rfl rfl (by repeat constructor) rfl) rfl ?_
      refine SatL.guard_y rfl rfl ?_
      first | refine SatL.pu (RunV.fieldAddrL rfl rfl rfl) rfl ?_ | refine SatL.pu (RunV.fieldAddr rfl rfl rfl) rfl ?_
      refine SatL.guard_y rfl rfl ?_
      refine SatL.pu (RunV.load1 hS rfl rfl (by repeat constructor) rfl) rfl ?_
      refine SatL.guard_y rfl rfl ?_
      refine SatL.pu (RunV.eql rfl rfl) rfl ?_
      refine SatL.guard_y rfl rfl ?_
      refine SatL.pu (RunV.move rfl) rfl ?_
      refine SatL.guard rfl rfl rfl (fun h3 => ?_) (fun h3 => ?_)
      · (try simp only [cx, ne_eq] at h3)
        try (exfalso; (first | omega | exact h3 trivial | contradiction); done)
        all_goals
        first | refine SatL.pu (RunV.fieldAddrL rfl rfl rfl) rfl ?_ | refine SatL.pu (RunV.fieldAddr rfl rfl rfl) rfl ?_
        refine SatL.guard_y rfl rfl ?_
        refine SatL.pu (RunV.load1 hS rfl rfl (by repeat constructor) rfl) rfl ?_
        refine SatL.guard_y rfl rfl ?_
        first | refine SatL.pu (RunV.fieldAddrL rfl rfl rfl) rfl ?_ | refine SatL.pu (RunV.fieldAddr rfl rfl rfl) rfl ?_
        refine SatL.guard_y rfl rfl ?_
        refine SatL.pu (RunV.load1 hS rfl rfl (by repeat constructor) rfl) rfl ?_
        refine SatL.guard_y rfl rfl ?_
        refine SatL.pu (RunV.gtr rfl rfl) rfl ?_
        refine SatL.guard_y rfl rfl ?_
        refine SatL.pu (RunV.pick_t rfl rfl) rfl ?_
        refine SatL.guard_y rfl rfl ?_
        refine SatL.pu (RunV.pick_f rfl rfl) rfl ?_
        refine SatL.pu (RunV.pick_t rfl rfl) rfl ?_
        refine SatL.pu (RunV.assign rfl) rfl ?_
        refine SatL.nil (SatE.thenC ?_)
        refine SatC.ret ?_
        refine SatE.ret1 rfl rfl ?_
        refine ⟨congrArg Value.bool ?_, hS.sub (List.nil_sublist _)⟩
        simp only [abv]
        first | (rw [Bool.eq_iff_iff]; simp only [decide_eq_true_eq, decide_eq_false_iff_not, Bool.not_true, Bool.not_false, Bool.not_eq_true', Bool.not_eq_false', beq_iff_eq, beq_eq_false_iff_ne, bne_iff_ne, ne_eq, Int.not_lt, Int.not_le, Decidable.not_not, Bool.and_eq_true, Bool.or_eq_true, Bool.false_eq_true, false_iff, true_iff, iff_false, iff_true] <;> omega) | (simp_all; done) | (simp_all <;> omega)
      · (try simp only [cx, ne_eq] at h3)
        try (exfalso; (first | omega | exact h3 trivial | contradiction); done)
        all_goals
        refine SatL.guard_n rfl rfl rfl rfl ?_
        refine SatL.guard_n rfl rfl rfl rfl ?_
        refine SatL.guard_n rfl rfl rfl rfl ?_
        refine SatL.guard_n rfl rfl rfl rfl ?_
        refine SatL.guard_y rfl rfl ?_
        refine SatL.pu (RunV.pick_f rfl rfl) rfl ?_
        refine SatL.guard_y rfl rfl ?_
        refine SatL.pu (RunV.pick_f rfl rfl) rfl ?_
        refine SatL.pu (RunV.pick_t rfl rfl) rfl ?_
        refine SatL.pu (RunV.assign rfl) rfl ?_
        refine SatL.nil (SatE.thenC ?_)
        refine SatC.ret ?_
        refine SatE.ret1 rfl rfl ?_
        refine ⟨congrArg Value.bool ?_, hS.sub (List.nil_sublist _)⟩
        simp only [abv]
        first | (rw [Bool.eq_iff_iff]; simp only [decide_eq_true_eq, decide_eq_false_iff_not, Bool.not_true, Bool.not_false, Bool.not_eq_true', Bool.not_eq_false', beq_iff_eq, beq_eq_false_iff_ne, bne_iff_ne, ne_eq, Int.not_lt, Int.not_le, Decidable.not_not, Bool.and_eq_true, Bool.or_eq_true, Bool.false_eq_true, false_iff, true_iff, iff_false, iff_true] <;> omega) | (simp_all; done) | (simp_all <;> omega)
    · (try simp only [cx, ne_eq] at h2)
      try (exfalso; (first | omega | exact h2 trivial | contradiction); done)
      all_goals
      refine SatL.guard_n rfl rfl rfl rfl ?_
      refine SatL.guard_n rfl rfl rfl rfl ?_
      refine SatL.guard_n rfl rfl rfl rfl ?_
      refine SatL.guard_n rfl rfl rfl rfl ?_
      refine SatL.guard_n rfl rfl rfl rfl ?_
      refine SatL.guard_u rfl rfl rfl ?_
      refine SatL.guard_u rfl rfl rfl ?_
      refine SatL.guard_u rfl rfl rfl ?_
      refine SatL.guard_u rfl rfl rfl ?_
      refine SatL.guard_u rfl rfl rfl ?_
      refine SatL.guard_n rfl rfl rfl rfl ?_
      refine SatL.guard_y rfl rfl ?_
      refine SatL.pu (RunV.pick_t rfl rfl) rfl ?_
      refine SatL.pu (RunV.pick_t rfl rfl) rfl ?_
      refine SatL.pu (RunV.assign rfl) rfl ?_
      refine SatL.nil (SatE.thenC ?_)
      refine SatC.ret ?_
      refine SatE.ret1 rfl rfl ?_
      refine ⟨congrArg Value.bool ?_, hS.sub (List.nil_sublist _)⟩
      simp only [abv]
      first | (rw [Bool.eq_iff_iff]; simp only [decide_eq_true_eq, decide_eq_false_iff_not, Bool.not_true, Bool.not_false, Bool.not_eq_true', Bool.not_eq_false', beq_iff_eq, beq_eq_false_iff_ne, bne_iff_ne, ne_eq, Int.not_lt, Int.not_le, Decidable.not_not, Bool.and_eq_true, Bool.or_eq_true, Bool.false_eq_true, false_iff, true_iff, iff_false, iff_true] <;> omega) | (simp_all; done) | (simp_all <;> omega)
  · (try simp only [cx, ne_eq] at h1)
    try (exfalso; (first | omega | exact h1 trivial | contradiction); done)
    all_goals
    refine SatL.guard_n rfl rfl rfl rfl ?_
    refine SatL.guard_n rfl rfl rfl rfl ?_
    refine SatL.guard_n rfl rfl rfl rfl ?_
    refine SatL.guard_n rfl rfl rfl rfl ?_
    refine SatL.guard_n rfl rfl rfl rfl ?_
    refine SatL.guard_u rfl rfl rfl ?_
    refine SatL.guard_u rfl rfl rfl ?_
    refine SatL.guard_u rfl rfl rfl ?_
    refine SatL.guard_u rfl rfl rfl ?_
    refine SatL.guard_u rfl rfl rfl ?_
    refine SatL.guard_u rfl rfl rfl ?_
    refine SatL.guard_u rfl rfl rfl ?_
    refine SatL.guard_u rfl rfl rfl ?_
    refine SatL.guard_u rfl rfl rfl ?_
    refine SatL.guard_u rfl rfl rfl ?_
    refine SatL.guard_u rfl rfl rfl ?_
    refine SatL.guard_u rfl rfl rfl ?_
    refine SatL.guard_n rfl rfl rfl rfl ?_
    refine SatL.pu (RunV.pick_f rfl rfl) rfl ?_
    refine SatL.pu (RunV.assign rfl) rfl ?_
    refine SatL.nil (SatE.thenC ?_)
    refine SatC.ret ?_
    refine SatE.ret1 rfl rfl ?_
    refine ⟨congrArg Value.bool ?_, hS.sub (List.nil_sublist _)⟩
    simp only [abv]
    first | (rw [Bool.eq_iff_iff]; simp only [decide_eq_true_eq, decide_eq_false_iff_not, Bool.not_true, Bool.not_false, Bool.not_eq_true', Bool.not_eq_false', beq_iff_eq, beq_eq_false_iff_ne, bne_iff_ne, ne_eq, Int.not_lt, Int.not_le, Decidable.not_not, Bool.and_eq_true, Bool.or_eq_true, Bool.false_eq_true, false_iff, true_iff, iff_false, iff_true] <;> omega) | (simp_all; done) | (simp_all <;> omega)
theorem refute_ref (o n i s : Int) (w : World) (ho : 0 ≤ o ∧ o ≤ 4294967295) (hi : 0 ≤ i ∧ i ≤ 4294967295) :
    Ret Try.prog 37 #[.int .u32 o, .agg #[.int .i64 n, .int .u32 i, .int .i64 s]] w fun v w' => v = .tuple #[.int .u32 (inc o i).1, .int .i64 (inc o i).2] ∧ St w [] [] w' := by
  have hS := St.init0 w
  refine Ret.enter Try.func37 Try.ntmps37 rfl rfl ?_
  simp only [argEnv, Nat.reduceAdd]
  refine SatC.seq ?_
  refine SatC.region ?_
  refine SatL.op rfl (OpW.box hS rfl rfl (by repeat constructor) ?_)
  clear hS
  intro b3 w1 _ hS
  refine SatL.pu (RunV.assign rfl) rfl ?_
  refine SatL.pu (RunV.assign rfl) rfl ?_
  refine SatL.nil (SatE.thenC ?_)
  refine SatC.seq ?_
  refine SatC.region ?_
  refine SatL.pu (RunV.move rfl) rfl ?_
  refine SatL.pu (RunV.conv rfl rfl rfl (by first | exact wrapU64 (by omega) | rfl)) rfl ?_
  refine SatL.pu (RunV.assign rfl) rfl ?_
  refine SatL.nil (SatE.thenC ?_)
  refine SatC.seq ?_
  refine SatC.seq ?_
  refine SatC.region ?_
  first | refine SatL.pu (RunV.fieldAddrL rfl rfl rfl) rfl ?_ | refine SatL.pu (RunV.fieldAddr rfl rfl rfl) rfl ?_
  refine SatL.pu (RunV.load1 hS rfl rfl (by repeat constructor) rfl) rfl ?_
  refine SatL.pu (RunV.conv rfl rfl rfl (by first | exact wrapU64 (by omega) | rfl)) rfl ?_
  refine SatL.pu (RunV.move rfl) rfl ?_
  refine SatL.pu (RunV.gtr rfl rfl) rfl ?_
  refine SatL.nil (SatE.thenC ?_)
  refine SatC.cond rfl (fun h1 => ?_) (fun h1 => ?_)
  · (try simp only [cx, ne_eq] at h1)
    try (exfalso; (first | omega | exact h1 trivial | contradiction); done)
    all_goals
    refine SatC.region ?_
    first | refine SatL.pu (RunV.fieldAddrL rfl rfl rfl) rfl ?_ | refine SatL.pu (RunV.fieldAddr rfl rfl rfl) rfl ?_
    refine SatL.pu (RunV.load1 hS rfl rfl (by repeat constructor) rfl) rfl ?_
    refine SatL.pu (RunV.conv rfl rfl rfl (by first | exact wrapU64 (by omega) | rfl)) rfl ?_
    refine SatL.pu (RunV.assign rfl) rfl ?_
    refine SatL.nil (SatE.thenC ?_)
    refine SatC.seq ?_
    refine SatC.seq ?_
    refine SatC.weak (e' := [(4, _), (5, _), (6, _)]) (by repeat constructor) ?_
    refine SatC.region ?_
    refine SatL.pu (RunV.move rfl) rfl ?_
    refine SatL.pu (RunV.add rfl rfl (by first | exact wrapU64 (by omega) | rfl)) rfl ?_
    refine SatL.pu (RunV.gtr rfl rfl) rfl ?_
    refine SatL.nil (SatE.thenC ?_)
    refine SatC.cond rfl (fun h2 => ?_) (fun h2 => ?_)
    · (try simp only [cx, ne_eq] at h2)
      try (exfalso; (first | omega | exact h2 trivial | contradiction); done)
      all_goals
      refine SatC.seq ?_
      refine SatC.region ?_
      refine SatL.pu (RunV.assign rfl) rfl ?_
      refine SatL.pu (RunV.assign rfl) rfl ?_
      refine SatL.nil (SatE.thenC ?_)
      refine SatC.ret (SatE.then_ret ?_)
      refine SatE.ret2 rfl rfl rfl ?_
      refine ⟨?_, hS.sub (List.nil_sublist _)⟩
      first | rw [show inc o i = (0, 80) from if_pos (by omega)] | rw [show inc o i = (i + 1, 0) from (if_neg (by omega)).trans (by rw [Int.max_eq_right (by omega)])] | rw [show inc o i = (o + 1, 0) from (if_neg (by omega)).trans (by rw [Int.max_eq_left (by omega)])]
    · (try simp only [cx, ne_eq] at h2)
      try (exfalso; (first | omega | exact h2 trivial | contradiction); done)
      all_goals
      refine SatC.skip (SatE.thenC ?_)
      refine SatC.seq ?_
      refine SatC.region ?_
      refine SatL.pu (RunV.move rfl) rfl ?_
      refine SatL.pu (RunV.add rfl rfl (by first | exact wrapU64 (by omega) | rfl)) rfl ?_
      refine SatL.pu (RunV.conv rfl rfl rfl (by first | exact wrapU32 (by omega) | rfl)) rfl ?_
      refine SatL.pu (RunV.assign rfl) rfl ?_
      refine SatL.pu (RunV.assign rfl) rfl ?_
      refine SatL.nil (SatE.thenC ?_)
      refine SatC.ret ?_
      refine SatE.ret2 rfl rfl rfl ?_
      refine ⟨?_, hS.sub (List.nil_sublist _)⟩
      first | rw [show inc o i = (0, 80) from if_pos (by omega)] | rw [show inc o i = (i + 1, 0) from (if_neg (by omega)).trans (by rw [Int.max_eq_right (by omega)])] | rw [show inc o i = (o + 1, 0) from (if_neg (by omega)).trans (by rw [Int.max_eq_left (by omega)])]
  · (try simp only [cx, ne_eq] at h1)
    try (exfalso; (first | omega | exact h1 trivial | contradiction); done)
    all_goals
    refine SatC.skip (SatE.thenC ?_)
    refine SatC.seq ?_
    refine SatC.seq ?_
    refine SatC.region ?_
    refine SatL.pu (RunV.move rfl) rfl ?_
    refine SatL.pu (RunV.add rfl rfl (by first | exact wrapU64 (by omega) | rfl)) rfl ?_
    refine SatL.pu (RunV.gtr rfl rfl) rfl ?_
    refine SatL.nil (SatE.thenC ?_)
    refine SatC.weak (e' := [(4, _), (5, _), (6, _), (19, _)]) (by repeat constructor) ?_
    refine SatC.cond rfl (fun h2 => ?_) (fun h2 => ?_)
    · (try simp only [cx, ne_eq] at h2)
      try (exfalso; (first | omega | exact h2 trivial | contradiction); done)
      all_goals
      refine SatC.seq ?_
      refine SatC.region ?_
      refine SatL.pu (RunV.assign rfl) rfl ?_
      refine SatL.pu (RunV.assign rfl) rfl ?_
      refine SatL.nil (SatE.thenC ?_)
      refine SatC.ret (SatE.then_ret ?_)
      refine SatE.ret2 rfl rfl rfl ?_
      refine ⟨?_, hS.sub (List.nil_sublist _)⟩
      first | rw [show inc o i = (0, 80) from if_pos (by omega)] | rw [show inc o i = (i + 1, 0) from (if_neg (by omega)).trans (by rw [Int.max_eq_right (by omega)])] | rw [show inc o i = (o + 1, 0) from (if_neg (by omega)).trans (by rw [Int.max_eq_left (by omega)])]
    · (try simp only [cx, ne_eq] at h2)
      try (exfalso; (first | omega | exact h2 trivial | contradiction); done)
      all_goals
      refine SatC.skip (SatE.thenC ?_)
      refine SatC.seq ?_
      refine SatC.region ?_
      refine SatL.pu (RunV.move rfl) rfl ?_
      refine SatL.pu (RunV.add rfl rfl (by first | exact wrapU64 (by omega) | rfl)) rfl ?_
      refine SatL.pu (RunV.conv rfl rfl rfl (by first | exact wrapU32 (by omega) | rfl)) rfl ?_
      refine SatL.pu (RunV.assign rfl) rfl ?_
      refine SatL.pu (RunV.assign rfl) rfl ?_
      refine SatL.nil (SatE.thenC ?_)
      refine SatC.ret ?_
      refine SatE.ret2 rfl rfl rfl ?_
      refine ⟨?_, hS.sub (List.nil_sublist _)⟩
      first | rw [show inc o i = (0, 80) from if_pos (by omega)] | rw [show inc o i = (i + 1, 0) from (if_neg (by omega)).trans (by rw [Int.max_eq_right (by omega)])] | rw [show inc o i = (o + 1, 0) from (if_neg (by omega)).trans (by rw [Int.max_eq_left (by omega)])]
theorem find_ref (v : Value) (ys : List Upd) (n : Int) (w : World) (hr : RdRow w v 3 (ys.map ud)) :
    Ret Try.prog 22 #[v, .int .i64 n] w fun v' w' => v' = .tuple #[.agg (ud (find ys n).1).toArray, .bool (find ys n).2] ∧ St w [] [] w' := by
  have hS := St.init0 w
  obtain ⟨b, o, c, hv, hmax, hc, hlt⟩ := hr.open
  simp only [List.length_map] at hv hmax hlt
  refine Ret.enter Try.func22 Try.ntmps22 rfl rfl ?_
  simp only [argEnv, Nat.reduceAdd]
  refine SatC.seq ?_
  refine SatC.region ?_
  refine SatL.op rfl (OpW.alloc hS rfl rfl (by repeat constructor) ?_)
  clear hS
  intro b4 w1 _ hS
  refine SatL.pu (RunV.assign rfl) rfl ?_
  refine SatL.nil (SatE.thenC ?_)
  refine SatC.seq ?_
  refine SatC.seq ?_
  refine SatC.region ?_
  refine SatL.pu (RunV.assign rfl) rfl ?_
  refine SatL.nil (SatE.thenC ?_)
  refine SatC.block ?_
  refine SatC.loopK (G := Nat) (V := fun i => [(6, .int .i64 (i : Int))]) (Cn := [(0, _), (1, _), (4, _), (5, _)]) (I := fun i w' => i ≤ ys.length ∧ find (ys.drop i) n = find ys n ∧ St w [] [(b4, C 29 [.int .i64 0, .int .u32 0, .int .i64 0])] w') (μ := fun i => ys.length - i) 0 ?_ (by repeat constructor) ?_
  · exact ⟨Nat.zero_le _, rfl, hS⟩
  clear hS
  rintro i w2 ⟨hi, hf, hS⟩
  refine SatC.weak (e' := [(0, _), (1, _), (4, _), (5, _), (6, _)]) (by repeat constructor) ?_
  refine SatC.seq ?_
  refine SatC.seq ?_
  refine SatC.region ?_
  refine SatL.pu (RunV.move rfl) rfl ?_
  refine SatL.pu (RunV.move rfl) rfl ?_
  first | refine SatL.pu (RunV.lenR (by assumption) rfl rfl) rfl ?_ | refine SatL.pu (RunV.lenS rfl rfl) rfl ?_
  refine SatL.pu (RunV.lss rfl rfl) rfl ?_
  refine SatL.nil (SatE.thenC ?_)
  refine SatC.cond rfl (fun h1 => ?_) (fun h1 => ?_)
  · (try simp only [cx, ne_eq] at h1)
    try (exfalso; (first | omega | exact h1 trivial | contradiction); done)
    all_goals
    refine SatC.skip (SatE.thenC ?_)
    refine SatC.seq ?_
    refine SatC.block ?_
    refine SatC.seq ?_
    obtain ⟨y, hy⟩ := get_some ys i (by omega)
    have hst := find_step hy n
    refine SatC.region ?_
    refine SatL.pu (RunV.move rfl) rfl ?_
    refine SatL.pu (RunV.move rfl) rfl ?_
    first | refine SatL.pu (RunV.indexR (by assumption) rfl rfl rfl (by omega) (by omega) rfl) rfl ?_ | refine SatL.pu (RunV.indexS rfl rfl rfl (by omega) (by omega) rfl) rfl ?_
    first | refine SatL.pu (RunV.fieldAddrL rfl rfl rfl) rfl ?_ | refine SatL.pu (RunV.fieldAddr rfl rfl rfl) rfl ?_
    first | refine SatL.pu (RunV.loadR1f (RdC.st (by assumption) hS List.not_mem_nil) rfl rfl (by first | assumption | exact map_get (by assumption)) rfl) rfl ?_ | refine SatL.pu (RunV.loadR1f (Sl.rd (by assumption) hS (by repeat constructor)) rfl rfl (by first | assumption | exact map_get (by assumption)) rfl) rfl ?_
    refine SatL.pu (RunV.move rfl) rfl ?_
    refine SatL.pu (RunV.eql rfl rfl) rfl ?_
    refine SatL.nil (SatE.thenC ?_)
    refine SatC.cond rfl (fun h2 => ?_) (fun h2 => ?_)
    · (try simp only [cx, ne_eq] at h2)
      try (exfalso; (first | omega | exact h2 trivial | contradiction); done)
      all_goals
      refine SatC.seq ?_
      refine SatC.region ?_
      refine SatL.pu (RunV.move rfl) rfl ?_
      refine SatL.pu (RunV.move rfl) rfl ?_
      first | refine SatL.pu (RunV.indexR (by assumption) rfl rfl rfl (by omega) (by omega) rfl) rfl ?_ | refine SatL.pu (RunV.indexS rfl rfl rfl (by omega) (by omega) rfl) rfl ?_
      first | refine SatL.pu (RunV.loadRNz (RdC.st (by assumption) hS List.not_mem_nil) rfl rfl (by first | assumption | exact map_get (by assumption))) rfl ?_ | refine SatL.pu (RunV.loadRNz (Sl.rd (by assumption) hS (by repeat constructor)) rfl rfl (by first | assumption | exact map_get (by assumption))) rfl ?_
      refine SatL.op rfl (OpW.store hS rfl rfl (by repeat constructor) (by repeat constructor) (by repeat constructor) rfl rfl ?_)
      clear hS
      intro w3 hS
      refine SatL.pu (RunV.assign rfl) rfl ?_
      refine SatL.nil (SatE.thenC ?_)
      refine SatC.ret (SatE.blk_ret (SatE.then_ret (SatE.then_ret (SatE.blk_ret (SatE.then_ret ?_)))))
      refine SatE.retG2 hS rfl (.cellN rfl rfl (by repeat constructor) (by repeat constructor)) (.tmp rfl) ?_
      exact ⟨by rw [← hf, hst, if_pos (by assumption)], hS.sb (by repeat constructor)⟩
    · (try simp only [cx, ne_eq] at h2)
      try (exfalso; (first | omega | exact h2 trivial | contradiction); done)
      all_goals
      refine SatC.skip (SatE.blk_normal (SatE.thenC ?_))
      refine SatC.region ?_
      refine SatL.pu (RunV.move rfl) rfl ?_
      refine SatL.pu (RunV.add rfl rfl (by first | exact wrapI64 (by omega) | rfl)) rfl ?_
      refine SatL.pu (RunV.assign rfl) rfl ?_
      refine SatL.nil ?_
      refine SatE.again (i + 1) ?_ (by first | omega | (dsimp only; omega)) (by repeat constructor)
      exact ⟨by omega, by rw [← hf, hst, if_neg (by assumption)], hS.sb (by repeat constructor)⟩
  · (try simp only [cx, ne_eq] at h1)
    try (exfalso; (first | omega | exact h1 trivial | contradiction); done)
    all_goals
    refine SatC.exit (SatE.then_exit (SatE.then_exit (SatE.blk_exit (SatE.thenC ?_))))
    refine SatC.seq ?_
    refine SatC.region ?_
    refine SatL.pu (RunV.build rfl (by simp [go_sem]; try rfl)) rfl ?_
    refine SatL.op rfl (OpW.store hS rfl rfl (by repeat constructor) (by repeat constructor) (by repeat constructor) rfl rfl ?_)
    clear hS
    intro w3 hS
    refine SatL.pu (RunV.assign rfl) rfl ?_
    refine SatL.nil (SatE.thenC ?_)
    refine SatC.ret ?_
    refine SatE.retG2 hS rfl (.cellN rfl rfl (by repeat constructor) (by repeat constructor)) (.tmp rfl) ?_
    exact ⟨by rw [← hf, show i = ys.length by omega, List.drop_length]; rfl, hS.sb (by repeat constructor)⟩
theorem same_any (v1 v2 : Value) (ys zs : List Upd) (w : World) (hr1 : RdRow w v1 3 (ys.map ud)) (hr2 : RdRow w v2 3 (zs.map ud)) :
    Ret Try.prog 24 #[v1, v2] w fun v' w' => v' = .bool (decide (ys = zs)) ∧ St w [] [] w' := by
  have hS := St.init0 w
  obtain ⟨b1, o1, c1, hv1, hmax1, hc1, hlt1⟩ := hr1.open
  obtain ⟨b2, o2, c2, hv2, hmax2, hc2, hlt2⟩ := hr2.open
  simp only [List.length_map] at hv1 hmax1 hlt1 hv2 hmax2 hlt2
  refine Ret.enter Try.func24 Try.ntmps24 rfl rfl ?_
  simp only [argEnv, Nat.reduceAdd]
  refine SatC.seq ?_
  refine SatC.region ?_
  refine SatL.pu (RunV.assign rfl) rfl ?_
  refine SatL.nil (SatE.thenC ?_)
  refine SatC.seq ?_
  refine SatC.seq ?_
  refine SatC.region ?_
  refine SatL.pu (RunV.move rfl) rfl ?_
  first | refine SatL.pu (RunV.lenR (by assumption) rfl rfl) rfl ?_ | refine SatL.pu (RunV.lenS rfl rfl) rfl ?_
  refine SatL.pu (RunV.move rfl) rfl ?_
  first | refine SatL.pu (RunV.lenR (by assumption) rfl rfl) rfl ?_ | refine SatL.pu (RunV.lenS rfl rfl) rfl ?_
  refine SatL.pu (RunV.neq rfl rfl) rfl ?_
  refine SatL.nil (SatE.thenC ?_)
  refine SatC.cond rfl (fun h1 => ?_) (fun h1 => ?_)
  · (try simp only [cx, ne_eq] at h1)
    try (exfalso; (first | omega | exact h1 trivial | contradiction); done)
    all_goals
    refine SatC.seq ?_
    refine SatC.region ?_
    refine SatL.pu (RunV.assign rfl) rfl ?_
    refine SatL.nil (SatE.thenC ?_)
    refine SatC.ret (SatE.then_ret ?_)
    refine SatE.ret1 rfl rfl ?_
    refine ⟨congrArg Value.bool ?_, hS⟩
    rw [decide_eq_false (fun e => h1 (by rw [e]))]
  · (try simp only [cx, ne_eq] at h1)
    try (exfalso; (first | omega | exact h1 trivial | contradiction); done)
    all_goals
    refine SatC.skip (SatE.thenC ?_)
    refine SatC.seq ?_
    refine SatC.seq ?_
    refine SatC.region ?_
    refine SatL.pu (RunV.assign rfl) rfl ?_
    refine SatL.nil (SatE.thenC ?_)
    refine SatC.block ?_
    refine SatC.loopK (G := Nat) (V := fun i => [(5, .int .i64 (i : Int))]) (Cn := [(0, _), (1, _), (4, _)]) (I := fun i w' => i ≤ ys.length ∧ ys.take i = zs.take i ∧ St w [] [] w') (μ := fun i => ys.length - i) 0 ?_ (by repeat constructor) ?_
    · exact ⟨Nat.zero_le _, rfl, hS⟩
    clear hS
    rintro i w1 ⟨hi, hf, hS⟩
    refine SatC.weak (e' := [(0, _), (1, _), (4, _), (5, _)]) (by repeat constructor) ?_
    refine SatC.seq ?_
    refine SatC.seq ?_
    refine SatC.region ?_
    refine SatL.pu (RunV.move rfl) rfl ?_
    refine SatL.pu (RunV.move rfl) rfl ?_
    first | refine SatL.pu (RunV.lenR (by assumption) rfl rfl) rfl ?_ | refine SatL.pu (RunV.lenS rfl rfl) rfl ?_
    refine SatL.pu (RunV.lss rfl rfl) rfl ?_
    refine SatL.nil (SatE.thenC ?_)
    refine SatC.cond rfl (fun h2 => ?_) (fun h2 => ?_)
    · (try simp only [cx, ne_eq] at h2)
      try (exfalso; (first | omega | exact h2 trivial | contradiction); done)
      all_goals
      refine SatC.skip (SatE.thenC ?_)
      refine SatC.seq ?_
      refine SatC.block ?_
      refine SatC.seq ?_
      obtain ⟨y, hy⟩ := get_some ys i (by omega)
      obtain ⟨z, hz⟩ := get_some zs i (by omega)
      refine SatC.drawnT 9 hS (hS) (by kernel_rfl) ?_
      clear hS
      intro w2 hh hS hD
      refine SatD.tk 0 rfl hD (fun _ hw => RunV.move rfl) ?_
      refine SatD.tk 1 rfl hD (fun _ hw => RunV.move rfl) ?_
      first | refine SatD.tk 2 rfl hD (fun _ hw => RunV.indexR (by assumption) rfl rfl rfl (by omega) (by omega) rfl) ?_ | refine SatD.tk 2 rfl hD (fun _ hw => RunV.indexS rfl rfl rfl (by omega) (by omega) rfl) ?_
      first | refine SatD.tk 3 rfl hD (fun _ hw => RunV.loadRNz (RdC.st (by assumption) hw List.not_mem_nil) rfl rfl (by first | assumption | exact map_get (by assumption))) ?_ | refine SatD.tk 3 rfl hD (fun _ hw => RunV.loadRNz (Sl.rd (by assumption) hw (by repeat constructor)) rfl rfl (by first | assumption | exact map_get (by assumption))) ?_
      refine SatD.tk 4 rfl hD (fun _ hw => RunV.move rfl) ?_
      refine SatD.tk 5 rfl hD (fun _ hw => RunV.move rfl) ?_
      first | refine SatD.tk 6 rfl hD (fun _ hw => RunV.indexR (by assumption) rfl rfl rfl (by omega) (by omega) rfl) ?_ | refine SatD.tk 6 rfl hD (fun _ hw => RunV.indexS rfl rfl rfl (by omega) (by omega) rfl) ?_
      first | refine SatD.tk 7 rfl hD (fun _ hw => RunV.loadRNz (RdC.st (by assumption) hw List.not_mem_nil) rfl rfl (by first | assumption | exact map_get (by assumption))) ?_ | refine SatD.tk 7 rfl hD (fun _ hw => RunV.loadRNz (Sl.rd (by assumption) hw (by repeat constructor)) rfl rfl (by first | assumption | exact map_get (by assumption))) ?_
      refine SatD.tk 8 rfl hD (fun _ hw => RunV.bin rfl rfl (guard24 _ _ _ _ _ _ _ _ _ _) (run_neq24 _ _ _ _ _ _ _)) ?_
      refine SatD.done 0 (by kernel_rfl) (SatE.thenC ?_)
      clear hD
      refine SatC.weak (e' := [(0, _), (1, _), (4, _), (5, _), (25, _)]) (by repeat constructor) ?_
      refine SatC.cond rfl (fun h3 => ?_) (fun h3 => ?_)
      · (try simp only [cx, ne_eq] at h3)
        try (exfalso; (first | omega | exact h3 trivial | contradiction); done)
        all_goals
        refine SatC.seq ?_
        refine SatC.region ?_
        refine SatL.pu (RunV.assign rfl) rfl ?_
        refine SatL.nil (SatE.thenC ?_)
        refine SatC.ret (SatE.blk_ret (SatE.then_ret (SatE.then_ret (SatE.blk_ret (SatE.then_ret ?_)))))
        refine SatE.ret1 rfl rfl ?_
        refine ⟨congrArg Value.bool ?_, hS⟩
        rw [decide_eq_false]
        rintro rfl
        rw [hy] at hz
        obtain rfl := Option.some.inj hz
        exact h3 rfl
      · (try simp only [cx, ne_eq] at h3)
        try (exfalso; (first | omega | exact h3 trivial | contradiction); done)
        all_goals
        refine SatC.skip (SatE.blk_normal (SatE.thenC ?_))
        refine SatC.region ?_
        refine SatL.pu (RunV.move rfl) rfl ?_
        refine SatL.pu (RunV.add rfl rfl (by first | exact wrapI64 (by omega) | rfl)) rfl ?_
        refine SatL.pu (RunV.assign rfl) rfl ?_
        refine SatL.nil ?_
        refine SatE.again (i + 1) ?_ (by first | omega | (dsimp only; omega)) (by repeat constructor)
        obtain rfl : y = z := by
          obtain ⟨a, b, c⟩ := y
          obtain ⟨a', b', c'⟩ := z
          simpa using h3
        exact ⟨by omega, by rw [List.take_add_one, List.take_add_one, hy, hz, hf], hS⟩
    · (try simp only [cx, ne_eq] at h2)
      try (exfalso; (first | omega | exact h2 trivial | contradiction); done)
      all_goals
      refine SatC.exit (SatE.then_exit (SatE.then_exit (SatE.blk_exit (SatE.thenC ?_))))
      refine SatC.seq ?_
      refine SatC.region ?_
      refine SatL.pu (RunV.assign rfl) rfl ?_
      refine SatL.nil (SatE.thenC ?_)
      refine SatC.ret ?_
      refine SatE.ret1 rfl rfl ?_
      refine ⟨congrArg Value.bool ?_, hS⟩
      obtain rfl : i = ys.length := by omega
      rw [List.take_length, List.take_of_length_le (by omega)] at hf
      rw [decide_eq_true hf]
theorem ints_any (v1 v2 : Value) (ys zs : List Int) (w : World) (hr1 : RdRow w v1 1 (ys.map iR)) (hr2 : RdRow w v2 1 (zs.map iR)) :
    Ret Try.prog 25 #[v1, v2] w fun v' w' => v' = .bool (decide (ys = zs)) ∧ St w [] [] w' := by
  have hS := St.init0 w
  obtain ⟨b1, o1, c1, hv1, hmax1, hc1, hlt1⟩ := hr1.open
  obtain ⟨b2, o2, c2, hv2, hmax2, hc2, hlt2⟩ := hr2.open
  simp only [List.length_map] at hv1 hmax1 hlt1 hv2 hmax2 hlt2
  refine Ret.enter Try.func25 Try.ntmps25 rfl rfl ?_
  simp only [argEnv, Nat.reduceAdd]
  refine SatC.seq ?_
  refine SatC.region ?_
  refine SatL.pu (RunV.assign rfl) rfl ?_
  refine SatL.nil (SatE.thenC ?_)
  refine SatC.seq ?_
  refine SatC.seq ?_
  refine SatC.region ?_
  refine SatL.pu (RunV.move rfl) rfl ?_
  first | refine SatL.pu (RunV.lenR (by assumption) rfl rfl) rfl ?_ | refine SatL.pu (RunV.lenS rfl rfl) rfl ?_
  refine SatL.pu (RunV.move rfl) rfl ?_
  first | refine SatL.pu (RunV.lenR (by assumption) rfl rfl) rfl ?_ | refine SatL.pu (RunV.lenS rfl rfl) rfl ?_
  refine SatL.pu (RunV.neq rfl rfl) rfl ?_
  refine SatL.nil (SatE.thenC ?_)
  refine SatC.cond rfl (fun h1 => ?_) (fun h1 => ?_)
  · (try simp only [cx, ne_eq] at h1)
    try (exfalso; (first | omega | exact h1 trivial | contradiction); done)
    all_goals
    refine SatC.seq ?_
    refine SatC.region ?_
    refine SatL.pu (RunV.assign rfl) rfl ?_
    refine SatL.nil (SatE.thenC ?_)
    refine SatC.ret (SatE.then_ret ?_)
    refine SatE.ret1 rfl rfl ?_
    refine ⟨congrArg Value.bool ?_, hS⟩
    rw [decide_eq_false (fun e => h1 (by rw [e]))]
  · (try simp only [cx, ne_eq] at h1)
    try (exfalso; (first | omega | exact h1 trivial | contradiction); done)
    all_goals
    refine SatC.skip (SatE.thenC ?_)
    refine SatC.seq ?_
    refine SatC.seq ?_
    refine SatC.region ?_
    refine SatL.pu (RunV.assign rfl) rfl ?_
    refine SatL.nil (SatE.thenC ?_)
    refine SatC.block ?_
    refine SatC.loopK (G := Nat) (V := fun i => [(5, .int .i64 (i : Int))]) (Cn := [(0, _), (1, _), (4, _)]) (I := fun i w' => i ≤ ys.length ∧ ys.take i = zs.take i ∧ St w [] [] w') (μ := fun i => ys.length - i) 0 ?_ (by repeat constructor) ?_
    · exact ⟨Nat.zero_le _, rfl, hS⟩
    clear hS
    rintro i w1 ⟨hi, hf, hS⟩
    refine SatC.weak (e' := [(0, _), (1, _), (4, _), (5, _)]) (by repeat constructor) ?_
    refine SatC.seq ?_
    refine SatC.seq ?_
    refine SatC.region ?_
    refine SatL.pu (RunV.move rfl) rfl ?_
    refine SatL.pu (RunV.move rfl) rfl ?_
    first | refine SatL.pu (RunV.lenR (by assumption) rfl rfl) rfl ?_ | refine SatL.pu (RunV.lenS rfl rfl) rfl ?_
    refine SatL.pu (RunV.lss rfl rfl) rfl ?_
    refine SatL.nil (SatE.thenC ?_)
    refine SatC.cond rfl (fun h2 => ?_) (fun h2 => ?_)
    · (try simp only [cx, ne_eq] at h2)
      try (exfalso; (first | omega | exact h2 trivial | contradiction); done)
      all_goals
      refine SatC.skip (SatE.thenC ?_)
      refine SatC.seq ?_
      refine SatC.block ?_
      refine SatC.seq ?_
      obtain ⟨y, hy⟩ := get_some ys i (by omega)
      obtain ⟨z, hz⟩ := get_some zs i (by omega)
      refine SatC.drawnT 9 hS (hS) (by kernel_rfl) ?_
      clear hS
      intro w2 hh hS hD
      refine SatD.tk 0 rfl hD (fun _ hw => RunV.move rfl) ?_
      refine SatD.tk 1 rfl hD (fun _ hw => RunV.move rfl) ?_
      first | refine SatD.tk 2 rfl hD (fun _ hw => RunV.indexR (by assumption) rfl rfl rfl (by omega) (by omega) rfl) ?_ | refine SatD.tk 2 rfl hD (fun _ hw => RunV.indexS rfl rfl rfl (by omega) (by omega) rfl) ?_
      first | refine SatD.tk 3 rfl hD (fun _ hw => RunV.loadR1z (RdC.st (by assumption) hw List.not_mem_nil) rfl rfl (by first | assumption | exact map_get (by assumption)) rfl) ?_ | refine SatD.tk 3 rfl hD (fun _ hw => RunV.loadR1z (Sl.rd (by assumption) hw (by repeat constructor)) rfl rfl (by first | assumption | exact map_get (by assumption)) rfl) ?_
      refine SatD.tk 4 rfl hD (fun _ hw => RunV.move rfl) ?_
      refine SatD.tk 5 rfl hD (fun _ hw => RunV.move rfl) ?_
      first | refine SatD.tk 6 rfl hD (fun _ hw => RunV.indexR (by assumption) rfl rfl rfl (by omega) (by omega) rfl) ?_ | refine SatD.tk 6 rfl hD (fun _ hw => RunV.indexS rfl rfl rfl (by omega) (by omega) rfl) ?_
      first | refine SatD.tk 7 rfl hD (fun _ hw => RunV.loadR1z (RdC.st (by assumption) hw List.not_mem_nil) rfl rfl (by first | assumption | exact map_get (by assumption)) rfl) ?_ | refine SatD.tk 7 rfl hD (fun _ hw => RunV.loadR1z (Sl.rd (by assumption) hw (by repeat constructor)) rfl rfl (by first | assumption | exact map_get (by assumption)) rfl) ?_
      refine SatD.tk 8 rfl hD (fun _ hw => RunV.neq rfl rfl) ?_
      refine SatD.done 0 (by kernel_rfl) (SatE.thenC ?_)
      clear hD
      refine SatC.weak (e' := [(0, _), (1, _), (4, _), (5, _), (25, _)]) (by repeat constructor) ?_
      refine SatC.cond rfl (fun h3 => ?_) (fun h3 => ?_)
      · (try simp only [cx, ne_eq] at h3)
        try (exfalso; (first | omega | exact h3 trivial | contradiction); done)
        all_goals
        refine SatC.seq ?_
        refine SatC.region ?_
        refine SatL.pu (RunV.assign rfl) rfl ?_
        refine SatL.nil (SatE.thenC ?_)
        refine SatC.ret (SatE.blk_ret (SatE.then_ret (SatE.then_ret (SatE.blk_ret (SatE.then_ret ?_)))))
        refine SatE.ret1 rfl rfl ?_
        refine ⟨congrArg Value.bool ?_, hS⟩
        rw [decide_eq_false]
        rintro rfl
        rw [hy] at hz
        obtain rfl := Option.some.inj hz
        exact h3 rfl
      · (try simp only [cx, ne_eq] at h3)
        try (exfalso; (first | omega | exact h3 trivial | contradiction); done)
        all_goals
        refine SatC.skip (SatE.blk_normal (SatE.thenC ?_))
        refine SatC.region ?_
        refine SatL.pu (RunV.move rfl) rfl ?_
        refine SatL.pu (RunV.add rfl rfl (by first | exact wrapI64 (by omega) | rfl)) rfl ?_
        refine SatL.pu (RunV.assign rfl) rfl ?_
        refine SatL.nil ?_
        refine SatE.again (i + 1) ?_ (by first | omega | (dsimp only; omega)) (by repeat constructor)
        obtain rfl : y = z := by simpa using h3
        exact ⟨by omega, by rw [List.take_add_one, List.take_add_one, hy, hz, hf], hS⟩
    · (try simp only [cx, ne_eq] at h2)
      try (exfalso; (first | omega | exact h2 trivial | contradiction); done)
      all_goals
      refine SatC.exit (SatE.then_exit (SatE.then_exit (SatE.blk_exit (SatE.thenC ?_))))
      refine SatC.seq ?_
      refine SatC.region ?_
      refine SatL.pu (RunV.assign rfl) rfl ?_
      refine SatL.nil (SatE.thenC ?_)
      refine SatC.ret ?_
      refine SatE.ret1 rfl rfl ?_
      refine ⟨congrArg Value.bool ?_, hS⟩
      obtain rfl : i = ys.length := by omega
      rw [List.take_length, List.take_of_length_le (by omega)] at hf
      rw [decide_eq_true hf]
/-- The document's roll, as an object: its own node, and the list. -/
@[reducible] def rf (me : Int) (v : Value) : List Value := [.int .i64 me, v]
def putR (u : Upd) : Bool → List Upd → List Upd
  | laid, [] => if laid = true then [] else [u]
  | laid, x :: xs => if x.n = u.n then u :: putR u true xs else if laid = false ∧ u.n < x.n then u :: x :: putR u true xs else x :: putR u laid xs
theorem putR_eq {u x : Upd} {xs : List Upd} {laid : Bool} (h : x.n = u.n) : putR u laid (x :: xs) = u :: putR u true xs := if_pos h
theorem putR_gt {u x : Upd} {xs : List Upd} (h : ¬ x.n = u.n) (h2 : u.n < x.n) : putR u false (x :: xs) = u :: x :: putR u true xs := (if_neg h).trans (if_pos ⟨rfl, h2⟩)
theorem putR_lt {u x : Upd} {xs : List Upd} {laid : Bool} (h : ¬ x.n = u.n) (h2 : laid = true ∨ ¬ u.n < x.n) : putR u laid (x :: xs) = x :: putR u laid xs := (if_neg h).trans (if_neg (by rintro ⟨h3, h4⟩; rcases h2 with h2 | h2 <;> simp_all))
theorem put_ref {b : Nat} {me : Int} {v : Value} {l : List Upd} {B : List (Nat × Obj)} (u : Upd) (w : World) (hown : Own w ((b, C 54 (rf me v)) :: B)) (hsl : Sl 29 3 v (l.map ud) B) (hl : l.length ≤ 8) :
    Ret Try.prog 35 #[.pointer (some ⟨b, 0, none⟩), uv u] w fun r w' => ∃ v' B', Sl 29 3 v' ((putR u false l).map ud) B' ∧ St w (((b, C 54 (rf me v)) :: B).map Prod.fst) ((b, C 54 (rf me v')) :: B') w' := by
  have hS := St.init hown
  generalize hX : ((b, C 54 (rf me v)) :: B).map Prod.fst = X at hS ⊢
  obtain ⟨c0, hv0⟩ := hsl.slv
  simp only [List.length_map] at hv0
  refine Ret.enter Try.func35 Try.ntmps35 rfl rfl ?_
  simp only [argEnv, Nat.reduceAdd]
  refine SatC.seq ?_
  refine SatC.region ?_
  refine SatL.op rfl (OpW.box hS rfl rfl (by repeat constructor) ?_)
  clear hS
  intro b3 w1 _ hS
  refine SatL.nil (SatE.thenC ?_)
  refine SatC.seq ?_
  refine SatC.region ?_
  refine SatL.pu (RunV.assign rfl) rfl ?_
  refine SatL.nil (SatE.thenC ?_)
  refine SatC.seq ?_
  refine SatC.region ?_
  refine SatL.pu (RunV.assign rfl) rfl ?_
  refine SatL.nil (SatE.thenC ?_)
  refine SatC.seq ?_
  refine SatC.seq ?_
  refine SatC.region ?_
  refine SatL.pu (RunV.assign rfl) rfl ?_
  refine SatL.nil (SatE.thenC ?_)
  refine SatC.block ?_
  refine SatC.loopK (G := Nat × List Upd × Value × List (Nat × Obj) × Bool) (V := fun ⟨i, acc, va, Ba, laid⟩ => [(4, va), (5, .bool laid), (6, .int .i64 (i : Int))]) (Cn := [(0, _), (3, _)]) (I := fun ⟨i, acc, va, Ba, laid⟩ w' => i ≤ l.length ∧ Sl 29 3 va (acc.map ud) Ba ∧ acc ++ putR u laid (l.drop i) = putR u false l ∧ acc.length ≤ 2 * i ∧ St w X (Ba ++ ((b3, C 29 (ud u)) :: (b, C 54 (rf me v)) :: B)) w') (μ := fun ⟨i, acc, va, Ba, laid⟩ => l.length - i) (0, [], .slice none 0 0, [], false) ?_ (by repeat constructor) ?_
  · exact ⟨Nat.zero_le _, .nil, rfl, Nat.le_refl _, hS⟩
  clear hS
  rintro ⟨i, acc, va, Ba, laid⟩ w2 ⟨hi, hsa, hacc, hla, hS⟩
  refine SatC.weak (e' := [(0, _), (3, _), (4, _), (5, _), (6, _)]) (by repeat constructor) ?_
  refine SatC.seq ?_
  refine SatC.seq ?_
  refine SatC.region ?_
  refine SatL.pu (RunV.move rfl) rfl ?_
  refine SatL.pu (RunV.move rfl) rfl ?_
  first | refine SatL.pu (RunV.nil_ptr rfl) rfl ?_ | refine SatL.pu (RunV.nil_func rfl) rfl ?_ | refine SatL.pu (RunV.nil_yield rfl) rfl ?_
  first | refine SatL.pu (RunV.fieldAddrL rfl rfl rfl) rfl ?_ | refine SatL.pu (RunV.fieldAddr rfl rfl rfl) rfl ?_
  refine SatL.pu (RunV.load1 hS rfl rfl (by repeat constructor) rfl) rfl ?_
  refine SatL.pu (RunV.lenR hv0 rfl rfl) rfl ?_
  refine SatL.pu (RunV.lss rfl rfl) rfl ?_
  refine SatL.nil (SatE.thenC ?_)
  refine SatC.cond rfl (fun h1 => ?_) (fun h1 => ?_)
  · (try simp only [cx, ne_eq] at h1)
    try (exfalso; (first | omega | exact h1 trivial | contradiction); done)
    all_goals
    refine SatC.skip (SatE.thenC ?_)
    refine SatC.seq ?_
    refine SatC.block ?_
    refine SatC.seq ?_
    refine SatC.seq ?_
    obtain ⟨y, hy⟩ := get_some l i (by omega)
    rw [drop_get hy] at hacc
    refine SatC.drawnT 11 hS (hS) (by kernel_rfl) ?_
    clear hS
    intro w3 hh hS hD
    refine SatD.tk 0 rfl hD (fun _ hw => RunV.move rfl) ?_
    first | refine SatD.tk 1 rfl hD (fun _ hw => RunV.nil_ptr rfl) ?_ | refine SatD.tk 1 rfl hD (fun _ hw => RunV.nil_func rfl) ?_ | refine SatD.tk 1 rfl hD (fun _ hw => RunV.nil_yield rfl) ?_
    first | refine SatD.tk 2 rfl hD (fun _ hw => RunV.fieldAddrL rfl rfl rfl) ?_ | refine SatD.tk 2 rfl hD (fun _ hw => RunV.fieldAddr rfl rfl rfl) ?_
    refine SatD.tk 3 rfl hD (fun _ hw => RunV.load1 hw rfl rfl (by repeat constructor) rfl) ?_
    refine SatD.tk 4 rfl hD (fun _ hw => RunV.move rfl) ?_
    refine SatD.tk 5 rfl hD (fun _ hw => RunV.indexR hv0 rfl rfl rfl (by omega) (by omega) rfl) ?_
    first | refine SatD.tk 6 rfl hD (fun _ hw => RunV.fieldAddrL rfl rfl rfl) ?_ | refine SatD.tk 6 rfl hD (fun _ hw => RunV.fieldAddr rfl rfl rfl) ?_
    refine SatD.tk 7 rfl hD (fun _ hw => RunV.loadR1f (hsl.rd hw (by repeat constructor)) rfl rfl (map_get hy) rfl) ?_
    first | refine SatD.tk 8 rfl hD (fun _ hw => RunV.fieldAddrL rfl rfl rfl) ?_ | refine SatD.tk 8 rfl hD (fun _ hw => RunV.fieldAddr rfl rfl rfl) ?_
    refine SatD.tk 9 rfl hD (fun _ hw => RunV.load1 hw rfl rfl (by repeat constructor) rfl) ?_
    refine SatD.tk 10 rfl hD (fun _ hw => RunV.eql rfl rfl) ?_
    refine SatD.done 0 (by kernel_rfl) (SatE.thenC ?_)
    clear hD
    refine SatC.weak (e' := [(0, _), (3, _), (4, _), (5, _), (6, _), (26, _)]) (by repeat constructor) ?_
    refine SatC.cond rfl (fun h2 => ?_) (fun h2 => ?_)
    · (try simp only [cx, ne_eq] at h2)
      try (exfalso; (first | omega | exact h2 trivial | contradiction); done)
      all_goals
      refine SatC.seq ?_
      refine SatC.region ?_
      refine SatL.pu (RunV.move rfl) rfl ?_
      refine SatL.pu (RunV.loadN hS rfl rfl (by repeat constructor) (by repeat constructor)) rfl ?_
      refine SatL.op rfl (OpW.buildSlice1 hS rfl rfl rfl rfl rfl (by repeat constructor) rfl rfl rfl ?_)
      clear hS
      intro b29 w4 _ hS
      refine SatL.op rfl (OpW.append1 (by assumption) hS (by repeat constructor) rfl rfl (by repeat constructor) rfl rfl rfl rfl rfl rfl rfl rfl (by first | omega | (simp only [List.length_map]; omega) | (simp only [List.length_append, List.length_map, List.length_cons, List.length_nil]; omega)) rfl ?_)
      clear hS
      intro v30 B30 w5 hsl30 hS
      refine SatL.pu (RunV.assign rfl) rfl ?_
      refine SatL.nil (SatE.thenC ?_)
      refine SatC.seq ?_
      refine SatC.region ?_
      refine SatL.pu (RunV.assign rfl) rfl ?_
      refine SatL.nil (SatE.thenC ?_)
      refine SatC.exit (SatE.then_exit (SatE.blk_exit (SatE.thenC ?_)))
      refine SatC.region ?_
      refine SatL.pu (RunV.move rfl) rfl ?_
      refine SatL.pu (RunV.add rfl rfl (by first | exact wrapI64 (by omega) | rfl)) rfl ?_
      refine SatL.pu (RunV.assign rfl) rfl ?_
      refine SatL.nil ?_
      refine SatE.again ((i + 1, acc ++ [u], v30, B30, true)) ?_ (by first | omega | (dsimp only; omega)) (by repeat constructor)
      refine ⟨by omega, by rw [List.map_append]; exact hsl30, ?_, by simp only [List.length_append, List.length_cons, List.length_nil]; omega, hS.sel (by repeat constructor)⟩
      rw [putR_eq (by assumption)] at hacc; simpa using hacc
    · (try simp only [cx, ne_eq] at h2)
      try (exfalso; (first | omega | exact h2 trivial | contradiction); done)
      all_goals
      refine SatC.skip (SatE.thenC ?_)
      refine SatC.seq ?_
      refine SatC.seq ?_
      refine SatC.drawnT 15 hS (hS) (by kernel_rfl) ?_
      clear hS
      intro w4 hh hS hD
      refine SatD.tk 0 rfl hD (fun _ hw => RunV.move rfl) ?_
      refine SatD.tk 1 rfl hD (fun _ hw => RunV.not rfl) ?_
      refine SatD.tk 2 rfl hD (fun _ hw => RunV.move rfl) ?_
      refine SatD.ways 33 rfl (fun h3 => ?_) (fun h3 => ?_)
      · (try simp only [cx, ne_eq] at h3)
        try (exfalso; (first | omega | exact h3 trivial | contradiction); done)
        all_goals
        refine SatD.tk 3 rfl hD (fun _ hw => RunV.move rfl) ?_
        first | refine SatD.tk 4 rfl hD (fun _ hw => RunV.nil_ptr rfl) ?_ | refine SatD.tk 4 rfl hD (fun _ hw => RunV.nil_func rfl) ?_ | refine SatD.tk 4 rfl hD (fun _ hw => RunV.nil_yield rfl) ?_
        first | refine SatD.tk 5 rfl hD (fun _ hw => RunV.fieldAddrL rfl rfl rfl) ?_ | refine SatD.tk 5 rfl hD (fun _ hw => RunV.fieldAddr rfl rfl rfl) ?_
        refine SatD.tk 6 rfl hD (fun _ hw => RunV.load1 hw rfl rfl (by repeat constructor) rfl) ?_
        refine SatD.tk 7 rfl hD (fun _ hw => RunV.move rfl) ?_
        refine SatD.tk 8 rfl hD (fun _ hw => RunV.indexR hv0 rfl rfl rfl (by omega) (by omega) rfl) ?_
        first | refine SatD.tk 9 rfl hD (fun _ hw => RunV.fieldAddrL rfl rfl rfl) ?_ | refine SatD.tk 9 rfl hD (fun _ hw => RunV.fieldAddr rfl rfl rfl) ?_
        refine SatD.tk 10 rfl hD (fun _ hw => RunV.loadR1f (hsl.rd hw (by repeat constructor)) rfl rfl (map_get hy) rfl) ?_
        first | refine SatD.tk 11 rfl hD (fun _ hw => RunV.fieldAddrL rfl rfl rfl) ?_ | refine SatD.tk 11 rfl hD (fun _ hw => RunV.fieldAddr rfl rfl rfl) ?_
        refine SatD.tk 12 rfl hD (fun _ hw => RunV.load1 hw rfl rfl (by repeat constructor) rfl) ?_
        refine SatD.tk 13 rfl hD (fun _ hw => RunV.gtr rfl rfl) ?_
        refine SatD.tk 14 rfl hD (fun _ hw => RunV.pick_t rfl rfl) ?_
        refine SatD.done 0 (by kernel_rfl) (SatE.thenC ?_)
        clear hD
        refine SatC.weak (e' := [(0, _), (3, _), (4, _), (5, _), (6, _), (45, _)]) (by repeat constructor) ?_
        refine SatC.cond rfl (fun h4 => ?_) (fun h4 => ?_)
        · (try simp only [cx, ne_eq] at h4)
          try (exfalso; (first | omega | exact h4 trivial | contradiction); done)
          all_goals
          refine SatC.seq ?_
          refine SatC.region ?_
          refine SatL.pu (RunV.move rfl) rfl ?_
          refine SatL.pu (RunV.loadN hS rfl rfl (by repeat constructor) (by repeat constructor)) rfl ?_
          refine SatL.op rfl (OpW.buildSlice1 hS rfl rfl rfl rfl rfl (by repeat constructor) rfl rfl rfl ?_)
          clear hS
          intro b48 w5 _ hS
          refine SatL.op rfl (OpW.append1 (by assumption) hS (by repeat constructor) rfl rfl (by repeat constructor) rfl rfl rfl rfl rfl rfl rfl rfl (by first | omega | (simp only [List.length_map]; omega) | (simp only [List.length_append, List.length_map, List.length_cons, List.length_nil]; omega)) rfl ?_)
          clear hS
          intro v49 B49 w6 hsl49 hS
          refine SatL.pu (RunV.assign rfl) rfl ?_
          refine SatL.nil (SatE.thenC ?_)
          refine SatC.region ?_
          refine SatL.pu (RunV.assign rfl) rfl ?_
          refine SatL.nil (SatE.thenC ?_)
          refine SatC.region ?_
          refine SatL.pu (RunV.move rfl) rfl ?_
          refine SatL.pu (RunV.move rfl) rfl ?_
          first | refine SatL.pu (RunV.nil_ptr rfl) rfl ?_ | refine SatL.pu (RunV.nil_func rfl) rfl ?_ | refine SatL.pu (RunV.nil_yield rfl) rfl ?_
          first | refine SatL.pu (RunV.fieldAddrL rfl rfl rfl) rfl ?_ | refine SatL.pu (RunV.fieldAddr rfl rfl rfl) rfl ?_
          refine SatL.pu (RunV.load1 hS rfl rfl (by repeat constructor) rfl) rfl ?_
          refine SatL.pu (RunV.move rfl) rfl ?_
          refine SatL.pu (RunV.indexR hv0 rfl rfl rfl (by omega) (by omega) rfl) rfl ?_
          refine SatL.pu (RunV.loadRNz (hsl.rd hS (by repeat constructor)) rfl rfl (map_get hy)) rfl ?_
          refine SatL.op rfl (OpW.buildSlice1 hS rfl rfl rfl rfl rfl (by repeat constructor) rfl rfl rfl ?_)
          clear hS
          intro b58 w7 _ hS
          refine SatL.op rfl (OpW.append1 (by assumption) hS (by repeat constructor) rfl rfl (by repeat constructor) rfl rfl rfl rfl rfl rfl rfl rfl (by first | omega | (simp only [List.length_map]; omega) | (simp only [List.length_append, List.length_map, List.length_cons, List.length_nil]; omega)) rfl ?_)
          clear hS
          intro v59 B59 w8 hsl59 hS
          refine SatL.pu (RunV.assign rfl) rfl ?_
          refine SatL.nil (SatE.blk_normal (SatE.thenC ?_))
          refine SatC.weak (e' := [(0, _), (3, _), (4, _), (5, _), (6, _)]) (by repeat constructor) ?_
          refine SatC.region ?_
          refine SatL.pu (RunV.move rfl) rfl ?_
          refine SatL.pu (RunV.add rfl rfl (by first | exact wrapI64 (by omega) | rfl)) rfl ?_
          refine SatL.pu (RunV.assign rfl) rfl ?_
          refine SatL.nil ?_
          refine SatE.again ((i + 1, acc ++ [u] ++ [y], v59, B59, true)) ?_ (by first | omega | (dsimp only; omega)) (by repeat constructor)
          refine ⟨by omega, by rw [List.map_append, List.map_append]; exact hsl59, ?_, by simp only [List.length_append, List.length_cons, List.length_nil]; omega, hS.sel (by repeat constructor)⟩
          have el : laid = false := by simp_all
          subst el
          rw [putR_gt (by assumption) (by assumption)] at hacc; simpa using hacc
        · (try simp only [cx, ne_eq] at h4)
          try (exfalso; (first | omega | exact h4 trivial | contradiction); done)
          all_goals
          refine SatC.skip (SatE.thenC ?_)
          refine SatC.region ?_
          refine SatL.pu (RunV.move rfl) rfl ?_
          refine SatL.pu (RunV.move rfl) rfl ?_
          first | refine SatL.pu (RunV.nil_ptr rfl) rfl ?_ | refine SatL.pu (RunV.nil_func rfl) rfl ?_ | refine SatL.pu (RunV.nil_yield rfl) rfl ?_
          first | refine SatL.pu (RunV.fieldAddrL rfl rfl rfl) rfl ?_ | refine SatL.pu (RunV.fieldAddr rfl rfl rfl) rfl ?_
          refine SatL.pu (RunV.load1 hS rfl rfl (by repeat constructor) rfl) rfl ?_
          refine SatL.pu (RunV.move rfl) rfl ?_
          refine SatL.pu (RunV.indexR hv0 rfl rfl rfl (by omega) (by omega) rfl) rfl ?_
          refine SatL.pu (RunV.loadRNz (hsl.rd hS (by repeat constructor)) rfl rfl (map_get hy)) rfl ?_
          refine SatL.op rfl (OpW.buildSlice1 hS rfl rfl rfl rfl rfl (by repeat constructor) rfl rfl rfl ?_)
          clear hS
          intro b58 w5 _ hS
          refine SatL.op rfl (OpW.append1 (by assumption) hS (by repeat constructor) rfl rfl (by repeat constructor) rfl rfl rfl rfl rfl rfl rfl rfl (by first | omega | (simp only [List.length_map]; omega) | (simp only [List.length_append, List.length_map, List.length_cons, List.length_nil]; omega)) rfl ?_)
          clear hS
          intro v59 B59 w6 hsl59 hS
          refine SatL.pu (RunV.assign rfl) rfl ?_
          refine SatL.nil (SatE.blk_normal (SatE.thenC ?_))
          refine SatC.region ?_
          refine SatL.pu (RunV.move rfl) rfl ?_
          refine SatL.pu (RunV.add rfl rfl (by first | exact wrapI64 (by omega) | rfl)) rfl ?_
          refine SatL.pu (RunV.assign rfl) rfl ?_
          refine SatL.nil ?_
          refine SatE.again ((i + 1, acc ++ [y], v59, B59, laid)) ?_ (by first | omega | (dsimp only; omega)) (by repeat constructor)
          refine ⟨by omega, by rw [List.map_append]; exact hsl59, ?_, by simp only [List.length_append, List.length_cons, List.length_nil]; omega, hS.sel (by repeat constructor)⟩
          rw [putR_lt (by assumption) (by first | exact .inl (by assumption) | exact .inr (by assumption) | exact .inr (by omega))] at hacc; simpa using hacc
      · (try simp only [cx, ne_eq] at h3)
        try (exfalso; (first | omega | exact h3 trivial | contradiction); done)
        all_goals
        refine SatD.sk 3 rfl [] hD ?_
        refine SatD.sk 4 rfl [] hD ?_
        refine SatD.sk 5 rfl [] hD ?_
        refine SatD.sk 6 rfl [] hD ?_
        refine SatD.sk 7 rfl [] hD ?_
        refine SatD.sk 8 rfl [] hD ?_
        refine SatD.sk 9 rfl [] hD ?_
        refine SatD.sk 10 rfl [] hD ?_
        refine SatD.sk 11 rfl [] hD ?_
        refine SatD.sk 12 rfl [] hD ?_
        refine SatD.sk 13 rfl [] hD ?_
        refine SatD.tk 14 rfl hD (fun _ hw => RunV.pick_f rfl rfl) ?_
        refine SatD.done 0 (by kernel_rfl) (SatE.thenC ?_)
        clear hD
        refine SatC.weak (e' := [(0, _), (3, _), (4, _), (5, _), (6, _), (45, _)]) (by repeat constructor) ?_
        refine SatC.cond_f rfl ?_
        refine SatC.skip (SatE.thenC ?_)
        refine SatC.region ?_
        refine SatL.pu (RunV.move rfl) rfl ?_
        refine SatL.pu (RunV.move rfl) rfl ?_
        first | refine SatL.pu (RunV.nil_ptr rfl) rfl ?_ | refine SatL.pu (RunV.nil_func rfl) rfl ?_ | refine SatL.pu (RunV.nil_yield rfl) rfl ?_
        first | refine SatL.pu (RunV.fieldAddrL rfl rfl rfl) rfl ?_ | refine SatL.pu (RunV.fieldAddr rfl rfl rfl) rfl ?_
        refine SatL.pu (RunV.load1 hS rfl rfl (by repeat constructor) rfl) rfl ?_
        refine SatL.pu (RunV.move rfl) rfl ?_
        refine SatL.pu (RunV.indexR hv0 rfl rfl rfl (by omega) (by omega) rfl) rfl ?_
        refine SatL.pu (RunV.loadRNz (hsl.rd hS (by repeat constructor)) rfl rfl (map_get hy)) rfl ?_
        refine SatL.op rfl (OpW.buildSlice1 hS rfl rfl rfl rfl rfl (by repeat constructor) rfl rfl rfl ?_)
        clear hS
        intro b58 w5 _ hS
        refine SatL.op rfl (OpW.append1 (by assumption) hS (by repeat constructor) rfl rfl (by repeat constructor) rfl rfl rfl rfl rfl rfl rfl rfl (by first | omega | (simp only [List.length_map]; omega) | (simp only [List.length_append, List.length_map, List.length_cons, List.length_nil]; omega)) rfl ?_)
        clear hS
        intro v59 B59 w6 hsl59 hS
        refine SatL.pu (RunV.assign rfl) rfl ?_
        refine SatL.nil (SatE.blk_normal (SatE.thenC ?_))
        refine SatC.region ?_
        refine SatL.pu (RunV.move rfl) rfl ?_
        refine SatL.pu (RunV.add rfl rfl (by first | exact wrapI64 (by omega) | rfl)) rfl ?_
        refine SatL.pu (RunV.assign rfl) rfl ?_
        refine SatL.nil ?_
        refine SatE.again ((i + 1, acc ++ [y], v59, B59, laid)) ?_ (by first | omega | (dsimp only; omega)) (by repeat constructor)
        refine ⟨by omega, by rw [List.map_append]; exact hsl59, ?_, by simp only [List.length_append, List.length_cons, List.length_nil]; omega, hS.sel (by repeat constructor)⟩
        rw [putR_lt (by assumption) (by first | exact .inl (by assumption) | exact .inr (by assumption) | exact .inr (by omega))] at hacc; simpa using hacc
  · (try simp only [cx, ne_eq] at h1)
    try (exfalso; (first | omega | exact h1 trivial | contradiction); done)
    all_goals
    refine SatC.exit (SatE.then_exit (SatE.then_exit (SatE.blk_exit (SatE.thenC ?_))))
    refine SatC.seq ?_
    refine SatC.seq ?_
    refine SatC.region ?_
    refine SatL.pu (RunV.move rfl) rfl ?_
    refine SatL.pu (RunV.not rfl) rfl ?_
    refine SatL.nil (SatE.thenC ?_)
    refine SatC.cond rfl (fun h2 => ?_) (fun h2 => ?_)
    · (try simp only [cx, ne_eq] at h2)
      try (exfalso; (first | omega | exact h2 trivial | contradiction); done)
      all_goals
      refine SatC.region ?_
      refine SatL.pu (RunV.move rfl) rfl ?_
      refine SatL.pu (RunV.loadN hS rfl rfl (by repeat constructor) (by repeat constructor)) rfl ?_
      refine SatL.op rfl (OpW.buildSlice1 hS rfl rfl rfl rfl rfl (by repeat constructor) rfl rfl rfl ?_)
      clear hS
      intro b64 w3 _ hS
      refine SatL.op rfl (OpW.append1 (by assumption) hS (by repeat constructor) rfl rfl (by repeat constructor) rfl rfl rfl rfl rfl rfl rfl rfl (by first | omega | (simp only [List.length_map]; omega) | (simp only [List.length_append, List.length_map, List.length_cons, List.length_nil]; omega)) rfl ?_)
      clear hS
      intro v65 B65 w4 hsl65 hS
      refine SatL.pu (RunV.assign rfl) rfl ?_
      refine SatL.nil (SatE.thenC ?_)
      refine SatC.weak (e' := [(0, _), (4, _)]) (by repeat constructor) ?_
      refine SatC.region ?_
      refine SatL.pu (RunV.move rfl) rfl ?_
      refine SatL.pu (RunV.move rfl) rfl ?_
      first | refine SatL.pu (RunV.nil_ptr rfl) rfl ?_ | refine SatL.pu (RunV.nil_func rfl) rfl ?_ | refine SatL.pu (RunV.nil_yield rfl) rfl ?_
      first | refine SatL.pu (RunV.fieldAddrL rfl rfl rfl) rfl ?_ | refine SatL.pu (RunV.fieldAddr rfl rfl rfl) rfl ?_
      refine SatL.op rfl (OpW.storeSv hS rfl rfl (by assumption) (by repeat constructor) (by repeat constructor) rfl ?_)
      clear hS
      intro w5 hS
      refine SatL.nil ?_
      refine SatE.fin0 rfl ?_
      rw [List.drop_of_length_le (by omega)] at hacc
      first
      | (rw [show laid = true from by assumption] at hacc
         exact ⟨_, _, by rw [← hacc, show putR u true [] = [] from rfl, List.append_nil]; assumption, hS.sel (by repeat constructor)⟩)
      | (rw [show laid = false from by assumption] at hacc
         exact ⟨_, _, by rw [← hacc, show putR u false [] = [u] from rfl, List.map_append]; assumption, hS.sel (by repeat constructor)⟩)
    · (try simp only [cx, ne_eq] at h2)
      try (exfalso; (first | omega | exact h2 trivial | contradiction); done)
      all_goals
      refine SatC.skip (SatE.thenC ?_)
      refine SatC.weak (e' := [(0, _), (4, _)]) (by repeat constructor) ?_
      refine SatC.region ?_
      refine SatL.pu (RunV.move rfl) rfl ?_
      refine SatL.pu (RunV.move rfl) rfl ?_
      first | refine SatL.pu (RunV.nil_ptr rfl) rfl ?_ | refine SatL.pu (RunV.nil_func rfl) rfl ?_ | refine SatL.pu (RunV.nil_yield rfl) rfl ?_
      first | refine SatL.pu (RunV.fieldAddrL rfl rfl rfl) rfl ?_ | refine SatL.pu (RunV.fieldAddr rfl rfl rfl) rfl ?_
      refine SatL.op rfl (OpW.storeSv hS rfl rfl (by assumption) (by repeat constructor) (by repeat constructor) rfl ?_)
      clear hS
      intro w3 hS
      refine SatL.nil ?_
      refine SatE.fin0 rfl ?_
      rw [List.drop_of_length_le (by omega)] at hacc
      first
      | (rw [show laid = true from by assumption] at hacc
         exact ⟨_, _, by rw [← hacc, show putR u true [] = [] from rfl, List.append_nil]; assumption, hS.sel (by repeat constructor)⟩)
      | (rw [show laid = false from by assumption] at hacc
         exact ⟨_, _, by rw [← hacc, show putR u false [] = [u] from rfl, List.map_append]; assumption, hS.sel (by repeat constructor)⟩)
/-- What the document's roll does. -/
def applyR (me : Int) (l : List Upd) (u : Upd) : Chg × List Upd :=
  if ¬ (0 ≤ u.n ∧ u.n < 8 ∧ 0 ≤ u.s ∧ u.s ≤ 3) then (⟨0, z3, z3⟩, l)
  else if u.n = me then
    if (find l u.n).1.s = 3 ∨ ¬ abv u (find l u.n).1 = true then (⟨0, z3, z3⟩, l)
    else if ¬ (inc (find l u.n).1.i u.i).2 = 0 then (⟨4, (find l u.n).1, (find l u.n).1⟩, l)
    else (⟨3, (find l u.n).1, ⟨me, (inc (find l u.n).1.i u.i).1, 0⟩⟩, putR ⟨me, (inc (find l u.n).1.i u.i).1, 0⟩ false l)
  else if (find l u.n).2 = false then (⟨1, z3, u⟩, putR u false l)
  else if ¬ abv u (find l u.n).1 = true then (⟨0, z3, z3⟩, l)
  else (⟨2, (find l u.n).1, u⟩, putR u false l)
def leaveR (me : Int) (l : List Upd) : Upd × Bool × List Upd := if (find l me).1.s = 3 then ((find l me).1, false, l) else (⟨(find l me).1.n, (find l me).1.i, 3⟩, true, putR ⟨(find l me).1.n, (find l me).1.i, 3⟩ false l)
def lvR (pe : Bool) (me : Int) (l : List Upd) : List Int := (l.filter fun u => decide (u.s < 2 ∧ ¬ (pe = true ∧ u.n = me))).map (·.n)

section
variable {b : Nat} {me : Int} {v : Value} {l : List Upd} {B : List (Nat × Obj)} {w : World}
theorem self_ref (hown : Own w ((b, C 54 (rf me v)) :: B)) (hsl : Sl 29 3 v (l.map ud) B) (hl : l.length ≤ 8) :
    Ret Try.prog 23 #[.pointer (some ⟨b, 0, none⟩)] w fun r w' => r = uv (find l me).1 ∧ St w [] [] w' := by
  have hS := St.init hown
  have hln : (l.map ud).length ≤ 9223372036854775807 := by rw [List.length_map]; omega
  refine Ret.enter Try.func23 Try.ntmps23 rfl rfl ?_
  simp only [argEnv, Nat.reduceAdd]
  refine SatC.seq ?_
  refine SatC.region ?_
  refine SatL.op rfl (OpW.alloc hS rfl rfl (by repeat constructor) ?_)
  clear hS
  intro b2 w1 _ hS
  refine SatL.nil (SatE.thenC ?_)
  refine SatC.seq ?_
  refine SatC.drawnT 15 hS (hS) (by kernel_rfl) ?_
  clear hS
  intro w2 hh hS hD
  refine SatD.tk 0 rfl hD (fun _ hw => RunV.move rfl) ?_
  first | refine SatD.tk 1 rfl hD (fun _ hw => RunV.nil_ptr rfl) ?_ | refine SatD.tk 1 rfl hD (fun _ hw => RunV.nil_func rfl) ?_ | refine SatD.tk 1 rfl hD (fun _ hw => RunV.nil_yield rfl) ?_
  first | refine SatD.tk 2 rfl hD (fun _ hw => RunV.fieldAddrL rfl rfl rfl) ?_ | refine SatD.tk 2 rfl hD (fun _ hw => RunV.fieldAddr rfl rfl rfl) ?_
  refine SatD.tk 3 rfl hD (fun _ hw => RunV.load1 hw rfl rfl (by repeat constructor) rfl) ?_
  refine SatD.tk 4 rfl hD (fun _ hw => RunV.move rfl) ?_
  first | refine SatD.tk 5 rfl hD (fun _ hw => RunV.nil_ptr rfl) ?_ | refine SatD.tk 5 rfl hD (fun _ hw => RunV.nil_func rfl) ?_ | refine SatD.tk 5 rfl hD (fun _ hw => RunV.nil_yield rfl) ?_
  first | refine SatD.tk 6 rfl hD (fun _ hw => RunV.fieldAddrL rfl rfl rfl) ?_ | refine SatD.tk 6 rfl hD (fun _ hw => RunV.fieldAddr rfl rfl rfl) ?_
  refine SatD.tk 7 rfl hD (fun _ hw => RunV.load1 hw rfl rfl (by repeat constructor) rfl) ?_
  apply SatD.join1
  · intro hK
    refine SatD.effs [8, 12] (by kernel_rfl) ⟨⟨_, rfl, rfl, OpW.enter rfl rfl rfl (rfl) (find_ref v l me _ (hsl.row hS (by repeat constructor) hln)) ?_⟩, ⟨_, rfl, rfl, OpW.alloc hS rfl rfl (by repeat constructor) ?_⟩, trivial⟩
    · skip
      rintro r3 w3 ⟨rfl, h⟩
      replace hS := St.callN hS h
      refine keepS (hS.sb (by repeat constructor)) (fun hD => ?_)
      refine SatD.tk 9 rfl hD (fun _ hw => RunV.move rfl) ?_
      refine SatD.tk 10 rfl hD (fun _ hw => RunV.extract rfl rfl) ?_
      refine SatD.tk 11 rfl hD (fun _ hw => RunV.extract rfl rfl) ?_
      refine SatD.ef 12 rfl (OpW.alloc hS rfl rfl (by repeat constructor) ?_)
      intro b3 w4 _ hS
      refine keepS (hS.sb (by repeat constructor)) (fun hD => ?_)
      refine SatD.ef 13 rfl (OpW.store hS rfl rfl (by repeat constructor) (by repeat constructor) (by repeat constructor) rfl rfl ?_)
      intro w5 hS
      refine keepS (hS.sb (by repeat constructor)) (fun hD => ?_)
      refine SatD.tk 14 rfl hD (fun _ hw => RunV.assign rfl) ?_
      refine SatD.done 0 (by kernel_rfl) ?_
      refine SatE.weak (e' := [(2, _), (3, _)]) (by repeat constructor) ?_
      exact hK b3 w5 hS
    · skip
      intro b3 w3 _ hS
      refine keepS (hS.sb (by repeat constructor)) (fun hD => ?_)
      refine SatD.ef 8 rfl (OpW.enter rfl rfl rfl (rfl) (find_ref v l me _ (hsl.row hS (by repeat constructor) hln)) ?_)
      rintro r4 w4 ⟨rfl, h⟩
      replace hS := St.callN hS h
      refine keepS (hS.sb (by repeat constructor)) (fun hD => ?_)
      refine SatD.tk 9 rfl hD (fun _ hw => RunV.move rfl) ?_
      refine SatD.tk 10 rfl hD (fun _ hw => RunV.extract rfl rfl) ?_
      refine SatD.tk 11 rfl hD (fun _ hw => RunV.extract rfl rfl) ?_
      refine SatD.ef 13 rfl (OpW.store hS rfl rfl (by repeat constructor) (by repeat constructor) (by repeat constructor) rfl rfl ?_)
      intro w5 hS
      refine keepS (hS.sb (by repeat constructor)) (fun hD => ?_)
      refine SatD.tk 14 rfl hD (fun _ hw => RunV.assign rfl) ?_
      refine SatD.done 0 (by kernel_rfl) ?_
      refine SatE.weak (e' := [(2, _), (3, _)]) (by repeat constructor) ?_
      exact hK b3 w5 hS
  intro b3 w53 hS
  refine SatE.thenC ?_
  refine SatC.seq ?_
  refine SatC.region ?_
  refine SatL.pu (RunV.loadN hS rfl rfl (by repeat constructor) (by repeat constructor)) rfl ?_
  refine SatL.op rfl (OpW.store hS rfl rfl (by repeat constructor) (by repeat constructor) (by repeat constructor) rfl rfl ?_)
  clear hS
  intro w54 hS
  refine SatL.nil (SatE.thenC ?_)
  refine SatC.ret ?_
  refine SatE.retG1 hS rfl (.cellN rfl rfl (by repeat constructor) (by repeat constructor)) ?_
  exact ⟨rfl, St.ro hown (hS.sel (by repeat constructor)) .all⟩
theorem new_ref (me i : Int) (hi : 0 ≤ i ∧ i ≤ 4294967295) (w : World) : Ret Try.prog 19 #[.int .i64 me, .int .u32 i] w fun r w' => if 0 ≤ me ∧ me < 8 then ∃ b v B, r = .pointer (some ⟨b, 0, none⟩) ∧ Sl 29 3 v ([Upd.mk me i 0].map ud) B ∧ St w [] ((b, C 54 (rf me v)) :: B) w' else r = .pointer none ∧ St w [] [] w' := by
  have hS := St.init0 w
  refine Ret.enter Try.func19 Try.ntmps19 rfl rfl ?_
  simp only [argEnv, Nat.reduceAdd]
  refine SatC.seq ?_
  refine SatC.region ?_
  refine SatL.pu (RunV.assign rfl) rfl ?_
  refine SatL.nil (SatE.thenC ?_)
  refine SatC.seq ?_
  refine SatC.region ?_
  refine SatL.pu (RunV.move rfl) rfl ?_
  refine SatL.pu (RunV.move rfl) rfl ?_
  refine SatL.pu (RunV.build rfl (by simp [go_sem]; try rfl)) rfl ?_
  refine SatL.op rfl (OpW.alloc hS rfl rfl (by repeat constructor) ?_)
  clear hS
  intro b5 w1 _ hS
  refine SatL.op rfl (OpW.store hS rfl rfl (by repeat constructor) (by repeat constructor) (by repeat constructor) rfl rfl ?_)
  clear hS
  intro w2 hS
  refine SatL.nil (SatE.thenC ?_)
  refine SatC.seq ?_
  refine SatC.seq ?_
  refine SatC.region ?_
  refine SatL.pu (RunV.loadN hS rfl rfl (by repeat constructor) (by repeat constructor)) rfl ?_
  refine SatL.op rfl (OpW.enter rfl rfl rfl (rfl) (right_ref _ _ _ _) ?_)
  rintro r3 w3 ⟨rfl, h⟩
  replace hS := St.callN hS h
  refine SatL.pu (RunV.not rfl) rfl ?_
  refine SatL.nil (SatE.thenC ?_)
  refine SatC.cond rfl (fun h1 => ?_) (fun h1 => ?_)
  · (try simp only [cx, ne_eq] at h1)
    try (exfalso; (first | omega | exact h1 trivial | contradiction); done)
    all_goals
    refine SatC.seq ?_
    refine SatC.region ?_
    refine SatL.pu (RunV.assign rfl) rfl ?_
    refine SatL.nil (SatE.thenC ?_)
    refine SatC.ret (SatE.then_ret ?_)
    refine SatE.ret1 rfl rfl ?_
    first
    | (rw [if_neg (by omega)]; exact ⟨rfl, hS.sel (by repeat constructor)⟩)
    | (rw [if_pos (by omega)]
       exact ⟨_, _, _, rfl, Sl.own (cap := 1) (rows := [[.int .i64 me, .int .u32 i, .int .i64 0]]) (by simp) rfl (by simp) (by simp [maxLen]) rfl, hS.sel (by repeat constructor)⟩)
  · (try simp only [cx, ne_eq] at h1)
    try (exfalso; (first | omega | exact h1 trivial | contradiction); done)
    all_goals
    refine SatC.skip (SatE.thenC ?_)
    refine SatC.seq ?_
    refine SatC.region ?_
    refine SatL.pu (RunV.move rfl) rfl ?_
    refine SatL.pu (RunV.loadN hS rfl rfl (by repeat constructor) (by repeat constructor)) rfl ?_
    refine SatL.op rfl (OpW.buildSlice1 hS rfl rfl rfl rfl rfl (by repeat constructor) rfl rfl rfl ?_)
    clear hS
    intro b14 w4 _ hS
    refine SatL.pu (RunV.build rfl (by simp [go_sem]; try rfl)) rfl ?_
    refine SatL.op rfl (OpW.box hS rfl rfl (by repeat constructor) ?_)
    clear hS
    intro b16 w5 _ hS
    refine SatL.pu (RunV.assign rfl) rfl ?_
    refine SatL.nil (SatE.thenC ?_)
    refine SatC.ret ?_
    refine SatE.ret1 rfl rfl ?_
    first
    | (rw [if_neg (by omega)]; exact ⟨rfl, hS.sel (by repeat constructor)⟩)
    | (rw [if_pos (by omega)]
       exact ⟨_, _, _, rfl, Sl.own (cap := 1) (rows := [[.int .i64 me, .int .u32 i, .int .i64 0]]) (by simp) rfl (by simp) (by simp [maxLen]) rfl, hS.sel (by repeat constructor)⟩)
theorem apply_ref (u : Upd) (hown : Own w ((b, C 54 (rf me v)) :: B)) (hsl : Sl 29 3 v (l.map ud) B) (hl : l.length ≤ 8) (hu : 0 ≤ u.i ∧ u.i ≤ 4294967295) (hb : ∀ x ∈ l, 0 ≤ x.i ∧ x.i ≤ 4294967295) :
    Ret Try.prog 21 #[.pointer (some ⟨b, 0, none⟩), uv u] w fun r w' => r = .tuple #[.int .i64 (applyR me l u).1.k, uv (applyR me l u).1.a, uv (applyR me l u).1.b] ∧ ∃ v' B', Sl 29 3 v' ((applyR me l u).2.map ud) B' ∧ St w (((b, C 54 (rf me v)) :: B).map Prod.fst) ((b, C 54 (rf me v')) :: B') w' := by
  have hS := St.init hown
  have hln : (l.map ud).length ≤ 9223372036854775807 := by rw [List.length_map]; omega
  have hfi : 0 ≤ (find l u.n).1.i ∧ (find l u.n).1.i ≤ 4294967295 := by
    unfold find
    cases e : l.find? (fun x => decide (x.n = u.n)) with
    | none => exact ⟨Int.le_refl 0, by decide⟩
    | some x => exact hb x (List.mem_of_find?_eq_some e)
  generalize hX : ((b, C 54 (rf me v)) :: B).map Prod.fst = X at hS ⊢
  refine Ret.enter Try.func21 Try.ntmps21 rfl rfl ?_
  simp only [argEnv, Nat.reduceAdd]
  generalize hA : applyR me l u = A
  unfold applyR at hA
  generalize hf : find l u.n = F at hfi hA
  refine SatC.seq ?_
  refine SatC.region ?_
  refine SatL.op rfl (OpW.box hS rfl rfl (by repeat constructor) ?_)
  clear hS
  intro b3 w1 _ hS
  refine SatL.pu (RunV.assign rfl) rfl ?_
  refine SatL.op rfl (OpW.alloc hS rfl rfl (by repeat constructor) ?_)
  clear hS
  intro b5 w2 _ hS
  refine SatL.op rfl (OpW.alloc hS rfl rfl (by repeat constructor) ?_)
  clear hS
  intro b6 w3 _ hS
  refine SatL.nil (SatE.thenC ?_)
  refine SatC.seq ?_
  refine SatC.seq ?_
  refine SatC.region ?_
  refine SatL.pu (RunV.loadN hS rfl rfl (by repeat constructor) (by repeat constructor)) rfl ?_
  refine SatL.op rfl (OpW.enter rfl rfl rfl (rfl) (right_ref _ _ _ _) ?_)
  rintro r4 w4 ⟨rfl, h⟩
  replace hS := St.callN hS h
  refine SatL.pu (RunV.not rfl) rfl ?_
  refine SatL.nil (SatE.thenC ?_)
  refine SatC.cond rfl (fun h1 => ?_) (fun h1 => ?_)
  · (try simp only [cx, ne_eq] at h1)
    try (exfalso; (first | omega | exact h1 trivial | contradiction); done)
    all_goals
    refine SatC.seq ?_
    refine SatC.region ?_
    refine SatL.pu (RunV.build rfl (by simp [go_sem]; try rfl)) rfl ?_
    refine SatL.pu (RunV.build rfl (by simp [go_sem]; try rfl)) rfl ?_
    refine SatL.pu (RunV.assign rfl) rfl ?_
    refine SatL.op rfl (OpW.store hS rfl rfl (by repeat constructor) (by repeat constructor) (by repeat constructor) rfl rfl ?_)
    clear hS
    intro w5 hS
    refine SatL.op rfl (OpW.store hS rfl rfl (by repeat constructor) (by repeat constructor) (by repeat constructor) rfl rfl ?_)
    clear hS
    intro w6 hS
    refine SatL.nil (SatE.thenC ?_)
    refine SatC.ret (SatE.then_ret ?_)
    refine SatE.retG3 hS rfl (.tmp rfl) (.cellN rfl rfl (by repeat constructor) (by repeat constructor)) (.cellN rfl rfl (by repeat constructor) (by repeat constructor)) ?_
    rw [if_pos h1] at hA
    subst hA
    exact ⟨rfl, v, B, hsl, hS.sel (by repeat constructor)⟩
  · (try simp only [cx, ne_eq] at h1)
    try (exfalso; (first | omega | exact h1 trivial | contradiction); done)
    all_goals
    refine SatC.skip (SatE.thenC ?_)
    refine SatC.seq ?_
    refine SatC.drawnT 13 hS (hS) (by kernel_rfl) ?_
    clear hS
    intro w5 hh hS hD
    refine SatD.tk 0 rfl hD (fun _ hw => RunV.move rfl) ?_
    first | refine SatD.tk 1 rfl hD (fun _ hw => RunV.nil_ptr rfl) ?_ | refine SatD.tk 1 rfl hD (fun _ hw => RunV.nil_func rfl) ?_ | refine SatD.tk 1 rfl hD (fun _ hw => RunV.nil_yield rfl) ?_
    first | refine SatD.tk 2 rfl hD (fun _ hw => RunV.fieldAddrL rfl rfl rfl) ?_ | refine SatD.tk 2 rfl hD (fun _ hw => RunV.fieldAddr rfl rfl rfl) ?_
    refine SatD.tk 3 rfl hD (fun _ hw => RunV.load1 hw rfl rfl (by repeat constructor) rfl) ?_
    first | refine SatD.tk 4 rfl hD (fun _ hw => RunV.fieldAddrL rfl rfl rfl) ?_ | refine SatD.tk 4 rfl hD (fun _ hw => RunV.fieldAddr rfl rfl rfl) ?_
    refine SatD.tk 5 rfl hD (fun _ hw => RunV.load1 hw rfl rfl (by repeat constructor) rfl) ?_
    apply SatD.join1
    · intro hK
      refine SatD.effs [6, 10] (by kernel_rfl) ⟨⟨_, rfl, rfl, OpW.enter rfl rfl rfl (rfl) (find_ref v l u.n _ (hsl.row hS (by repeat constructor) hln)) ?_⟩, ⟨_, rfl, rfl, OpW.alloc hS rfl rfl (by repeat constructor) ?_⟩, trivial⟩
      · skip
        rintro r6 w6 ⟨rfl, h⟩
        replace hS := St.callN hS h
        rw [hf]
        refine keepS (hS.sel (by repeat constructor)) (fun hD => ?_)
        refine SatD.tk 7 rfl hD (fun _ hw => RunV.move rfl) ?_
        refine SatD.tk 8 rfl hD (fun _ hw => RunV.extract rfl rfl) ?_
        refine SatD.tk 9 rfl hD (fun _ hw => RunV.extract rfl rfl) ?_
        refine SatD.ef 10 rfl (OpW.alloc hS rfl rfl (by repeat constructor) ?_)
        intro b7 w7 _ hS
        refine keepS (hS.sel (by repeat constructor)) (fun hD => ?_)
        refine SatD.ef 11 rfl (OpW.store hS rfl rfl (by repeat constructor) (by repeat constructor) (by repeat constructor) rfl rfl ?_)
        intro w8 hS
        refine keepS (hS.sel (by repeat constructor)) (fun hD => ?_)
        refine SatD.tk 12 rfl hD (fun _ hw => RunV.assign rfl) ?_
        refine SatD.done 0 (by kernel_rfl) ?_
        refine SatE.weak (e' := [(0, _), (3, _), (4, _), (5, _), (6, _), (7, _), (8, _)]) (by repeat constructor) ?_
        exact hK b7 w8 hS
      · skip
        intro b7 w6 _ hS
        refine keepS (hS.sel (by repeat constructor)) (fun hD => ?_)
        refine SatD.ef 6 rfl (OpW.enter rfl rfl rfl (rfl) (find_ref v l u.n _ (hsl.row hS (by repeat constructor) hln)) ?_)
        rintro r7 w7 ⟨rfl, h⟩
        replace hS := St.callN hS h
        rw [hf]
        refine keepS (hS.sel (by repeat constructor)) (fun hD => ?_)
        refine SatD.tk 7 rfl hD (fun _ hw => RunV.move rfl) ?_
        refine SatD.tk 8 rfl hD (fun _ hw => RunV.extract rfl rfl) ?_
        refine SatD.tk 9 rfl hD (fun _ hw => RunV.extract rfl rfl) ?_
        refine SatD.ef 11 rfl (OpW.store hS rfl rfl (by repeat constructor) (by repeat constructor) (by repeat constructor) rfl rfl ?_)
        intro w8 hS
        refine keepS (hS.sel (by repeat constructor)) (fun hD => ?_)
        refine SatD.tk 12 rfl hD (fun _ hw => RunV.assign rfl) ?_
        refine SatD.done 0 (by kernel_rfl) ?_
        refine SatE.weak (e' := [(0, _), (3, _), (4, _), (5, _), (6, _), (7, _), (8, _)]) (by repeat constructor) ?_
        exact hK b7 w8 hS
    intro b7 w56 hS
    refine SatE.thenC ?_
    refine SatC.seq ?_
    refine SatC.seq ?_
    refine SatC.drawnT 7 hS (hS) (by kernel_rfl) ?_
    clear hS
    intro w57 hh hS hD
    first | refine SatD.tk 0 rfl hD (fun _ hw => RunV.fieldAddrL rfl rfl rfl) ?_ | refine SatD.tk 0 rfl hD (fun _ hw => RunV.fieldAddr rfl rfl rfl) ?_
    refine SatD.tk 1 rfl hD (fun _ hw => RunV.load1 hw rfl rfl (by repeat constructor) rfl) ?_
    refine SatD.tk 2 rfl hD (fun _ hw => RunV.move rfl) ?_
    first | refine SatD.tk 3 rfl hD (fun _ hw => RunV.nil_ptr rfl) ?_ | refine SatD.tk 3 rfl hD (fun _ hw => RunV.nil_func rfl) ?_ | refine SatD.tk 3 rfl hD (fun _ hw => RunV.nil_yield rfl) ?_
    first | refine SatD.tk 4 rfl hD (fun _ hw => RunV.fieldAddrL rfl rfl rfl) ?_ | refine SatD.tk 4 rfl hD (fun _ hw => RunV.fieldAddr rfl rfl rfl) ?_
    refine SatD.tk 5 rfl hD (fun _ hw => RunV.load1 hw rfl rfl (by repeat constructor) rfl) ?_
    refine SatD.tk 6 rfl hD (fun _ hw => RunV.eql rfl rfl) ?_
    refine SatD.done 0 (by kernel_rfl) (SatE.thenC ?_)
    clear hD
    refine SatC.cond rfl (fun h2 => ?_) (fun h2 => ?_)
    · (try simp only [cx, ne_eq] at h2)
      try (exfalso; (first | omega | exact h2 trivial | contradiction); done)
      all_goals
      refine SatC.seq ?_
      refine SatC.seq ?_
      refine SatC.region ?_
      first | refine SatL.pu (RunV.fieldAddrL rfl rfl rfl) rfl ?_ | refine SatL.pu (RunV.fieldAddr rfl rfl rfl) rfl ?_
      refine SatL.pu (RunV.load1 hS rfl rfl (by repeat constructor) rfl) rfl ?_
      refine SatL.pu (RunV.eql rfl rfl) rfl ?_
      refine SatL.pu (RunV.move rfl) rfl ?_
      refine SatL.guard rfl rfl rfl (fun h3 => ?_) (fun h3 => ?_)
      · (try simp only [cx, ne_eq] at h3)
        try (exfalso; (first | omega | exact h3 trivial | contradiction); done)
        all_goals
        refine SatL.pu (RunV.loadN hS rfl rfl (by repeat constructor) (by repeat constructor)) rfl ?_
        refine SatL.guard_y rfl rfl ?_
        refine SatL.pu (RunV.loadN hS rfl rfl (by repeat constructor) (by repeat constructor)) rfl ?_
        refine SatL.guard_y rfl rfl ?_
        refine SatL.op rfl (OpW.enter rfl rfl rfl (rfl) (above_ref _ _ _ _ _ _ _) ?_)
        rintro r58 w58 ⟨rfl, h⟩
        replace hS := St.callN hS h
        refine SatL.guard_y rfl rfl ?_
        refine SatL.pu (RunV.not rfl) rfl ?_
        refine SatL.pu (RunV.pick_f rfl rfl) rfl ?_
        refine SatL.nil (SatE.thenC ?_)
        refine SatC.weak (e' := [(0, _), (3, _), (4, _), (5, _), (6, _), (7, _), (42, _)]) (by repeat constructor) ?_
        refine SatC.cond rfl (fun h4 => ?_) (fun h4 => ?_)
        · (try simp only [cx, ne_eq] at h4)
          try (exfalso; (first | omega | exact h4 trivial | contradiction); done)
          all_goals
          refine SatC.seq ?_
          refine SatC.region ?_
          refine SatL.pu (RunV.build rfl (by simp [go_sem]; try rfl)) rfl ?_
          refine SatL.pu (RunV.build rfl (by simp [go_sem]; try rfl)) rfl ?_
          refine SatL.pu (RunV.assign rfl) rfl ?_
          refine SatL.op rfl (OpW.store hS rfl rfl (by repeat constructor) (by repeat constructor) (by repeat constructor) rfl rfl ?_)
          clear hS
          intro w59 hS
          refine SatL.op rfl (OpW.store hS rfl rfl (by repeat constructor) (by repeat constructor) (by repeat constructor) rfl rfl ?_)
          clear hS
          intro w60 hS
          refine SatL.nil (SatE.thenC ?_)
          refine SatC.ret (SatE.then_ret (SatE.then_ret ?_))
          refine SatE.retG3 hS rfl (.tmp rfl) (.cellN rfl rfl (by repeat constructor) (by repeat constructor)) (.cellN rfl rfl (by repeat constructor) (by repeat constructor)) ?_
          rw [if_neg (fun h => h h1), if_pos h2, if_pos (.inr (by rw [Bool.not_eq_true]; exact h4))] at hA
          subst hA
          exact ⟨rfl, v, B, hsl, hS.sel (by repeat constructor)⟩
        · (try simp only [cx, ne_eq] at h4)
          try (exfalso; (first | omega | exact h4 trivial | contradiction); done)
          all_goals
          refine SatC.skip (SatE.thenC ?_)
          refine SatC.seq ?_
          refine SatC.region ?_
          first | refine SatL.pu (RunV.fieldAddrL rfl rfl rfl) rfl ?_ | refine SatL.pu (RunV.fieldAddr rfl rfl rfl) rfl ?_
          refine SatL.pu (RunV.load1 hS rfl rfl (by repeat constructor) rfl) rfl ?_
          refine SatL.pu (RunV.loadN hS rfl rfl (by repeat constructor) (by repeat constructor)) rfl ?_
          refine SatL.op rfl (OpW.enter rfl rfl rfl (rfl) (refute_ref _ _ _ _ _ (by assumption) (by assumption)) ?_)
          rintro r59 w59 ⟨rfl, h⟩
          replace hS := St.callN hS h
          refine SatL.pu (RunV.move rfl) rfl ?_
          refine SatL.pu (RunV.extract rfl rfl) rfl ?_
          refine SatL.pu (RunV.extract rfl rfl) rfl ?_
          refine SatL.pu (RunV.assign rfl) rfl ?_
          refine SatL.pu (RunV.assign rfl) rfl ?_
          refine SatL.nil (SatE.thenC ?_)
          refine SatC.seq ?_
          refine SatC.seq ?_
          refine SatC.region ?_
          refine SatL.pu (RunV.move rfl) rfl ?_
          refine SatL.pu (RunV.neq rfl rfl) rfl ?_
          refine SatL.nil (SatE.thenC ?_)
          refine SatC.cond rfl (fun h5 => ?_) (fun h5 => ?_)
          · (try simp only [cx, ne_eq] at h5)
            try (exfalso; (first | omega | exact h5 trivial | contradiction); done)
            all_goals
            refine SatC.seq ?_
            refine SatC.weak (e' := [(4, _), (5, _), (6, _), (7, _)]) (by repeat constructor) ?_
            refine SatC.drawnT 4 hS (hS.sel (R := [(b7, C 29 (ud F.1))]) (by repeat constructor)) (by kernel_rfl) ?_
            clear hS
            intro w60 hh hS hD
            refine SatD.tk 0 rfl hD (fun _ hw => RunV.loadN hw rfl rfl (by repeat constructor) (by repeat constructor)) ?_
            refine SatD.tk 1 rfl hD (fun _ hw => RunV.loadN hw rfl rfl (by repeat constructor) (by repeat constructor)) ?_
            refine SatD.tk 2 rfl hD (fun _ hw => RunV.assign rfl) ?_
            refine SatD.ef 3 rfl (OpW.store hS rfl rfl (by repeat constructor) (by repeat constructor) (by repeat constructor) rfl rfl ?_)
            clear hS
            intro w61 hS
            refine keepS (hS.sel (by repeat constructor)) (fun hD => ?_)
            refine SatD.effF (by kernel_rfl) rfl rfl (OpW.store hS rfl rfl (by repeat constructor) (by repeat constructor) (by repeat constructor) rfl rfl ?_)
            clear hS
            intro w62 hS
            refine SatD.done 0 (by kernel_rfl) (SatE.thenC ?_)
            clear hD
            refine SatC.ret (SatE.then_ret (SatE.then_ret ?_))
            refine SatE.retG3 hS rfl (.tmp rfl) (.cellN rfl rfl (by repeat constructor) (by repeat constructor)) (.cellN rfl rfl (by repeat constructor) (by repeat constructor)) ?_
            rw [if_neg (fun h => h h1), if_pos h2, if_neg (by rintro (e | e); exact h3 e; exact e h4), if_pos h5] at hA
            subst hA
            exact ⟨rfl, v, B, hsl, hS.sel (by repeat constructor)⟩
          · (try simp only [cx, ne_eq] at h5)
            try (exfalso; (first | omega | exact h5 trivial | contradiction); done)
            all_goals
            refine SatC.skip (SatE.thenC ?_)
            refine SatC.seq ?_
            refine SatC.weak (e' := [(0, _), (4, _), (5, _), (6, _), (7, _), (9, _)]) (by repeat constructor) ?_
            refine SatC.region ?_
            refine SatL.pu (RunV.move rfl) rfl ?_
            first | refine SatL.pu (RunV.nil_ptr rfl) rfl ?_ | refine SatL.pu (RunV.nil_func rfl) rfl ?_ | refine SatL.pu (RunV.nil_yield rfl) rfl ?_
            first | refine SatL.pu (RunV.fieldAddrL rfl rfl rfl) rfl ?_ | refine SatL.pu (RunV.fieldAddr rfl rfl rfl) rfl ?_
            refine SatL.pu (RunV.load1 hS rfl rfl (by repeat constructor) rfl) rfl ?_
            refine SatL.pu (RunV.move rfl) rfl ?_
            refine SatL.pu (RunV.build rfl (by simp [go_sem]; try rfl)) rfl ?_
            refine SatL.op rfl (OpW.alloc hS rfl rfl (by repeat constructor) ?_)
            clear hS
            intro b11 w60 _ hS
            refine SatL.op rfl (OpW.store hS rfl rfl (by repeat constructor) (by repeat constructor) (by repeat constructor) rfl rfl ?_)
            clear hS
            intro w61 hS
            refine SatL.nil (SatE.thenC ?_)
            refine SatC.seq ?_
            refine SatC.region ?_
            refine SatL.pu (RunV.move rfl) rfl ?_
            refine SatL.pu (RunV.loadN hS rfl rfl (by repeat constructor) (by repeat constructor)) rfl ?_
            refine SatL.op rfl (OpW.enter rfl rfl rfl (rfl) (put_ref ⟨me, (inc F.1.i u.i).1, 0⟩ _ (hS.ownT (A := (b, C 54 (rf me v)) :: B) (by repeat constructor)) hsl hl) ?_)
            rintro r62 w62 ⟨v2, B2, hsl2, h⟩
            replace hS := hS.callT (A := (b, C 54 (rf me v)) :: B) (by repeat constructor) h
            refine SatL.nil (SatE.thenC ?_)
            refine SatC.seq ?_
            refine SatC.drawnT 4 hS (hS.sel (R := [(b7, C 29 (ud F.1)), (b11, C 29 [.int .i64 me, .int .u32 (inc F.1.i u.i).1, .int .i64 0])]) (by repeat constructor)) (by kernel_rfl) ?_
            clear hS
            intro w63 hh hS hD
            refine SatD.tk 0 rfl hD (fun _ hw => RunV.loadN hw rfl rfl (by repeat constructor) (by repeat constructor)) ?_
            refine SatD.tk 1 rfl hD (fun _ hw => RunV.loadN hw rfl rfl (by repeat constructor) (by repeat constructor)) ?_
            refine SatD.tk 2 rfl hD (fun _ hw => RunV.assign rfl) ?_
            refine SatD.ef 3 rfl (OpW.store hS rfl rfl (by repeat constructor) (by repeat constructor) (by repeat constructor) rfl rfl ?_)
            clear hS
            intro w64 hS
            refine keepS (hS.sel (by repeat constructor)) (fun hD => ?_)
            refine SatD.effF (by kernel_rfl) rfl rfl (OpW.store hS rfl rfl (by repeat constructor) (by repeat constructor) (by repeat constructor) rfl rfl ?_)
            clear hS
            intro w65 hS
            refine SatD.done 0 (by kernel_rfl) (SatE.thenC ?_)
            clear hD
            refine SatC.ret (SatE.then_ret ?_)
            refine SatE.retG3 hS rfl (.tmp rfl) (.cellN rfl rfl (by repeat constructor) (by repeat constructor)) (.cellN rfl rfl (by repeat constructor) (by repeat constructor)) ?_
            rw [if_neg (fun h => h h1), if_pos h2, if_neg (by rintro (e | e); exact h3 e; exact e h4), if_neg (fun h => h h5)] at hA
            subst hA
            exact ⟨rfl, v2, B2, hsl2, hS.sel (by repeat constructor)⟩
      · (try simp only [cx, ne_eq] at h3)
        try (exfalso; (first | omega | exact h3 trivial | contradiction); done)
        all_goals
        refine SatL.guard_n rfl rfl rfl rfl ?_
        refine SatL.guard_n rfl rfl rfl rfl ?_
        refine SatL.guard_n rfl rfl rfl rfl ?_
        refine SatL.pu (RunV.pick_t rfl rfl) rfl ?_
        refine SatL.nil (SatE.thenC ?_)
        refine SatC.weak (e' := [(0, _), (3, _), (4, _), (5, _), (6, _), (7, _), (42, _)]) (by repeat constructor) ?_
        refine SatC.cond_t rfl ?_
        refine SatC.seq ?_
        refine SatC.region ?_
        refine SatL.pu (RunV.build rfl (by simp [go_sem]; try rfl)) rfl ?_
        refine SatL.pu (RunV.build rfl (by simp [go_sem]; try rfl)) rfl ?_
        refine SatL.pu (RunV.assign rfl) rfl ?_
        refine SatL.op rfl (OpW.store hS rfl rfl (by repeat constructor) (by repeat constructor) (by repeat constructor) rfl rfl ?_)
        clear hS
        intro w58 hS
        refine SatL.op rfl (OpW.store hS rfl rfl (by repeat constructor) (by repeat constructor) (by repeat constructor) rfl rfl ?_)
        clear hS
        intro w59 hS
        refine SatL.nil (SatE.thenC ?_)
        refine SatC.ret (SatE.then_ret (SatE.then_ret ?_))
        refine SatE.retG3 hS rfl (.tmp rfl) (.cellN rfl rfl (by repeat constructor) (by repeat constructor)) (.cellN rfl rfl (by repeat constructor) (by repeat constructor)) ?_
        rw [if_neg (fun h => h h1), if_pos h2, if_pos (.inl h3)] at hA
        subst hA
        exact ⟨rfl, v, B, hsl, hS.sel (by repeat constructor)⟩
    · (try simp only [cx, ne_eq] at h2)
      try (exfalso; (first | omega | exact h2 trivial | contradiction); done)
      all_goals
      refine SatC.skip (SatE.thenC ?_)
      refine SatC.seq ?_
      refine SatC.seq ?_
      refine SatC.region ?_
      refine SatL.pu (RunV.move rfl) rfl ?_
      refine SatL.pu (RunV.not rfl) rfl ?_
      refine SatL.nil (SatE.thenC ?_)
      refine SatC.cond rfl (fun h3 => ?_) (fun h3 => ?_)
      · (try simp only [cx, ne_eq] at h3)
        try (exfalso; (first | omega | exact h3 trivial | contradiction); done)
        all_goals
        refine SatC.seq ?_
        refine SatC.region ?_
        refine SatL.pu (RunV.move rfl) rfl ?_
        refine SatL.pu (RunV.loadN hS rfl rfl (by repeat constructor) (by repeat constructor)) rfl ?_
        refine SatL.op rfl (OpW.enter rfl rfl rfl (rfl) (put_ref u _ (hS.ownT (A := (b, C 54 (rf me v)) :: B) (by repeat constructor)) hsl hl) ?_)
        rintro r58 w58 ⟨v2, B2, hsl2, h⟩
        replace hS := hS.callT (A := (b, C 54 (rf me v)) :: B) (by repeat constructor) h
        refine SatL.nil (SatE.thenC ?_)
        refine SatC.seq ?_
        refine SatC.weak (e' := [(3, _), (4, _), (5, _), (6, _)]) (by repeat constructor) ?_
        refine SatC.drawnT 4 hS (hS.sel (R := [(b3, C 29 (ud u))]) (by repeat constructor)) (by kernel_rfl) ?_
        clear hS
        intro w59 hh hS hD
        refine SatD.tk 0 rfl hD (fun _ hw => RunV.build rfl (by simp [go_sem]; try rfl)) ?_
        refine SatD.tk 1 rfl hD (fun _ hw => RunV.loadN hw rfl rfl (by repeat constructor) (by repeat constructor)) ?_
        refine SatD.tk 2 rfl hD (fun _ hw => RunV.assign rfl) ?_
        refine SatD.ef 3 rfl (OpW.store hS rfl rfl (by repeat constructor) (by repeat constructor) (by repeat constructor) rfl rfl ?_)
        clear hS
        intro w60 hS
        refine keepS (hS.sel (by repeat constructor)) (fun hD => ?_)
        refine SatD.effF (by kernel_rfl) rfl rfl (OpW.store hS rfl rfl (by repeat constructor) (by repeat constructor) (by repeat constructor) rfl rfl ?_)
        clear hS
        intro w61 hS
        refine SatD.done 0 (by kernel_rfl) (SatE.thenC ?_)
        clear hD
        refine SatC.ret (SatE.then_ret ?_)
        refine SatE.retG3 hS rfl (.tmp rfl) (.cellN rfl rfl (by repeat constructor) (by repeat constructor)) (.cellN rfl rfl (by repeat constructor) (by repeat constructor)) ?_
        rw [if_neg (fun h => h h1), if_neg h2, if_pos h3] at hA
        subst hA
        exact ⟨rfl, v2, B2, hsl2, hS.sel (by repeat constructor)⟩
      · (try simp only [cx, ne_eq] at h3)
        try (exfalso; (first | omega | exact h3 trivial | contradiction); done)
        all_goals
        refine SatC.skip (SatE.thenC ?_)
        refine SatC.seq ?_
        refine SatC.seq ?_
        refine SatC.region ?_
        refine SatL.pu (RunV.loadN hS rfl rfl (by repeat constructor) (by repeat constructor)) rfl ?_
        refine SatL.pu (RunV.loadN hS rfl rfl (by repeat constructor) (by repeat constructor)) rfl ?_
        refine SatL.op rfl (OpW.enter rfl rfl rfl (rfl) (above_ref _ _ _ _ _ _ _) ?_)
        rintro r58 w58 ⟨rfl, h⟩
        replace hS := St.callN hS h
        refine SatL.pu (RunV.not rfl) rfl ?_
        refine SatL.nil (SatE.thenC ?_)
        refine SatC.weak (e' := [(0, _), (3, _), (4, _), (5, _), (6, _), (7, _), (77, _)]) (by repeat constructor) ?_
        refine SatC.cond rfl (fun h4 => ?_) (fun h4 => ?_)
        · (try simp only [cx, ne_eq] at h4)
          try (exfalso; (first | omega | exact h4 trivial | contradiction); done)
          all_goals
          refine SatC.seq ?_
          refine SatC.region ?_
          refine SatL.pu (RunV.build rfl (by simp [go_sem]; try rfl)) rfl ?_
          refine SatL.pu (RunV.build rfl (by simp [go_sem]; try rfl)) rfl ?_
          refine SatL.pu (RunV.assign rfl) rfl ?_
          refine SatL.op rfl (OpW.store hS rfl rfl (by repeat constructor) (by repeat constructor) (by repeat constructor) rfl rfl ?_)
          clear hS
          intro w59 hS
          refine SatL.op rfl (OpW.store hS rfl rfl (by repeat constructor) (by repeat constructor) (by repeat constructor) rfl rfl ?_)
          clear hS
          intro w60 hS
          refine SatL.nil (SatE.thenC ?_)
          refine SatC.ret (SatE.then_ret ?_)
          refine SatE.retG3 hS rfl (.tmp rfl) (.cellN rfl rfl (by repeat constructor) (by repeat constructor)) (.cellN rfl rfl (by repeat constructor) (by repeat constructor)) ?_
          rw [if_neg (fun h => h h1), if_neg h2, if_neg (by rw [h3]; simp), if_pos (by rw [Bool.not_eq_true]; exact h4)] at hA
          subst hA
          exact ⟨rfl, v, B, hsl, hS.sel (by repeat constructor)⟩
        · (try simp only [cx, ne_eq] at h4)
          try (exfalso; (first | omega | exact h4 trivial | contradiction); done)
          all_goals
          refine SatC.skip (SatE.thenC ?_)
          refine SatC.seq ?_
          refine SatC.region ?_
          refine SatL.pu (RunV.move rfl) rfl ?_
          refine SatL.pu (RunV.loadN hS rfl rfl (by repeat constructor) (by repeat constructor)) rfl ?_
          refine SatL.op rfl (OpW.enter rfl rfl rfl (rfl) (put_ref u _ (hS.ownT (A := (b, C 54 (rf me v)) :: B) (by repeat constructor)) hsl hl) ?_)
          rintro r59 w59 ⟨v2, B2, hsl2, h⟩
          replace hS := hS.callT (A := (b, C 54 (rf me v)) :: B) (by repeat constructor) h
          refine SatL.nil (SatE.thenC ?_)
          refine SatC.seq ?_
          refine SatC.drawnT 4 hS (hS.sel (R := [(b7, C 29 (ud F.1)), (b3, C 29 (ud u))]) (by repeat constructor)) (by kernel_rfl) ?_
          clear hS
          intro w60 hh hS hD
          refine SatD.tk 0 rfl hD (fun _ hw => RunV.loadN hw rfl rfl (by repeat constructor) (by repeat constructor)) ?_
          refine SatD.tk 1 rfl hD (fun _ hw => RunV.loadN hw rfl rfl (by repeat constructor) (by repeat constructor)) ?_
          refine SatD.tk 2 rfl hD (fun _ hw => RunV.assign rfl) ?_
          refine SatD.ef 3 rfl (OpW.store hS rfl rfl (by repeat constructor) (by repeat constructor) (by repeat constructor) rfl rfl ?_)
          clear hS
          intro w61 hS
          refine keepS (hS.sel (by repeat constructor)) (fun hD => ?_)
          refine SatD.effF (by kernel_rfl) rfl rfl (OpW.store hS rfl rfl (by repeat constructor) (by repeat constructor) (by repeat constructor) rfl rfl ?_)
          clear hS
          intro w62 hS
          refine SatD.done 0 (by kernel_rfl) (SatE.thenC ?_)
          clear hD
          refine SatC.ret ?_
          refine SatE.retG3 hS rfl (.tmp rfl) (.cellN rfl rfl (by repeat constructor) (by repeat constructor)) (.cellN rfl rfl (by repeat constructor) (by repeat constructor)) ?_
          rw [if_neg (fun h => h h1), if_neg h2, if_neg (by rw [h3]; simp), if_neg (fun h => h h4)] at hA
          subst hA
          exact ⟨rfl, v2, B2, hsl2, hS.sel (by repeat constructor)⟩
theorem leave_ref (hown : Own w ((b, C 54 (rf me v)) :: B)) (hsl : Sl 29 3 v (l.map ud) B) (hl : l.length ≤ 8) :
    Ret Try.prog 20 #[.pointer (some ⟨b, 0, none⟩)] w fun r w' => r = .tuple #[uv (leaveR me l).1, .bool (leaveR me l).2.1] ∧ ∃ v' B', Sl 29 3 v' ((leaveR me l).2.2.map ud) B' ∧ St w (((b, C 54 (rf me v)) :: B).map Prod.fst) ((b, C 54 (rf me v')) :: B') w' := by
  have hS := St.init hown
  generalize hX : ((b, C 54 (rf me v)) :: B).map Prod.fst = X at hS ⊢
  refine Ret.enter Try.func20 Try.ntmps20 rfl rfl ?_
  simp only [argEnv, Nat.reduceAdd]
  generalize hA : leaveR me l = A
  unfold leaveR at hA
  generalize hf : find l me = F at hA
  refine SatC.seq ?_
  refine SatC.region ?_
  refine SatL.op rfl (OpW.alloc hS rfl rfl (by repeat constructor) ?_)
  clear hS
  intro b2 w1 _ hS
  refine SatL.pu (RunV.assign rfl) rfl ?_
  refine SatL.nil (SatE.thenC ?_)
  refine SatC.seq ?_
  refine SatC.region ?_
  refine SatL.pu (RunV.move rfl) rfl ?_
  refine SatL.op rfl (OpW.enter rfl rfl rfl (rfl) (self_ref (l := l) (me := me) (v := v) (B := B) (hS.ownT (A := (b, C 54 (rf me v)) :: B) (by repeat constructor)) hsl hl) ?_)
  rintro r2 w2 ⟨rfl, h⟩
  replace hS := St.callN hS h
  rw [hf]
  refine SatL.op rfl (OpW.alloc hS rfl rfl (by repeat constructor) ?_)
  clear hS
  intro b4 w3 _ hS
  refine SatL.op rfl (OpW.store hS rfl rfl (by repeat constructor) (by repeat constructor) (by repeat constructor) rfl rfl ?_)
  clear hS
  intro w4 hS
  refine SatL.nil (SatE.thenC ?_)
  refine SatC.seq ?_
  refine SatC.seq ?_
  refine SatC.region ?_
  first | refine SatL.pu (RunV.fieldAddrL rfl rfl rfl) rfl ?_ | refine SatL.pu (RunV.fieldAddr rfl rfl rfl) rfl ?_
  refine SatL.pu (RunV.load1 hS rfl rfl (by repeat constructor) rfl) rfl ?_
  refine SatL.pu (RunV.eql rfl rfl) rfl ?_
  refine SatL.nil (SatE.thenC ?_)
  refine SatC.cond rfl (fun h1 => ?_) (fun h1 => ?_)
  · (try simp only [cx, ne_eq] at h1)
    try (exfalso; (first | omega | exact h1 trivial | contradiction); done)
    all_goals
    refine SatC.seq ?_
    refine SatC.region ?_
    refine SatL.pu (RunV.loadN hS rfl rfl (by repeat constructor) (by repeat constructor)) rfl ?_
    refine SatL.op rfl (OpW.store hS rfl rfl (by repeat constructor) (by repeat constructor) (by repeat constructor) rfl rfl ?_)
    clear hS
    intro w5 hS
    refine SatL.pu (RunV.assign rfl) rfl ?_
    refine SatL.nil (SatE.thenC ?_)
    refine SatC.ret (SatE.then_ret ?_)
    refine SatE.retG2 hS rfl (.cellN rfl rfl (by repeat constructor) (by repeat constructor)) (.tmp rfl) ?_
    rw [if_pos (by assumption)] at hA
    subst hA
    exact ⟨rfl, v, B, hsl, hS.sel (by repeat constructor)⟩
  · (try simp only [cx, ne_eq] at h1)
    try (exfalso; (first | omega | exact h1 trivial | contradiction); done)
    all_goals
    refine SatC.skip (SatE.thenC ?_)
    refine SatC.seq ?_
    refine SatC.region ?_
    first | refine SatL.pu (RunV.fieldAddrL rfl rfl rfl) rfl ?_ | refine SatL.pu (RunV.fieldAddr rfl rfl rfl) rfl ?_
    refine SatL.op rfl (OpW.store hS rfl rfl (by repeat constructor) (by repeat constructor) (by repeat constructor) rfl rfl ?_)
    clear hS
    intro w5 hS
    refine SatL.nil (SatE.thenC ?_)
    refine SatC.seq ?_
    refine SatC.region ?_
    refine SatL.pu (RunV.move rfl) rfl ?_
    refine SatL.pu (RunV.loadN hS rfl rfl (by repeat constructor) (by repeat constructor)) rfl ?_
    refine SatL.op rfl (OpW.enter rfl rfl rfl (rfl) (put_ref ⟨F.1.n, F.1.i, 3⟩ _ (hS.ownT (A := (b, C 54 (rf me v)) :: B) (by repeat constructor)) hsl hl) ?_)
    rintro r6 w6 ⟨v2, B2, hsl2, h⟩
    replace hS := hS.callT (A := (b, C 54 (rf me v)) :: B) (by repeat constructor) h
    refine SatL.nil (SatE.thenC ?_)
    refine SatC.seq ?_
    refine SatC.region ?_
    refine SatL.pu (RunV.loadN hS rfl rfl (by repeat constructor) (by repeat constructor)) rfl ?_
    refine SatL.op rfl (OpW.store hS rfl rfl (by repeat constructor) (by repeat constructor) (by repeat constructor) rfl rfl ?_)
    clear hS
    intro w7 hS
    refine SatL.pu (RunV.assign rfl) rfl ?_
    refine SatL.nil (SatE.thenC ?_)
    refine SatC.ret ?_
    refine SatE.retG2 hS rfl (.cellN rfl rfl (by repeat constructor) (by repeat constructor)) (.tmp rfl) ?_
    rw [if_neg (by assumption)] at hA
    subst hA
    exact ⟨rfl, v2, B2, hsl2, hS.sel (by repeat constructor)⟩
theorem lvR_next {pe : Bool} {i : Nat} {y : Upd} (hy : l[i]? = some y) : lvR pe me (l.take (i + 1)) = lvR pe me (l.take i) ++ (if y.s < 2 ∧ ¬ (pe = true ∧ y.n = me) then [y.n] else []) := by
  unfold lvR
  rw [List.take_add_one, hy, Option.toList_some, List.filter_append, List.map_append]
  by_cases e : y.s < 2 ∧ ¬ (pe = true ∧ y.n = me)
  · rw [if_pos e, List.filter_cons_of_pos (by exact decide_eq_true e)]; rfl
  · rw [if_neg e, List.filter_cons_of_neg (by simpa only [decide_eq_true_eq] using e)]; rfl
theorem live_ref (pe : Bool) (hown : Own w ((b, C 54 (rf me v)) :: B)) (hsl : Sl 29 3 v (l.map ud) B) (hl : l.length ≤ 8) :
    Ret Try.prog 27 #[.pointer (some ⟨b, 0, none⟩), .bool pe] w fun r w' => ∃ B', Sl 3 1 r ((lvR pe me l).map iR) B' ∧ St w [] B' w' := by
  have hS := St.init hown
  obtain ⟨c0, hv0⟩ := hsl.slv
  simp only [List.length_map] at hv0
  generalize hX : ((b, C 54 (rf me v)) :: B).map Prod.fst = X at hS
  have hro : ∀ {L w'}, St w X (L ++ ((b, C 54 (rf me v)) :: B)) w' → St w [] L w' := fun h => St.roL hown (by rw [hX]; exact h.perm List.perm_append_comm) .here
  refine Ret.enter Try.func27 Try.ntmps27 rfl rfl ?_
  simp only [argEnv, Nat.reduceAdd]
  refine SatC.seq ?_
  refine SatC.region ?_
  refine SatL.pu (RunV.assign rfl) rfl ?_
  refine SatL.nil (SatE.thenC ?_)
  refine SatC.seq ?_
  refine SatC.region ?_
  refine SatL.pu (RunV.assign rfl) rfl ?_
  refine SatL.nil (SatE.thenC ?_)
  refine SatC.seq ?_
  refine SatC.seq ?_
  refine SatC.region ?_
  refine SatL.pu (RunV.assign rfl) rfl ?_
  refine SatL.nil (SatE.thenC ?_)
  refine SatC.block ?_
  refine SatC.loopK (G := Nat × Value × List (Nat × Obj)) (V := fun ⟨i, va, Ba⟩ => [(5, va), (6, .int .i64 (i : Int))]) (Cn := [(0, _), (1, _), (4, _)]) (I := fun ⟨i, va, Ba⟩ w' => i ≤ l.length ∧ Sl 3 1 va ((lvR pe me (l.take i)).map iR) Ba ∧ St w X (Ba ++ ((b, C 54 (rf me v)) :: B)) w') (μ := fun ⟨i, va, Ba⟩ => l.length - i) (0, .slice none 0 0, []) ?_ (by repeat constructor) ?_
  · exact ⟨Nat.zero_le _, .nil, hS⟩
  clear hS
  rintro ⟨i, va, Ba⟩ w1 ⟨hi, hsa, hS⟩
  refine SatC.weak (e' := [(0, _), (1, _), (4, _), (5, _), (6, _)]) (by repeat constructor) ?_
  refine SatC.seq ?_
  refine SatC.seq ?_
  refine SatC.region ?_
  refine SatL.pu (RunV.move rfl) rfl ?_
  refine SatL.pu (RunV.move rfl) rfl ?_
  first | refine SatL.pu (RunV.nil_ptr rfl) rfl ?_ | refine SatL.pu (RunV.nil_func rfl) rfl ?_ | refine SatL.pu (RunV.nil_yield rfl) rfl ?_
  first | refine SatL.pu (RunV.fieldAddrL rfl rfl rfl) rfl ?_ | refine SatL.pu (RunV.fieldAddr rfl rfl rfl) rfl ?_
  refine SatL.pu (RunV.load1 hS rfl rfl (by repeat constructor) rfl) rfl ?_
  refine SatL.pu (RunV.lenR hv0 rfl rfl) rfl ?_
  refine SatL.pu (RunV.lss rfl rfl) rfl ?_
  refine SatL.nil (SatE.thenC ?_)
  refine SatC.cond rfl (fun h1 => ?_) (fun h1 => ?_)
  · (try simp only [cx, ne_eq] at h1)
    try (exfalso; (first | omega | exact h1 trivial | contradiction); done)
    all_goals
    refine SatC.skip (SatE.thenC ?_)
    refine SatC.seq ?_
    refine SatC.block ?_
    refine SatC.seq ?_
    obtain ⟨y, hy⟩ := get_some l i (by omega)
    have hln : (lvR pe me (l.take i)).length ≤ l.length := by unfold lvR; rw [List.length_map]; exact Nat.le_trans (List.length_filter_le ..) (by rw [List.length_take]; omega)
    refine SatC.drawnT 28 hS (hS) (by kernel_rfl) ?_
    clear hS
    intro w2 hh hS hD
    refine SatD.tk 0 rfl hD (fun _ hw => RunV.move rfl) ?_
    first | refine SatD.tk 1 rfl hD (fun _ hw => RunV.nil_ptr rfl) ?_ | refine SatD.tk 1 rfl hD (fun _ hw => RunV.nil_func rfl) ?_ | refine SatD.tk 1 rfl hD (fun _ hw => RunV.nil_yield rfl) ?_
    first | refine SatD.tk 2 rfl hD (fun _ hw => RunV.fieldAddrL rfl rfl rfl) ?_ | refine SatD.tk 2 rfl hD (fun _ hw => RunV.fieldAddr rfl rfl rfl) ?_
    refine SatD.tk 3 rfl hD (fun _ hw => RunV.load1 hw rfl rfl (by repeat constructor) rfl) ?_
    refine SatD.tk 4 rfl hD (fun _ hw => RunV.move rfl) ?_
    refine SatD.tk 5 rfl hD (fun _ hw => RunV.indexR hv0 rfl rfl rfl (by omega) (by omega) rfl) ?_
    first | refine SatD.tk 6 rfl hD (fun _ hw => RunV.fieldAddrL rfl rfl rfl) ?_ | refine SatD.tk 6 rfl hD (fun _ hw => RunV.fieldAddr rfl rfl rfl) ?_
    refine SatD.tk 7 rfl hD (fun _ hw => RunV.loadR1f (hsl.rd hw (by repeat constructor)) rfl rfl (map_get hy) rfl) ?_
    refine SatD.tk 8 rfl hD (fun _ hw => RunV.lss rfl rfl) ?_
    refine SatD.tk 9 rfl hD (fun _ hw => RunV.move rfl) ?_
    refine SatD.ways 25 rfl (fun h2 => ?_) (fun h2 => ?_)
    · (try simp only [cx, ne_eq] at h2)
      try (exfalso; (first | omega | exact h2 trivial | contradiction); done)
      all_goals
      refine SatD.tk 10 rfl hD (fun _ hw => RunV.move rfl) ?_
      refine SatD.tk 11 rfl hD (fun _ hw => RunV.move rfl) ?_
      refine SatD.ways 27 rfl (fun h3 => ?_) (fun h3 => ?_)
      · (try simp only [cx, ne_eq] at h3)
        try (exfalso; (first | omega | exact h3 trivial | contradiction); done)
        all_goals
        refine SatD.tk 12 rfl hD (fun _ hw => RunV.move rfl) ?_
        first | refine SatD.tk 13 rfl hD (fun _ hw => RunV.nil_ptr rfl) ?_ | refine SatD.tk 13 rfl hD (fun _ hw => RunV.nil_func rfl) ?_ | refine SatD.tk 13 rfl hD (fun _ hw => RunV.nil_yield rfl) ?_
        first | refine SatD.tk 14 rfl hD (fun _ hw => RunV.fieldAddrL rfl rfl rfl) ?_ | refine SatD.tk 14 rfl hD (fun _ hw => RunV.fieldAddr rfl rfl rfl) ?_
        refine SatD.tk 15 rfl hD (fun _ hw => RunV.load1 hw rfl rfl (by repeat constructor) rfl) ?_
        refine SatD.tk 16 rfl hD (fun _ hw => RunV.move rfl) ?_
        refine SatD.tk 17 rfl hD (fun _ hw => RunV.indexR hv0 rfl rfl rfl (by omega) (by omega) rfl) ?_
        first | refine SatD.tk 18 rfl hD (fun _ hw => RunV.fieldAddrL rfl rfl rfl) ?_ | refine SatD.tk 18 rfl hD (fun _ hw => RunV.fieldAddr rfl rfl rfl) ?_
        refine SatD.tk 19 rfl hD (fun _ hw => RunV.loadR1f (hsl.rd hw (by repeat constructor)) rfl rfl (map_get hy) rfl) ?_
        refine SatD.tk 20 rfl hD (fun _ hw => RunV.move rfl) ?_
        first | refine SatD.tk 21 rfl hD (fun _ hw => RunV.nil_ptr rfl) ?_ | refine SatD.tk 21 rfl hD (fun _ hw => RunV.nil_func rfl) ?_ | refine SatD.tk 21 rfl hD (fun _ hw => RunV.nil_yield rfl) ?_
        first | refine SatD.tk 22 rfl hD (fun _ hw => RunV.fieldAddrL rfl rfl rfl) ?_ | refine SatD.tk 22 rfl hD (fun _ hw => RunV.fieldAddr rfl rfl rfl) ?_
        refine SatD.tk 23 rfl hD (fun _ hw => RunV.load1 hw rfl rfl (by repeat constructor) rfl) ?_
        refine SatD.tk 24 rfl hD (fun _ hw => RunV.eql rfl rfl) ?_
        refine SatD.tk 25 rfl hD (fun _ hw => RunV.pick_t rfl rfl) ?_
        refine SatD.tk 26 rfl hD (fun _ hw => RunV.not rfl) ?_
        refine SatD.tk 27 rfl hD (fun _ hw => RunV.pick_t rfl rfl) ?_
        refine SatD.done 0 (by kernel_rfl) (SatE.thenC ?_)
        clear hD
        refine SatC.weak (e' := [(0, _), (1, _), (4, _), (5, _), (6, _), (43, _)]) (by repeat constructor) ?_
        refine SatC.cond rfl (fun h4 => ?_) (fun h4 => ?_)
        · (try simp only [cx, ne_eq] at h4)
          try (exfalso; (first | omega | exact h4 trivial | contradiction); done)
          all_goals
          refine SatC.region ?_
          refine SatL.pu (RunV.move rfl) rfl ?_
          refine SatL.pu (RunV.move rfl) rfl ?_
          first | refine SatL.pu (RunV.nil_ptr rfl) rfl ?_ | refine SatL.pu (RunV.nil_func rfl) rfl ?_ | refine SatL.pu (RunV.nil_yield rfl) rfl ?_
          first | refine SatL.pu (RunV.fieldAddrL rfl rfl rfl) rfl ?_ | refine SatL.pu (RunV.fieldAddr rfl rfl rfl) rfl ?_
          refine SatL.pu (RunV.load1 hS rfl rfl (by repeat constructor) rfl) rfl ?_
          refine SatL.pu (RunV.move rfl) rfl ?_
          refine SatL.pu (RunV.indexR hv0 rfl rfl rfl (by omega) (by omega) rfl) rfl ?_
          first | refine SatL.pu (RunV.fieldAddrL rfl rfl rfl) rfl ?_ | refine SatL.pu (RunV.fieldAddr rfl rfl rfl) rfl ?_
          refine SatL.pu (RunV.loadR1f (hsl.rd hS (by repeat constructor)) rfl rfl (map_get hy) rfl) rfl ?_
          refine SatL.op rfl (OpW.buildSlice1 hS rfl rfl rfl rfl rfl (by repeat constructor) rfl rfl rfl ?_)
          clear hS
          intro b53 w3 _ hS
          refine SatL.op rfl (OpW.append1 (by assumption) hS (by repeat constructor) rfl rfl (by repeat constructor) rfl rfl rfl rfl rfl rfl rfl rfl (by first | omega | (simp only [List.length_map]; omega) | (simp only [List.length_append, List.length_map, List.length_cons, List.length_nil]; omega)) rfl ?_)
          clear hS
          intro v54 B54 w4 hsl54 hS
          refine SatL.pu (RunV.assign rfl) rfl ?_
          refine SatL.nil (SatE.blk_normal (SatE.thenC ?_))
          refine SatC.weak (e' := [(0, _), (1, _), (4, _), (5, _), (6, _)]) (by repeat constructor) ?_
          refine SatC.region ?_
          refine SatL.pu (RunV.move rfl) rfl ?_
          refine SatL.pu (RunV.add rfl rfl (by first | exact wrapI64 (by omega) | rfl)) rfl ?_
          refine SatL.pu (RunV.assign rfl) rfl ?_
          refine SatL.nil ?_
          first
          | (refine SatE.again (i + 1, v54, B54) ⟨by omega, ?_, hS.sel (by repeat constructor)⟩ (by dsimp only; omega) (by repeat constructor)
             rw [lvR_next hy, if_pos (by simp_all), List.map_append]
             exact hsl54)
          | (refine SatE.again (i + 1, va, Ba) ⟨by omega, ?_, hS.sel (by repeat constructor)⟩ (by dsimp only; omega) (by repeat constructor)
             rw [lvR_next hy, if_neg (by first | (simp_all; done) | (simp_all; omega)), List.append_nil]
             exact hsa)
        · (try simp only [cx, ne_eq] at h4)
          try (exfalso; (first | omega | exact h4 trivial | contradiction); done)
          all_goals
          refine SatC.skip (SatE.blk_normal (SatE.thenC ?_))
          refine SatC.region ?_
          refine SatL.pu (RunV.move rfl) rfl ?_
          refine SatL.pu (RunV.add rfl rfl (by first | exact wrapI64 (by omega) | rfl)) rfl ?_
          refine SatL.pu (RunV.assign rfl) rfl ?_
          refine SatL.nil ?_
          first
          | (refine SatE.again (i + 1, v54, B54) ⟨by omega, ?_, hS.sel (by repeat constructor)⟩ (by dsimp only; omega) (by repeat constructor)
             rw [lvR_next hy, if_pos (by simp_all), List.map_append]
             exact hsl54)
          | (refine SatE.again (i + 1, va, Ba) ⟨by omega, ?_, hS.sel (by repeat constructor)⟩ (by dsimp only; omega) (by repeat constructor)
             rw [lvR_next hy, if_neg (by first | (simp_all; done) | (simp_all; omega)), List.append_nil]
             exact hsa)
      · (try simp only [cx, ne_eq] at h3)
        try (exfalso; (first | omega | exact h3 trivial | contradiction); done)
        all_goals
        refine SatD.sk 12 rfl [] hD ?_
        refine SatD.sk 13 rfl [] hD ?_
        refine SatD.sk 14 rfl [] hD ?_
        refine SatD.sk 15 rfl [] hD ?_
        refine SatD.sk 16 rfl [] hD ?_
        refine SatD.sk 17 rfl [] hD ?_
        refine SatD.sk 18 rfl [] hD ?_
        refine SatD.sk 19 rfl [] hD ?_
        refine SatD.sk 20 rfl [] hD ?_
        refine SatD.sk 21 rfl [] hD ?_
        refine SatD.sk 22 rfl [] hD ?_
        refine SatD.sk 23 rfl [] hD ?_
        refine SatD.sk 24 rfl [] hD ?_
        refine SatD.tk 25 rfl hD (fun _ hw => RunV.pick_f rfl rfl) ?_
        refine SatD.tk 26 rfl hD (fun _ hw => RunV.not rfl) ?_
        refine SatD.tk 27 rfl hD (fun _ hw => RunV.pick_t rfl rfl) ?_
        refine SatD.done 0 (by kernel_rfl) (SatE.thenC ?_)
        clear hD
        refine SatC.weak (e' := [(0, _), (1, _), (4, _), (5, _), (6, _), (43, _)]) (by repeat constructor) ?_
        refine SatC.cond_t rfl ?_
        refine SatC.region ?_
        refine SatL.pu (RunV.move rfl) rfl ?_
        refine SatL.pu (RunV.move rfl) rfl ?_
        first | refine SatL.pu (RunV.nil_ptr rfl) rfl ?_ | refine SatL.pu (RunV.nil_func rfl) rfl ?_ | refine SatL.pu (RunV.nil_yield rfl) rfl ?_
        first | refine SatL.pu (RunV.fieldAddrL rfl rfl rfl) rfl ?_ | refine SatL.pu (RunV.fieldAddr rfl rfl rfl) rfl ?_
        refine SatL.pu (RunV.load1 hS rfl rfl (by repeat constructor) rfl) rfl ?_
        refine SatL.pu (RunV.move rfl) rfl ?_
        refine SatL.pu (RunV.indexR hv0 rfl rfl rfl (by omega) (by omega) rfl) rfl ?_
        first | refine SatL.pu (RunV.fieldAddrL rfl rfl rfl) rfl ?_ | refine SatL.pu (RunV.fieldAddr rfl rfl rfl) rfl ?_
        refine SatL.pu (RunV.loadR1f (hsl.rd hS (by repeat constructor)) rfl rfl (map_get hy) rfl) rfl ?_
        refine SatL.op rfl (OpW.buildSlice1 hS rfl rfl rfl rfl rfl (by repeat constructor) rfl rfl rfl ?_)
        clear hS
        intro b53 w3 _ hS
        refine SatL.op rfl (OpW.append1 (by assumption) hS (by repeat constructor) rfl rfl (by repeat constructor) rfl rfl rfl rfl rfl rfl rfl rfl (by first | omega | (simp only [List.length_map]; omega) | (simp only [List.length_append, List.length_map, List.length_cons, List.length_nil]; omega)) rfl ?_)
        clear hS
        intro v54 B54 w4 hsl54 hS
        refine SatL.pu (RunV.assign rfl) rfl ?_
        refine SatL.nil (SatE.blk_normal (SatE.thenC ?_))
        refine SatC.weak (e' := [(0, _), (1, _), (4, _), (5, _), (6, _)]) (by repeat constructor) ?_
        refine SatC.region ?_
        refine SatL.pu (RunV.move rfl) rfl ?_
        refine SatL.pu (RunV.add rfl rfl (by first | exact wrapI64 (by omega) | rfl)) rfl ?_
        refine SatL.pu (RunV.assign rfl) rfl ?_
        refine SatL.nil ?_
        first
        | (refine SatE.again (i + 1, v54, B54) ⟨by omega, ?_, hS.sel (by repeat constructor)⟩ (by dsimp only; omega) (by repeat constructor)
           rw [lvR_next hy, if_pos (by simp_all), List.map_append]
           exact hsl54)
        | (refine SatE.again (i + 1, va, Ba) ⟨by omega, ?_, hS.sel (by repeat constructor)⟩ (by dsimp only; omega) (by repeat constructor)
           rw [lvR_next hy, if_neg (by first | (simp_all; done) | (simp_all; omega)), List.append_nil]
           exact hsa)
    · (try simp only [cx, ne_eq] at h2)
      try (exfalso; (first | omega | exact h2 trivial | contradiction); done)
      all_goals
      refine SatD.sk 10 rfl [] hD ?_
      refine SatD.sk 11 rfl [] hD ?_
      refine SatD.sk 12 rfl [] hD ?_
      refine SatD.sk 13 rfl [] hD ?_
      refine SatD.sk 14 rfl [] hD ?_
      refine SatD.sk 15 rfl [] hD ?_
      refine SatD.sk 16 rfl [] hD ?_
      refine SatD.sk 17 rfl [] hD ?_
      refine SatD.sk 18 rfl [] hD ?_
      refine SatD.sk 19 rfl [] hD ?_
      refine SatD.sk 20 rfl [] hD ?_
      refine SatD.sk 21 rfl [] hD ?_
      refine SatD.sk 22 rfl [] hD ?_
      refine SatD.sk 23 rfl [] hD ?_
      refine SatD.sk 24 rfl [] hD ?_
      refine SatD.sk 25 rfl [] hD ?_
      refine SatD.sk 26 rfl [] hD ?_
      refine SatD.tk 27 rfl hD (fun _ hw => RunV.pick_f rfl rfl) ?_
      refine SatD.done 0 (by kernel_rfl) (SatE.thenC ?_)
      clear hD
      refine SatC.weak (e' := [(0, _), (1, _), (4, _), (5, _), (6, _), (43, _)]) (by repeat constructor) ?_
      refine SatC.cond_f rfl ?_
      refine SatC.skip (SatE.blk_normal (SatE.thenC ?_))
      refine SatC.region ?_
      refine SatL.pu (RunV.move rfl) rfl ?_
      refine SatL.pu (RunV.add rfl rfl (by first | exact wrapI64 (by omega) | rfl)) rfl ?_
      refine SatL.pu (RunV.assign rfl) rfl ?_
      refine SatL.nil ?_
      first
      | (refine SatE.again (i + 1, v54, B54) ⟨by omega, ?_, hS.sel (by repeat constructor)⟩ (by dsimp only; omega) (by repeat constructor)
         rw [lvR_next hy, if_pos (by simp_all), List.map_append]
         exact hsl54)
      | (refine SatE.again (i + 1, va, Ba) ⟨by omega, ?_, hS.sel (by repeat constructor)⟩ (by dsimp only; omega) (by repeat constructor)
         rw [lvR_next hy, if_neg (by first | (simp_all; done) | (simp_all; omega)), List.append_nil]
         exact hsa)
  · (try simp only [cx, ne_eq] at h1)
    try (exfalso; (first | omega | exact h1 trivial | contradiction); done)
    all_goals
    refine SatC.exit (SatE.then_exit (SatE.then_exit (SatE.blk_exit (SatE.thenC ?_))))
    refine SatC.seq ?_
    refine SatC.region ?_
    refine SatL.pu (RunV.move rfl) rfl ?_
    refine SatL.pu (RunV.assign rfl) rfl ?_
    refine SatL.nil (SatE.thenC ?_)
    refine SatC.ret ?_
    refine SatE.ret1 rfl rfl ?_
    rw [List.take_of_length_le (by omega)] at hsa; exact ⟨_, hsa, hro hS⟩
end
end Go.Proofs.Ytpbfjadkimojeaa
