/- The document's sessions, walked. -/
import Derived.Test.YthbfigkfelfhcaaSp
import Derived.Test.YthbfigkfelfhcaaK22
set_option linter.unusedSimpArgs false
set_option linter.unusedVariables false
set_option maxRecDepth 100000
set_option maxHeartbeats 8000000
namespace Go.Proofs.Ythbfigkfelfhcaa
open Go.RowKit
theorem run_neq35 (a b m x a' b' m' x' : Int) (w : World) : (binOp .neq 35 (.agg #[.int .u64 a, .int .i64 b, .int .u64 m, .int .u64 x]) (.agg #[.int .u64 a', .int .i64 b', .int .u64 m', .int .u64 x'])).run Try.prog w = .ok (.bool (decide (Ses.mk a b m x ≠ ⟨a', b', m', x'⟩))) w := by
  by_cases h1 : a = a' <;> by_cases h2 : b = b' <;> by_cases h3 : m = m' <;> by_cases h4 : x = x' <;> simp [go_sem, h1, h2, h3, h4]
theorem run_eql35 (a b m x a' b' m' x' : Int) (w : World) : (binOp .eql 35 (.agg #[.int .u64 a, .int .i64 b, .int .u64 m, .int .u64 x]) (.agg #[.int .u64 a', .int .i64 b', .int .u64 m', .int .u64 x'])).run Try.prog w = .ok (.bool (decide (Ses.mk a b m x = ⟨a', b', m', x'⟩))) w := by
  by_cases h1 : a = a' <;> by_cases h2 : b = b' <;> by_cases h3 : m = m' <;> by_cases h4 : x = x' <;> simp [go_sem, h1, h2, h3, h4]
theorem guard35 (op : BinOp) (x y : Operand) (a b m z a' b' m' z' : Int) (w : World) : (eqGuard op 35 x y (.agg #[.int .u64 a, .int .i64 b, .int .u64 m, .int .u64 z]) (.agg #[.int .u64 a', .int .i64 b', .int .u64 m', .int .u64 z'])).run Try.prog w = .ok () w := by
  unfold eqGuard
  cases op <;> simp [go_sem]
theorem same_any (v1 v2 : Value) (ys zs : List Ses) (w : World) (hr1 : RdRow w v1 4 (ys.map sc)) (hr2 : RdRow w v2 4 (zs.map sc)) :
    Ret Try.prog 14 #[v1, v2] w fun v' w' => v' = .bool (decide (ys = zs)) ∧ St w [] [] w' := by
  have hS := St.init0 w
  obtain ⟨b1, o1, c1, hv1, hmax1, hc1, hlt1⟩ := hr1.open
  obtain ⟨b2, o2, c2, hv2, hmax2, hc2, hlt2⟩ := hr2.open
  simp only [List.length_map] at hv1 hmax1 hlt1 hv2 hmax2 hlt2
  refine Ret.enter Try.func14 Try.ntmps14 rfl rfl ?_
  simp only [argEnv, Nat.reduceAdd]
  refine SatC.seq ?_
  refine SatC.region ?_
  refine SatL.pu (RunV.assign rfl) rfl ?_
  refine SatL.nil (SatE.thenC ?_)
  refine SatC.seq ?_
  refine SatC.seq ?_
  refine SatC.region ?_
  refine SatL.pu (RunV.move rfl) rfl ?_
  first | refine SatL.pu (RunV.lenR (by assumption) rfl rfl) rfl ?_ | refine SatL.pu (RunV.lenS rfl rfl) rfl ?_
  refine SatL.pu (RunV.move rfl) rfl ?_
  first | refine SatL.pu (RunV.lenR (by assumption) rfl rfl) rfl ?_ | refine SatL.pu (RunV.lenS rfl rfl) rfl ?_
  refine SatL.pu (RunV.neq rfl rfl) rfl ?_
  refine SatL.nil (SatE.thenC ?_)
  refine SatC.cond rfl (fun h1 => ?_) (fun h1 => ?_)
  · (try simp only [cx, ne_eq] at h1)
    try (exfalso; (first | omega | exact h1 trivial | contradiction); done)
    all_goals
    refine SatC.seq ?_
    refine SatC.region ?_
    refine SatL.pu (RunV.assign rfl) rfl ?_
    refine SatL.nil (SatE.thenC ?_)
    refine SatC.ret (SatE.then_ret ?_)
    refine SatE.ret1 rfl rfl ?_
    refine ⟨congrArg Value.bool ?_, hS⟩
    rw [decide_eq_false (fun e => h1 (by rw [e]))]
  · (try simp only [cx, ne_eq] at h1)
    try (exfalso; (first | omega | exact h1 trivial | contradiction); done)
    all_goals
    refine SatC.skip (SatE.thenC ?_)
    refine SatC.seq ?_
    refine SatC.seq ?_
    refine SatC.region ?_
    refine SatL.pu (RunV.assign rfl) rfl ?_
    refine SatL.nil (SatE.thenC ?_)
    refine SatC.block ?_
    refine SatC.loopK (G := Nat) (V := fun i => [(5, .int .i64 (i : Int))]) (Cn := [(0, _), (1, _), (4, _)]) (I := fun i w' => i ≤ ys.length ∧ ys.take i = zs.take i ∧ St w [] [] w') (μ := fun i => ys.length - i) 0 ?_ (by repeat constructor) ?_
    · exact ⟨Nat.zero_le _, rfl, hS⟩
    clear hS
    rintro i w1 ⟨hi, hf, hS⟩
    refine SatC.weak (e' := [(0, _), (1, _), (4, _), (5, _)]) (by repeat constructor) ?_
    refine SatC.seq ?_
    refine SatC.seq ?_
    refine SatC.region ?_
    refine SatL.pu (RunV.move rfl) rfl ?_
    refine SatL.pu (RunV.move rfl) rfl ?_
    first | refine SatL.pu (RunV.lenR (by assumption) rfl rfl) rfl ?_ | refine SatL.pu (RunV.lenS rfl rfl) rfl ?_
    refine SatL.pu (RunV.lss rfl rfl) rfl ?_
    refine SatL.nil (SatE.thenC ?_)
    refine SatC.cond rfl (fun h2 => ?_) (fun h2 => ?_)
    · (try simp only [cx, ne_eq] at h2)
      try (exfalso; (first | omega | exact h2 trivial | contradiction); done)
      all_goals
      refine SatC.skip (SatE.thenC ?_)
      refine SatC.seq ?_
      refine SatC.block ?_
      refine SatC.seq ?_
      obtain ⟨y, hy⟩ := get_some ys i (by omega)
      obtain ⟨z, hz⟩ := get_some zs i (by omega)
      refine SatC.drawnT 9 hS (hS) (by kernel_rfl) ?_
      clear hS
      intro w2 hh hS hD
      refine SatD.tk 0 rfl hD (fun _ hw => RunV.move rfl) ?_
      refine SatD.tk 1 rfl hD (fun _ hw => RunV.move rfl) ?_
      first | refine SatD.tk 2 rfl hD (fun _ hw => RunV.indexR (by assumption) rfl rfl rfl (by omega) (by omega) rfl) ?_ | refine SatD.tk 2 rfl hD (fun _ hw => RunV.indexS rfl rfl rfl (by omega) (by omega) rfl) ?_
      first | refine SatD.tk 3 rfl hD (fun _ hw => RunV.loadRNz (RdC.st (by assumption) hw List.not_mem_nil) rfl rfl (by first | assumption | exact map_get (by assumption))) ?_ | refine SatD.tk 3 rfl hD (fun _ hw => RunV.loadRNz (Sl.rd (by assumption) hw (by repeat constructor)) rfl rfl (by first | assumption | exact map_get (by assumption))) ?_
      refine SatD.tk 4 rfl hD (fun _ hw => RunV.move rfl) ?_
      refine SatD.tk 5 rfl hD (fun _ hw => RunV.move rfl) ?_
      first | refine SatD.tk 6 rfl hD (fun _ hw => RunV.indexR (by assumption) rfl rfl rfl (by omega) (by omega) rfl) ?_ | refine SatD.tk 6 rfl hD (fun _ hw => RunV.indexS rfl rfl rfl (by omega) (by omega) rfl) ?_
      first | refine SatD.tk 7 rfl hD (fun _ hw => RunV.loadRNz (RdC.st (by assumption) hw List.not_mem_nil) rfl rfl (by first | assumption | exact map_get (by assumption))) ?_ | refine SatD.tk 7 rfl hD (fun _ hw => RunV.loadRNz (Sl.rd (by assumption) hw (by repeat constructor)) rfl rfl (by first | assumption | exact map_get (by assumption))) ?_
      refine SatD.tk 8 rfl hD (fun _ hw => RunV.bin rfl rfl (guard35 _ _ _ _ _ _ _ _ _ _ _ _) (run_neq35 _ _ _ _ _ _ _ _ _)) ?_
      refine SatD.done 0 (by kernel_rfl) (SatE.thenC ?_)
      clear hD
      refine SatC.weak (e' := [(0, _), (1, _), (4, _), (5, _), (25, _)]) (by repeat constructor) ?_
      refine SatC.cond rfl (fun h3 => ?_) (fun h3 => ?_)
      · (try simp only [cx, ne_eq] at h3)
        try (exfalso; (first | omega | exact h3 trivial | contradiction); done)
        all_goals
        refine SatC.seq ?_
        refine SatC.region ?_
        refine SatL.pu (RunV.assign rfl) rfl ?_
        refine SatL.nil (SatE.thenC ?_)
        refine SatC.ret (SatE.blk_ret (SatE.then_ret (SatE.then_ret (SatE.blk_ret (SatE.then_ret ?_)))))
        refine SatE.ret1 rfl rfl ?_
        refine ⟨congrArg Value.bool ?_, hS⟩
        rw [decide_eq_false]
        rintro rfl
        rw [hy] at hz
        obtain rfl := Option.some.inj hz
        exact h3 rfl
      · (try simp only [cx, ne_eq] at h3)
        try (exfalso; (first | omega | exact h3 trivial | contradiction); done)
        all_goals
        refine SatC.skip (SatE.blk_normal (SatE.thenC ?_))
        refine SatC.region ?_
        refine SatL.pu (RunV.move rfl) rfl ?_
        refine SatL.pu (RunV.add rfl rfl (by first | exact wrapI64 (by omega) | rfl)) rfl ?_
        refine SatL.pu (RunV.assign rfl) rfl ?_
        refine SatL.nil ?_
        refine SatE.again (i + 1) ?_ (by first | omega | (dsimp only; omega)) (by repeat constructor)
        obtain rfl : y = z := by
          obtain ⟨a, b, c, d⟩ := y
          obtain ⟨a', b', c', d'⟩ := z
          simpa using h3
        exact ⟨by omega, by rw [List.take_add_one, List.take_add_one, hy, hz, hf], hS⟩
    · (try simp only [cx, ne_eq] at h2)
      try (exfalso; (first | omega | exact h2 trivial | contradiction); done)
      all_goals
      refine SatC.exit (SatE.then_exit (SatE.then_exit (SatE.blk_exit (SatE.thenC ?_))))
      refine SatC.seq ?_
      refine SatC.region ?_
      refine SatL.pu (RunV.assign rfl) rfl ?_
      refine SatL.nil (SatE.thenC ?_)
      refine SatC.ret ?_
      refine SatE.ret1 rfl rfl ?_
      refine ⟨congrArg Value.bool ?_, hS⟩
      obtain rfl : i = ys.length := by omega
      rw [List.take_length, List.take_of_length_le (by omega)] at hf
      rw [decide_eq_true hf]
@[reducible] def uR (n : Int) : List Value := [.int .u64 n]
theorem nums_any (v1 v2 : Value) (ys zs : List Int) (w : World) (hr1 : RdRow w v1 1 (ys.map uR)) (hr2 : RdRow w v2 1 (zs.map uR)) :
    Ret Try.prog 19 #[v1, v2] w fun v' w' => v' = .bool (decide (ys = zs)) ∧ St w [] [] w' := by
  have hS := St.init0 w
  obtain ⟨b1, o1, c1, hv1, hmax1, hc1, hlt1⟩ := hr1.open
  obtain ⟨b2, o2, c2, hv2, hmax2, hc2, hlt2⟩ := hr2.open
  simp only [List.length_map] at hv1 hmax1 hlt1 hv2 hmax2 hlt2
  refine Ret.enter Try.func19 Try.ntmps19 rfl rfl ?_
  simp only [argEnv, Nat.reduceAdd]
  refine SatC.seq ?_
  refine SatC.region ?_
  refine SatL.pu (RunV.assign rfl) rfl ?_
  refine SatL.nil (SatE.thenC ?_)
  refine SatC.seq ?_
  refine SatC.seq ?_
  refine SatC.region ?_
  refine SatL.pu (RunV.move rfl) rfl ?_
  first | refine SatL.pu (RunV.lenR (by assumption) rfl rfl) rfl ?_ | refine SatL.pu (RunV.lenS rfl rfl) rfl ?_
  refine SatL.pu (RunV.move rfl) rfl ?_
  first | refine SatL.pu (RunV.lenR (by assumption) rfl rfl) rfl ?_ | refine SatL.pu (RunV.lenS rfl rfl) rfl ?_
  refine SatL.pu (RunV.neq rfl rfl) rfl ?_
  refine SatL.nil (SatE.thenC ?_)
  refine SatC.cond rfl (fun h1 => ?_) (fun h1 => ?_)
  · (try simp only [cx, ne_eq] at h1)
    try (exfalso; (first | omega | exact h1 trivial | contradiction); done)
    all_goals
    refine SatC.seq ?_
    refine SatC.region ?_
    refine SatL.pu (RunV.assign rfl) rfl ?_
    refine SatL.nil (SatE.thenC ?_)
    refine SatC.ret (SatE.then_ret ?_)
    refine SatE.ret1 rfl rfl ?_
    refine ⟨congrArg Value.bool ?_, hS⟩
    rw [decide_eq_false (fun e => h1 (by rw [e]))]
  · (try simp only [cx, ne_eq] at h1)
    try (exfalso; (first | omega | exact h1 trivial | contradiction); done)
    all_goals
    refine SatC.skip (SatE.thenC ?_)
    refine SatC.seq ?_
    refine SatC.seq ?_
    refine SatC.region ?_
    refine SatL.pu (RunV.assign rfl) rfl ?_
    refine SatL.nil (SatE.thenC ?_)
    refine SatC.block ?_
    refine SatC.loopK (G := Nat) (V := fun i => [(5, .int .i64 (i : Int))]) (Cn := [(0, _), (1, _), (4, _)]) (I := fun i w' => i ≤ ys.length ∧ ys.take i = zs.take i ∧ St w [] [] w') (μ := fun i => ys.length - i) 0 ?_ (by repeat constructor) ?_
    · exact ⟨Nat.zero_le _, rfl, hS⟩
    clear hS
    rintro i w1 ⟨hi, hf, hS⟩
    refine SatC.weak (e' := [(0, _), (1, _), (4, _), (5, _)]) (by repeat constructor) ?_
    refine SatC.seq ?_
    refine SatC.seq ?_
    refine SatC.region ?_
    refine SatL.pu (RunV.move rfl) rfl ?_
    refine SatL.pu (RunV.move rfl) rfl ?_
    first | refine SatL.pu (RunV.lenR (by assumption) rfl rfl) rfl ?_ | refine SatL.pu (RunV.lenS rfl rfl) rfl ?_
    refine SatL.pu (RunV.lss rfl rfl) rfl ?_
    refine SatL.nil (SatE.thenC ?_)
    refine SatC.cond rfl (fun h2 => ?_) (fun h2 => ?_)
    · (try simp only [cx, ne_eq] at h2)
      try (exfalso; (first | omega | exact h2 trivial | contradiction); done)
      all_goals
      refine SatC.skip (SatE.thenC ?_)
      refine SatC.seq ?_
      refine SatC.block ?_
      refine SatC.seq ?_
      obtain ⟨y, hy⟩ := get_some ys i (by omega)
      obtain ⟨z, hz⟩ := get_some zs i (by omega)
      refine SatC.drawnT 9 hS (hS) (by kernel_rfl) ?_
      clear hS
      intro w2 hh hS hD
      refine SatD.tk 0 rfl hD (fun _ hw => RunV.move rfl) ?_
      refine SatD.tk 1 rfl hD (fun _ hw => RunV.move rfl) ?_
      first | refine SatD.tk 2 rfl hD (fun _ hw => RunV.indexR (by assumption) rfl rfl rfl (by omega) (by omega) rfl) ?_ | refine SatD.tk 2 rfl hD (fun _ hw => RunV.indexS rfl rfl rfl (by omega) (by omega) rfl) ?_
      first | refine SatD.tk 3 rfl hD (fun _ hw => RunV.loadR1z (RdC.st (by assumption) hw List.not_mem_nil) rfl rfl (by first | assumption | exact map_get (by assumption)) rfl) ?_ | refine SatD.tk 3 rfl hD (fun _ hw => RunV.loadR1z (Sl.rd (by assumption) hw (by repeat constructor)) rfl rfl (by first | assumption | exact map_get (by assumption)) rfl) ?_
      refine SatD.tk 4 rfl hD (fun _ hw => RunV.move rfl) ?_
      refine SatD.tk 5 rfl hD (fun _ hw => RunV.move rfl) ?_
      first | refine SatD.tk 6 rfl hD (fun _ hw => RunV.indexR (by assumption) rfl rfl rfl (by omega) (by omega) rfl) ?_ | refine SatD.tk 6 rfl hD (fun _ hw => RunV.indexS rfl rfl rfl (by omega) (by omega) rfl) ?_
      first | refine SatD.tk 7 rfl hD (fun _ hw => RunV.loadR1z (RdC.st (by assumption) hw List.not_mem_nil) rfl rfl (by first | assumption | exact map_get (by assumption)) rfl) ?_ | refine SatD.tk 7 rfl hD (fun _ hw => RunV.loadR1z (Sl.rd (by assumption) hw (by repeat constructor)) rfl rfl (by first | assumption | exact map_get (by assumption)) rfl) ?_
      refine SatD.tk 8 rfl hD (fun _ hw => RunV.neq rfl rfl) ?_
      refine SatD.done 0 (by kernel_rfl) (SatE.thenC ?_)
      clear hD
      refine SatC.weak (e' := [(0, _), (1, _), (4, _), (5, _), (25, _)]) (by repeat constructor) ?_
      refine SatC.cond rfl (fun h3 => ?_) (fun h3 => ?_)
      · (try simp only [cx, ne_eq] at h3)
        try (exfalso; (first | omega | exact h3 trivial | contradiction); done)
        all_goals
        refine SatC.seq ?_
        refine SatC.region ?_
        refine SatL.pu (RunV.assign rfl) rfl ?_
        refine SatL.nil (SatE.thenC ?_)
        refine SatC.ret (SatE.blk_ret (SatE.then_ret (SatE.then_ret (SatE.blk_ret (SatE.then_ret ?_)))))
        refine SatE.ret1 rfl rfl ?_
        refine ⟨congrArg Value.bool ?_, hS⟩
        rw [decide_eq_false]
        rintro rfl
        rw [hy] at hz
        obtain rfl := Option.some.inj hz
        exact h3 rfl
      · (try simp only [cx, ne_eq] at h3)
        try (exfalso; (first | omega | exact h3 trivial | contradiction); done)
        all_goals
        refine SatC.skip (SatE.blk_normal (SatE.thenC ?_))
        refine SatC.region ?_
        refine SatL.pu (RunV.move rfl) rfl ?_
        refine SatL.pu (RunV.add rfl rfl (by first | exact wrapI64 (by omega) | rfl)) rfl ?_
        refine SatL.pu (RunV.assign rfl) rfl ?_
        refine SatL.nil ?_
        refine SatE.again (i + 1) ?_ (by first | omega | (dsimp only; omega)) (by repeat constructor)
        obtain rfl : y = z := by simpa using h3
        exact ⟨by omega, by rw [List.take_add_one, List.take_add_one, hy, hz, hf], hS⟩
    · (try simp only [cx, ne_eq] at h2)
      try (exfalso; (first | omega | exact h2 trivial | contradiction); done)
      all_goals
      refine SatC.exit (SatE.then_exit (SatE.then_exit (SatE.blk_exit (SatE.thenC ?_))))
      refine SatC.seq ?_
      refine SatC.region ?_
      refine SatL.pu (RunV.assign rfl) rfl ?_
      refine SatL.nil (SatE.thenC ?_)
      refine SatC.ret ?_
      refine SatE.ret1 rfl rfl ?_
      refine ⟨congrArg Value.bool ?_, hS⟩
      obtain rfl : i = ys.length := by omega
      rw [List.take_length, List.take_of_length_le (by omega)] at hf
      rw [decide_eq_true hf]
@[reducible] def rt (most : Int) (v : Value) (last : Int) : List Value := [.int .i64 most, v, .int .u64 last]
theorem rnew_any (n : Int) (w : World) : Ret Try.prog 16 #[.int .i64 n] w fun u w' => ∃ b, u = .pointer (some ⟨b, 0, none⟩) ∧ St w [] [(b, C 53 (rt (min (max n 1) 64) (.slice none 0 0) 0))] w' := by
  have hS := St.init0 w
  refine Ret.enter Try.func16 Try.ntmps16 rfl rfl ?_
  simp only [argEnv, Nat.reduceAdd]
  refine SatC.seq ?_
  refine SatC.region ?_
  refine SatL.pu (RunV.assign rfl) rfl ?_
  refine SatL.nil (SatE.thenC ?_)
  refine SatC.seq ?_
  refine SatC.seq ?_
  refine SatC.region ?_
  refine SatL.pu (RunV.move rfl) rfl ?_
  refine SatL.pu (RunV.lss rfl rfl) rfl ?_
  refine SatL.nil (SatE.thenC ?_)
  refine SatC.cond rfl (fun h1 => ?_) (fun h1 => ?_)
  · (try simp only [cx, ne_eq] at h1)
    try (exfalso; (first | omega | exact h1 trivial | contradiction); done)
    all_goals
    refine SatC.region ?_
    refine SatL.pu (RunV.assign rfl) rfl ?_
    refine SatL.nil (SatE.thenC ?_)
    refine SatC.seq ?_
    refine SatC.seq ?_
    refine SatC.region ?_
    refine SatL.pu (RunV.move rfl) rfl ?_
    refine SatL.pu (RunV.gtr rfl rfl) rfl ?_
    refine SatL.nil (SatE.thenC ?_)
    refine SatC.cond rfl (fun h2 => ?_) (fun h2 => ?_)
    · (try simp only [cx, ne_eq] at h2)
      try (exfalso; (first | omega | exact h2 trivial | contradiction); done)
      all_goals
      refine SatC.region ?_
      refine SatL.pu (RunV.assign rfl) rfl ?_
      refine SatL.nil (SatE.thenC ?_)
      refine SatC.seq ?_
      refine SatC.region ?_
      refine SatL.pu (RunV.move rfl) rfl ?_
      refine SatL.pu (RunV.build rfl (by simp [go_sem]; try rfl)) rfl ?_
      refine SatL.op rfl (OpW.box hS rfl rfl (by repeat constructor) ?_)
      clear hS
      intro b9 w1 _ hS
      refine SatL.pu (RunV.assign rfl) rfl ?_
      refine SatL.nil (SatE.thenC ?_)
      refine SatC.ret ?_
      refine SatE.ret1 rfl rfl ?_
      refine ⟨_, rfl, ?_⟩
      first
      | (rw [show min (max n 1) 64 = 64 by omega]; exact hS)
      | (rw [show min (max n 1) 64 = 1 by omega]; exact hS)
      | (rw [show min (max n 1) 64 = n by omega]; exact hS)
    · (try simp only [cx, ne_eq] at h2)
      try (exfalso; (first | omega | exact h2 trivial | contradiction); done)
      all_goals
      refine SatC.skip (SatE.thenC ?_)
      refine SatC.seq ?_
      refine SatC.region ?_
      refine SatL.pu (RunV.move rfl) rfl ?_
      refine SatL.pu (RunV.build rfl (by simp [go_sem]; try rfl)) rfl ?_
      refine SatL.op rfl (OpW.box hS rfl rfl (by repeat constructor) ?_)
      clear hS
      intro b9 w1 _ hS
      refine SatL.pu (RunV.assign rfl) rfl ?_
      refine SatL.nil (SatE.thenC ?_)
      refine SatC.ret ?_
      refine SatE.ret1 rfl rfl ?_
      refine ⟨_, rfl, ?_⟩
      first
      | (rw [show min (max n 1) 64 = 64 by omega]; exact hS)
      | (rw [show min (max n 1) 64 = 1 by omega]; exact hS)
      | (rw [show min (max n 1) 64 = n by omega]; exact hS)
  · (try simp only [cx, ne_eq] at h1)
    try (exfalso; (first | omega | exact h1 trivial | contradiction); done)
    all_goals
    refine SatC.skip (SatE.thenC ?_)
    refine SatC.seq ?_
    refine SatC.seq ?_
    refine SatC.region ?_
    refine SatL.pu (RunV.move rfl) rfl ?_
    refine SatL.pu (RunV.gtr rfl rfl) rfl ?_
    refine SatL.nil (SatE.thenC ?_)
    refine SatC.cond rfl (fun h2 => ?_) (fun h2 => ?_)
    · (try simp only [cx, ne_eq] at h2)
      try (exfalso; (first | omega | exact h2 trivial | contradiction); done)
      all_goals
      refine SatC.region ?_
      refine SatL.pu (RunV.assign rfl) rfl ?_
      refine SatL.nil (SatE.thenC ?_)
      refine SatC.seq ?_
      refine SatC.region ?_
      refine SatL.pu (RunV.move rfl) rfl ?_
      refine SatL.pu (RunV.build rfl (by simp [go_sem]; try rfl)) rfl ?_
      refine SatL.op rfl (OpW.box hS rfl rfl (by repeat constructor) ?_)
      clear hS
      intro b9 w1 _ hS
      refine SatL.pu (RunV.assign rfl) rfl ?_
      refine SatL.nil (SatE.thenC ?_)
      refine SatC.ret ?_
      refine SatE.ret1 rfl rfl ?_
      refine ⟨_, rfl, ?_⟩
      first
      | (rw [show min (max n 1) 64 = 64 by omega]; exact hS)
      | (rw [show min (max n 1) 64 = 1 by omega]; exact hS)
      | (rw [show min (max n 1) 64 = n by omega]; exact hS)
    · (try simp only [cx, ne_eq] at h2)
      try (exfalso; (first | omega | exact h2 trivial | contradiction); done)
      all_goals
      refine SatC.skip (SatE.thenC ?_)
      refine SatC.seq ?_
      refine SatC.region ?_
      refine SatL.pu (RunV.move rfl) rfl ?_
      refine SatL.pu (RunV.build rfl (by simp [go_sem]; try rfl)) rfl ?_
      refine SatL.op rfl (OpW.box hS rfl rfl (by repeat constructor) ?_)
      clear hS
      intro b9 w1 _ hS
      refine SatL.pu (RunV.assign rfl) rfl ?_
      refine SatL.nil (SatE.thenC ?_)
      refine SatC.ret ?_
      refine SatE.ret1 rfl rfl ?_
      refine ⟨_, rfl, ?_⟩
      first
      | (rw [show min (max n 1) 64 = 64 by omega]; exact hS)
      | (rw [show min (max n 1) 64 = 1 by omega]; exact hS)
      | (rw [show min (max n 1) 64 = n by omega]; exact hS)
section
variable {b : Nat} {most last : Int} {v : Value} {l : List Ses} {B : List (Nat × Obj)} {w : World}
theorem get_ref (id : Int) (hown : Own w ((b, C 53 (rt most v last)) :: B)) (hsl : Sl 35 4 v (l.map sc) B) (hl : l.length ≤ 1000) :
    Ret Try.prog 24 #[.pointer (some ⟨b, 0, none⟩), .int .u64 id] w fun r w' => r = .tuple #[sv (sget l id).1, .bool (sget l id).2] ∧ St w [] [] w' := by
  have hS := St.init hown
  obtain ⟨c0, hv0⟩ := hsl.slv
  simp only [List.length_map] at hv0
  generalize hX : ((b, C 53 (rt most v last)) :: B).map Prod.fst = X at hS
  have hro : ∀ {L w'}, St w X (L ++ ((b, C 53 (rt most v last)) :: B)) w' → St w [] L w' := fun h => St.roL hown (by rw [hX]; exact h.perm List.perm_append_comm) .here
  refine Ret.enter Try.func24 Try.ntmps24 rfl rfl ?_
  simp only [argEnv, Nat.reduceAdd]
  generalize hg : sget l id = R
  refine SatC.seq ?_
  refine SatC.region ?_
  refine SatL.op rfl (OpW.alloc hS rfl rfl (by repeat constructor) ?_)
  clear hS
  intro b4 w1 _ hS
  refine SatL.pu (RunV.assign rfl) rfl ?_
  refine SatL.nil (SatE.thenC ?_)
  refine SatC.seq ?_
  refine SatC.seq ?_
  refine SatC.region ?_
  refine SatL.pu (RunV.assign rfl) rfl ?_
  refine SatL.nil (SatE.thenC ?_)
  refine SatC.block ?_
  refine SatC.loopK (G := Nat) (V := fun i => [(6, .int .i64 (i : Int))]) (Cn := [(0, _), (1, _), (4, _), (5, _)]) (I := fun i w' => i ≤ l.length ∧ sget (l.drop i) id = R ∧ St w X ((b4, C 35 (sc zs)) :: (b, C 53 (rt most v last)) :: B) w') (μ := fun i => l.length - i) 0 ?_ (by repeat constructor) ?_
  · exact ⟨Nat.zero_le _, hg, hS⟩
  clear hS
  rintro i w2 ⟨hi, hf, hS⟩
  refine SatC.weak (e' := [(0, _), (1, _), (4, _), (5, _), (6, _)]) (by repeat constructor) ?_
  refine SatC.seq ?_
  refine SatC.seq ?_
  refine SatC.region ?_
  refine SatL.pu (RunV.move rfl) rfl ?_
  refine SatL.pu (RunV.move rfl) rfl ?_
  first | refine SatL.pu (RunV.nil_ptr rfl) rfl ?_ | refine SatL.pu (RunV.nil_func rfl) rfl ?_ | refine SatL.pu (RunV.nil_yield rfl) rfl ?_
  first | refine SatL.pu (RunV.fieldAddrL rfl rfl rfl) rfl ?_ | refine SatL.pu (RunV.fieldAddr rfl rfl rfl) rfl ?_
  refine SatL.pu (RunV.load1 hS rfl rfl (by repeat constructor) rfl) rfl ?_
  refine SatL.pu (RunV.lenR hv0 rfl rfl) rfl ?_
  refine SatL.pu (RunV.lss rfl rfl) rfl ?_
  refine SatL.nil (SatE.thenC ?_)
  refine SatC.cond rfl (fun h1 => ?_) (fun h1 => ?_)
  · (try simp only [cx, ne_eq] at h1)
    try (exfalso; (first | omega | exact h1 trivial | contradiction); done)
    all_goals
    refine SatC.skip (SatE.thenC ?_)
    refine SatC.seq ?_
    refine SatC.block ?_
    refine SatC.seq ?_
    obtain ⟨y, hy⟩ := get_some l i (by omega)
    rw [drop_at hy, sget_cons] at hf
    refine SatC.region ?_
    refine SatL.pu (RunV.move rfl) rfl ?_
    first | refine SatL.pu (RunV.nil_ptr rfl) rfl ?_ | refine SatL.pu (RunV.nil_func rfl) rfl ?_ | refine SatL.pu (RunV.nil_yield rfl) rfl ?_
    first | refine SatL.pu (RunV.fieldAddrL rfl rfl rfl) rfl ?_ | refine SatL.pu (RunV.fieldAddr rfl rfl rfl) rfl ?_
    refine SatL.pu (RunV.load1 hS rfl rfl (by repeat constructor) rfl) rfl ?_
    refine SatL.pu (RunV.move rfl) rfl ?_
    refine SatL.pu (RunV.indexR hv0 rfl rfl rfl (by omega) (by omega) rfl) rfl ?_
    first | refine SatL.pu (RunV.fieldAddrL rfl rfl rfl) rfl ?_ | refine SatL.pu (RunV.fieldAddr rfl rfl rfl) rfl ?_
    refine SatL.pu (RunV.loadR1f (hsl.rd hS (by repeat constructor)) rfl rfl (map_get hy) rfl) rfl ?_
    refine SatL.pu (RunV.move rfl) rfl ?_
    refine SatL.pu (RunV.eql rfl rfl) rfl ?_
    refine SatL.nil (SatE.thenC ?_)
    refine SatC.weak (e' := [(0, _), (1, _), (4, _), (5, _), (6, _), (25, _)]) (by repeat constructor) ?_
    refine SatC.cond rfl (fun h2 => ?_) (fun h2 => ?_)
    · (try simp only [cx, ne_eq] at h2)
      try (exfalso; (first | omega | exact h2 trivial | contradiction); done)
      all_goals
      refine SatC.seq ?_
      refine SatC.region ?_
      refine SatL.pu (RunV.move rfl) rfl ?_
      first | refine SatL.pu (RunV.nil_ptr rfl) rfl ?_ | refine SatL.pu (RunV.nil_func rfl) rfl ?_ | refine SatL.pu (RunV.nil_yield rfl) rfl ?_
      first | refine SatL.pu (RunV.fieldAddrL rfl rfl rfl) rfl ?_ | refine SatL.pu (RunV.fieldAddr rfl rfl rfl) rfl ?_
      refine SatL.pu (RunV.load1 hS rfl rfl (by repeat constructor) rfl) rfl ?_
      refine SatL.pu (RunV.move rfl) rfl ?_
      refine SatL.pu (RunV.indexR hv0 rfl rfl rfl (by omega) (by omega) rfl) rfl ?_
      refine SatL.pu (RunV.loadRNz (hsl.rd hS (by repeat constructor)) rfl rfl (map_get hy)) rfl ?_
      refine SatL.op rfl (OpW.store hS rfl rfl (by repeat constructor) (by repeat constructor) (by repeat constructor) rfl rfl ?_)
      clear hS
      intro w3 hS
      refine SatL.pu (RunV.assign rfl) rfl ?_
      refine SatL.nil (SatE.thenC ?_)
      refine SatC.ret (SatE.blk_ret (SatE.then_ret (SatE.then_ret (SatE.blk_ret (SatE.then_ret ?_)))))
      refine SatE.retG2 hS rfl (.cellN rfl rfl (by repeat constructor) (by repeat constructor)) (.tmp rfl) ?_
      rw [if_pos (by assumption)] at hf; subst hf; exact ⟨rfl, (hro (L := [(b4, C 35 (sc y))]) hS).sub (List.nil_sublist _)⟩
    · (try simp only [cx, ne_eq] at h2)
      try (exfalso; (first | omega | exact h2 trivial | contradiction); done)
      all_goals
      refine SatC.skip (SatE.blk_normal (SatE.thenC ?_))
      refine SatC.region ?_
      refine SatL.pu (RunV.move rfl) rfl ?_
      refine SatL.pu (RunV.add rfl rfl (by first | exact wrapI64 (by omega) | rfl)) rfl ?_
      refine SatL.pu (RunV.assign rfl) rfl ?_
      refine SatL.nil ?_
      refine SatE.again (i + 1) ?_ (by first | omega | (dsimp only; omega)) (by repeat constructor)
      exact ⟨by omega, by rw [if_neg (by assumption)] at hf; exact hf, hS⟩
  · (try simp only [cx, ne_eq] at h1)
    try (exfalso; (first | omega | exact h1 trivial | contradiction); done)
    all_goals
    refine SatC.exit (SatE.then_exit (SatE.then_exit (SatE.blk_exit (SatE.thenC ?_))))
    refine SatC.seq ?_
    refine SatC.region ?_
    refine SatL.pu (RunV.build rfl (by simp [go_sem]; try rfl)) rfl ?_
    refine SatL.op rfl (OpW.store hS rfl rfl (by repeat constructor) (by repeat constructor) (by repeat constructor) rfl rfl ?_)
    clear hS
    intro w3 hS
    refine SatL.pu (RunV.assign rfl) rfl ?_
    refine SatL.nil (SatE.thenC ?_)
    refine SatC.ret ?_
    refine SatE.retG2 hS rfl (.cellN rfl rfl (by repeat constructor) (by repeat constructor)) (.tmp rfl) ?_
    rw [List.drop_of_length_le (by omega)] at hf; subst hf; exact ⟨rfl, (hro (L := [(b4, C 35 (sc zs))]) hS).sub (List.nil_sublist _)⟩
theorem raise_ref (x : Int) (hown : Own w ((b, C 53 (rt most v last)) :: B)) : Ret Try.prog 34 #[.pointer (some ⟨b, 0, none⟩), .int .u64 x] w fun u w' => u = .tuple #[] ∧ St w (b :: B.map Prod.fst) ((b, C 53 (rt most v (max last x))) :: B) w' := by
  have hS := St.init hown
  refine Ret.enter Try.func34 Try.ntmps34 rfl rfl ?_
  simp only [argEnv, Nat.reduceAdd]
  refine SatC.seq ?_
  refine SatC.region ?_
  refine SatL.pu (RunV.move rfl) rfl ?_
  refine SatL.pu (RunV.move rfl) rfl ?_
  first | refine SatL.pu (RunV.nil_ptr rfl) rfl ?_ | refine SatL.pu (RunV.nil_func rfl) rfl ?_ | refine SatL.pu (RunV.nil_yield rfl) rfl ?_
  first | refine SatL.pu (RunV.fieldAddrL rfl rfl rfl) rfl ?_ | refine SatL.pu (RunV.fieldAddr rfl rfl rfl) rfl ?_
  refine SatL.pu (RunV.load1 hS rfl rfl (by repeat constructor) rfl) rfl ?_
  refine SatL.pu (RunV.gtr rfl rfl) rfl ?_
  refine SatL.nil (SatE.thenC ?_)
  refine SatC.cond rfl (fun h1 => ?_) (fun h1 => ?_)
  · (try simp only [cx, ne_eq] at h1)
    try (exfalso; (first | omega | exact h1 trivial | contradiction); done)
    all_goals
    refine SatC.region ?_
    refine SatL.pu (RunV.move rfl) rfl ?_
    refine SatL.pu (RunV.move rfl) rfl ?_
    first | refine SatL.pu (RunV.nil_ptr rfl) rfl ?_ | refine SatL.pu (RunV.nil_func rfl) rfl ?_ | refine SatL.pu (RunV.nil_yield rfl) rfl ?_
    first | refine SatL.pu (RunV.fieldAddrL rfl rfl rfl) rfl ?_ | refine SatL.pu (RunV.fieldAddr rfl rfl rfl) rfl ?_
    refine SatL.op rfl (OpW.store hS rfl rfl (by repeat constructor) (by repeat constructor) (by repeat constructor) rfl rfl ?_)
    clear hS
    intro w1 hS
    refine SatL.nil ?_
    refine SatE.fin0 rfl ?_
    first
    | exact ⟨rfl, by rw [show max last x = x by omega]; exact hS⟩
    | exact ⟨rfl, by rw [show max last x = last by omega]; exact hS⟩
  · (try simp only [cx, ne_eq] at h1)
    try (exfalso; (first | omega | exact h1 trivial | contradiction); done)
    all_goals
    refine SatC.skip ?_
    refine SatE.fin0 rfl ?_
    first
    | exact ⟨rfl, by rw [show max last x = x by omega]; exact hS⟩
    | exact ⟨rfl, by rw [show max last x = last by omega]; exact hS⟩
theorem insS_gt {x y : Ses} {ys : List Ses} (h : x.id < y.id) : insS x false (y :: ys) = x :: y :: insS x true ys := if_pos ⟨rfl, h⟩
theorem insS_lt {x y : Ses} {ys : List Ses} {laid : Bool} (h : laid = true ∨ ¬ x.id < y.id) : insS x laid (y :: ys) = y :: insS x laid ys := if_neg (by rintro ⟨h3, h4⟩; rcases h with h2 | h2 <;> simp_all)
theorem open_ref (nd ix : Int) (hix : 0 ≤ ix ∧ ix < 18446744073709551616) (hown : Own w ((b, C 53 (rt most v last)) :: B)) (hsl : Sl 35 4 v (l.map sc) B) (hl : l.length ≤ 100) :
    Ret Try.prog 17 #[.pointer (some ⟨b, 0, none⟩), .int .i64 nd, .int .u64 ix] w fun u w' => u = .tuple #[.int .u64 (openS most last l nd ix).1.1, .int .i64 (openS most last l nd ix).1.2] ∧
      ∃ v' B', Sl 35 4 v' ((openS most last l nd ix).2.1.map sc) B' ∧ St w (b :: B.map Prod.fst) ((b, C 53 (rt most v' (openS most last l nd ix).2.2)) :: B') w' := by
  have hS := St.init hown
  obtain ⟨c0, hv0⟩ := hsl.slv
  simp only [List.length_map] at hv0
  rw [List.map_cons] at hS
  generalize hX : b :: B.map Prod.fst = X at hS ⊢
  refine Ret.enter Try.func17 Try.ntmps17 rfl rfl ?_
  simp only [argEnv, Nat.reduceAdd]
  generalize hA : openS most last l nd ix = A
  unfold openS at hA
  generalize hg : sget l ix = F at hA
  refine SatC.seq ?_
  refine SatC.region ?_
  refine SatL.pu (RunV.assign rfl) rfl ?_
  refine SatL.pu (RunV.assign rfl) rfl ?_
  refine SatL.nil (SatE.thenC ?_)
  refine SatC.seq ?_
  refine SatC.seq ?_
  refine SatC.region ?_
  refine SatL.pu (RunV.move rfl) rfl ?_
  refine SatL.pu (RunV.lss rfl rfl) rfl ?_
  refine SatL.pu (RunV.move rfl) rfl ?_
  refine SatL.guard rfl rfl rfl (fun h1 => ?_) (fun h1 => ?_)
  · (try simp only [cx, ne_eq] at h1)
    try (exfalso; (first | omega | exact h1 trivial | contradiction); done)
    all_goals
    refine SatL.pu (RunV.move rfl) rfl ?_
    refine SatL.guard_y rfl rfl ?_
    refine SatL.pu (RunV.gtr rfl rfl) rfl ?_
    refine SatL.pu (RunV.pick_f rfl rfl) rfl ?_
    refine SatL.pu (RunV.move rfl) rfl ?_
    refine SatL.guard rfl rfl rfl (fun h2 => ?_) (fun h2 => ?_)
    · (try simp only [cx, ne_eq] at h2)
      try (exfalso; (first | omega | exact h2 trivial | contradiction); done)
      all_goals
      refine SatL.pu (RunV.move rfl) rfl ?_
      refine SatL.guard_y rfl rfl ?_
      refine SatL.pu (RunV.eql rfl rfl) rfl ?_
      refine SatL.pu (RunV.pick_f rfl rfl) rfl ?_
      refine SatL.nil (SatE.thenC ?_)
      refine SatC.cond rfl (fun h3 => ?_) (fun h3 => ?_)
      · (try simp only [cx, ne_eq] at h3)
        try (exfalso; (first | omega | exact h3 trivial | contradiction); done)
        all_goals
        refine SatC.seq ?_
        refine SatC.weak (e' := [(6, _), (7, _)]) (by repeat constructor) ?_
        refine SatC.region ?_
        refine SatL.pu (RunV.assign rfl) rfl ?_
        refine SatL.pu (RunV.assign rfl) rfl ?_
        refine SatL.nil (SatE.thenC ?_)
        refine SatC.ret (SatE.then_ret ?_)
        refine SatE.ret2 rfl rfl rfl ?_
        first
        | exact ⟨rfl, vz, Bz, hsz, hS.sel (by repeat constructor)⟩
        | (rw [if_pos (by omega)] at hA; subst hA; exact ⟨rfl, v, B, hsl, hS.sel (by repeat constructor)⟩)
        | (rw [if_neg (by omega), if_pos (by assumption)] at hA; subst hA; exact ⟨rfl, v, B, hsl, hS.sel (by repeat constructor)⟩)
        | (rw [if_neg (by omega), if_neg (by simp_all), if_pos (by omega)] at hA; subst hA; exact ⟨rfl, v, B, hsl, hS.sel (by repeat constructor)⟩)
      · (try simp only [cx, ne_eq] at h3)
        try (exfalso; (first | omega | exact h3 trivial | contradiction); done)
        all_goals
        refine SatC.skip (SatE.thenC ?_)
        refine SatC.seq ?_
        refine SatC.region ?_
        refine SatL.pu (RunV.move rfl) rfl ?_
        refine SatL.pu (RunV.move rfl) rfl ?_
        refine SatL.op rfl (OpW.enter rfl rfl rfl (rfl) (get_ref ix (hS.ownT (A := (b, C 53 (rt most v last)) :: B) (by repeat constructor)) hsl (by omega)) ?_)
        rintro r1 w1 ⟨rfl, h⟩
        replace hS := St.callN hS h
        rw [hg]
        refine SatL.pu (RunV.move rfl) rfl ?_
        refine SatL.pu (RunV.extract rfl rfl) rfl ?_
        refine SatL.pu (RunV.extract rfl rfl) rfl ?_
        refine SatL.op rfl (OpW.alloc hS rfl rfl (by repeat constructor) ?_)
        clear hS
        intro b8 w2 _ hS
        refine SatL.op rfl (OpW.store hS rfl rfl (by repeat constructor) (by repeat constructor) (by repeat constructor) rfl rfl ?_)
        clear hS
        intro w3 hS
        refine SatL.pu (RunV.assign rfl) rfl ?_
        refine SatL.nil (SatE.thenC ?_)
        refine SatC.seq ?_
        refine SatC.seq ?_
        refine SatC.weak (e' := [(0, _), (1, _), (2, _), (6, _), (7, _), (9, _)]) (by repeat constructor) ?_
        refine SatC.region ?_
        refine SatL.pu (RunV.move rfl) rfl ?_
        refine SatL.nil (SatE.thenC ?_)
        refine SatC.cond rfl (fun h4 => ?_) (fun h4 => ?_)
        · (try simp only [cx, ne_eq] at h4)
          try (exfalso; (first | omega | exact h4 trivial | contradiction); done)
          all_goals
          refine SatC.seq ?_
          refine SatC.region ?_
          refine SatL.pu (RunV.assign rfl) rfl ?_
          refine SatL.pu (RunV.assign rfl) rfl ?_
          refine SatL.nil (SatE.thenC ?_)
          refine SatC.ret (SatE.then_ret ?_)
          refine SatE.ret2 rfl rfl rfl ?_
          first
          | exact ⟨rfl, vz, Bz, hsz, hS.sel (by repeat constructor)⟩
          | (rw [if_pos (by omega)] at hA; subst hA; exact ⟨rfl, v, B, hsl, hS.sel (by repeat constructor)⟩)
          | (rw [if_neg (by omega), if_pos (by assumption)] at hA; subst hA; exact ⟨rfl, v, B, hsl, hS.sel (by repeat constructor)⟩)
          | (rw [if_neg (by omega), if_neg (by simp_all), if_pos (by omega)] at hA; subst hA; exact ⟨rfl, v, B, hsl, hS.sel (by repeat constructor)⟩)
        · (try simp only [cx, ne_eq] at h4)
          try (exfalso; (first | omega | exact h4 trivial | contradiction); done)
          all_goals
          refine SatC.skip (SatE.thenC ?_)
          refine SatC.seq ?_
          refine SatC.seq ?_
          refine SatC.drawnT 10 hS (hS) (by kernel_rfl) ?_
          clear hS
          intro w4 hh hS hD
          refine SatD.tk 0 rfl hD (fun _ hw => RunV.move rfl) ?_
          first | refine SatD.tk 1 rfl hD (fun _ hw => RunV.nil_ptr rfl) ?_ | refine SatD.tk 1 rfl hD (fun _ hw => RunV.nil_func rfl) ?_ | refine SatD.tk 1 rfl hD (fun _ hw => RunV.nil_yield rfl) ?_
          first | refine SatD.tk 2 rfl hD (fun _ hw => RunV.fieldAddrL rfl rfl rfl) ?_ | refine SatD.tk 2 rfl hD (fun _ hw => RunV.fieldAddr rfl rfl rfl) ?_
          refine SatD.tk 3 rfl hD (fun _ hw => RunV.load1 hw rfl rfl (by repeat constructor) rfl) ?_
          refine SatD.tk 4 rfl hD (fun _ hw => RunV.lenR hv0 rfl rfl) ?_
          refine SatD.tk 5 rfl hD (fun _ hw => RunV.move rfl) ?_
          first | refine SatD.tk 6 rfl hD (fun _ hw => RunV.nil_ptr rfl) ?_ | refine SatD.tk 6 rfl hD (fun _ hw => RunV.nil_func rfl) ?_ | refine SatD.tk 6 rfl hD (fun _ hw => RunV.nil_yield rfl) ?_
          first | refine SatD.tk 7 rfl hD (fun _ hw => RunV.fieldAddrL rfl rfl rfl) ?_ | refine SatD.tk 7 rfl hD (fun _ hw => RunV.fieldAddr rfl rfl rfl) ?_
          refine SatD.tk 8 rfl hD (fun _ hw => RunV.load1 hw rfl rfl (by repeat constructor) rfl) ?_
          refine SatD.tk 9 rfl hD (fun _ hw => RunV.geq rfl rfl) ?_
          refine SatD.done 0 (by kernel_rfl) (SatE.thenC ?_)
          clear hD
          refine SatC.cond rfl (fun h5 => ?_) (fun h5 => ?_)
          · (try simp only [cx, ne_eq] at h5)
            try (exfalso; (first | omega | exact h5 trivial | contradiction); done)
            all_goals
            refine SatC.seq ?_
            refine SatC.weak (e' := [(6, _), (7, _)]) (by repeat constructor) ?_
            refine SatC.region ?_
            refine SatL.pu (RunV.assign rfl) rfl ?_
            refine SatL.pu (RunV.assign rfl) rfl ?_
            refine SatL.nil (SatE.thenC ?_)
            refine SatC.ret (SatE.then_ret ?_)
            refine SatE.ret2 rfl rfl rfl ?_
            first
            | exact ⟨rfl, vz, Bz, hsz, hS.sel (by repeat constructor)⟩
            | (rw [if_pos (by omega)] at hA; subst hA; exact ⟨rfl, v, B, hsl, hS.sel (by repeat constructor)⟩)
            | (rw [if_neg (by omega), if_pos (by assumption)] at hA; subst hA; exact ⟨rfl, v, B, hsl, hS.sel (by repeat constructor)⟩)
            | (rw [if_neg (by omega), if_neg (by simp_all), if_pos (by omega)] at hA; subst hA; exact ⟨rfl, v, B, hsl, hS.sel (by repeat constructor)⟩)
          · (try simp only [cx, ne_eq] at h5)
            try (exfalso; (first | omega | exact h5 trivial | contradiction); done)
            all_goals
            refine SatC.skip (SatE.thenC ?_)
            refine SatC.seq ?_
            refine SatC.weak (e' := [(0, _), (1, _), (2, _), (6, _), (7, _)]) (by repeat constructor) ?_
            have hnn : ¬ (¬ (0 ≤ nd ∧ nd < 8) ∨ ix = 0) := by omega
            rw [if_neg hnn, if_neg (by simp_all), if_neg (by omega)] at hA
            subst hA
            refine SatC.region ?_
            refine SatL.pu (RunV.move rfl) rfl ?_
            refine SatL.pu (RunV.move rfl) rfl ?_
            refine SatL.pu (RunV.move rfl) rfl ?_
            refine SatL.pu (RunV.move rfl) rfl ?_
            refine SatL.pu (RunV.build rfl (by simp [go_sem]; try rfl)) rfl ?_
            refine SatL.op rfl (OpW.alloc hS rfl rfl (by repeat constructor) ?_)
            clear hS
            intro b10 w5 _ hS
            refine SatL.op rfl (OpW.store hS rfl rfl (by repeat constructor) (by repeat constructor) (by repeat constructor) rfl rfl ?_)
            clear hS
            intro w6 hS
            refine SatL.nil (SatE.thenC ?_)
            refine SatC.seq ?_
            refine SatC.region ?_
            refine SatL.pu (RunV.assign rfl) rfl ?_
            refine SatL.nil (SatE.thenC ?_)
            refine SatC.seq ?_
            refine SatC.region ?_
            refine SatL.pu (RunV.assign rfl) rfl ?_
            refine SatL.nil (SatE.thenC ?_)
            refine SatC.seq ?_
            refine SatC.seq ?_
            refine SatC.region ?_
            refine SatL.pu (RunV.assign rfl) rfl ?_
            refine SatL.nil (SatE.thenC ?_)
            refine SatC.block ?_
            refine SatC.loopK (G := Nat × List Ses × Value × List (Nat × Obj) × Bool) (V := fun ⟨i, acc, va, Ba, laid⟩ => [(11, va), (12, .bool laid), (13, .int .i64 (i : Int))]) (Cn := [(0, _), (2, _), (6, _), (7, _), (10, _)]) (I := fun ⟨i, acc, va, Ba, laid⟩ w' => i ≤ l.length ∧ Sl 35 4 va (acc.map sc) Ba ∧ acc ++ insS ⟨ix, nd, ix, ix⟩ laid (l.drop i) = insS ⟨ix, nd, ix, ix⟩ false l ∧ acc.length ≤ 2 * i ∧ St w X (Ba ++ ((b10, C 35 (sc ⟨ix, nd, ix, ix⟩)) :: (b, C 53 (rt most v last)) :: B)) w') (μ := fun ⟨i, acc, va, Ba, laid⟩ => l.length - i) (0, [], .slice none 0 0, [], false) ?_ (by repeat constructor) ?_
            · exact ⟨Nat.zero_le _, .nil, rfl, Nat.le_refl _, hS.sel (by repeat constructor)⟩
            clear hS
            rintro ⟨i, acc, va, Ba, laid⟩ w7 ⟨hi, hsa, hacc, hla, hS⟩
            refine SatC.weak (e' := [(0, _), (2, _), (6, _), (7, _), (10, _), (11, _), (12, _), (13, _)]) (by repeat constructor) ?_
            refine SatC.seq ?_
            refine SatC.seq ?_
            refine SatC.region ?_
            refine SatL.pu (RunV.move rfl) rfl ?_
            refine SatL.pu (RunV.move rfl) rfl ?_
            first | refine SatL.pu (RunV.nil_ptr rfl) rfl ?_ | refine SatL.pu (RunV.nil_func rfl) rfl ?_ | refine SatL.pu (RunV.nil_yield rfl) rfl ?_
            first | refine SatL.pu (RunV.fieldAddrL rfl rfl rfl) rfl ?_ | refine SatL.pu (RunV.fieldAddr rfl rfl rfl) rfl ?_
            refine SatL.pu (RunV.load1 hS rfl rfl (by repeat constructor) rfl) rfl ?_
            refine SatL.pu (RunV.lenR hv0 rfl rfl) rfl ?_
            refine SatL.pu (RunV.lss rfl rfl) rfl ?_
            refine SatL.nil (SatE.thenC ?_)
            refine SatC.cond rfl (fun h6 => ?_) (fun h6 => ?_)
            · (try simp only [cx, ne_eq] at h6)
              try (exfalso; (first | omega | exact h6 trivial | contradiction); done)
              all_goals
              refine SatC.skip (SatE.thenC ?_)
              refine SatC.seq ?_
              refine SatC.block ?_
              refine SatC.seq ?_
              refine SatC.seq ?_
              obtain ⟨y, hy⟩ := get_some l i (by omega)
              rw [drop_at hy] at hacc
              refine SatC.region ?_
              refine SatL.pu (RunV.move rfl) rfl ?_
              refine SatL.pu (RunV.not rfl) rfl ?_
              refine SatL.pu (RunV.move rfl) rfl ?_
              refine SatL.guard rfl rfl rfl (fun h7 => ?_) (fun h7 => ?_)
              · (try simp only [cx, ne_eq] at h7)
                try (exfalso; (first | omega | exact h7 trivial | contradiction); done)
                all_goals
                refine SatL.pu (RunV.move rfl) rfl ?_
                refine SatL.guard_y rfl rfl ?_
                first | refine SatL.pu (RunV.nil_ptr rfl) rfl ?_ | refine SatL.pu (RunV.nil_func rfl) rfl ?_ | refine SatL.pu (RunV.nil_yield rfl) rfl ?_
                refine SatL.guard_y rfl rfl ?_
                first | refine SatL.pu (RunV.fieldAddrL rfl rfl rfl) rfl ?_ | refine SatL.pu (RunV.fieldAddr rfl rfl rfl) rfl ?_
                refine SatL.guard_y rfl rfl ?_
                refine SatL.pu (RunV.load1 hS rfl rfl (by repeat constructor) rfl) rfl ?_
                refine SatL.guard_y rfl rfl ?_
                refine SatL.pu (RunV.move rfl) rfl ?_
                refine SatL.guard_y rfl rfl ?_
                refine SatL.pu (RunV.indexR hv0 rfl rfl rfl (by omega) (by omega) rfl) rfl ?_
                refine SatL.guard_y rfl rfl ?_
                first | refine SatL.pu (RunV.fieldAddrL rfl rfl rfl) rfl ?_ | refine SatL.pu (RunV.fieldAddr rfl rfl rfl) rfl ?_
                refine SatL.guard_y rfl rfl ?_
                refine SatL.pu (RunV.loadR1f (hsl.rd hS (by repeat constructor)) rfl rfl (map_get hy) rfl) rfl ?_
                refine SatL.guard_y rfl rfl ?_
                refine SatL.pu (RunV.move rfl) rfl ?_
                refine SatL.guard_y rfl rfl ?_
                refine SatL.pu (RunV.gtr rfl rfl) rfl ?_
                refine SatL.pu (RunV.pick_t rfl rfl) rfl ?_
                refine SatL.nil (SatE.thenC ?_)
                refine SatC.weak (e' := [(0, _), (2, _), (6, _), (7, _), (10, _), (11, _), (12, _), (13, _), (68, _)]) (by repeat constructor) ?_
                refine SatC.cond rfl (fun h8 => ?_) (fun h8 => ?_)
                · (try simp only [cx, ne_eq] at h8)
                  try (exfalso; (first | omega | exact h8 trivial | contradiction); done)
                  all_goals
                  refine SatC.seq ?_
                  refine SatC.region ?_
                  refine SatL.pu (RunV.move rfl) rfl ?_
                  refine SatL.pu (RunV.loadN hS rfl rfl (by repeat constructor) (by repeat constructor)) rfl ?_
                  refine SatL.op rfl (OpW.buildSlice1 hS rfl rfl rfl rfl rfl (by repeat constructor) rfl rfl rfl ?_)
                  clear hS
                  intro b71 w8 _ hS
                  refine SatL.op rfl (OpW.append1 (by assumption) hS (by repeat constructor) rfl rfl (by repeat constructor) rfl rfl rfl rfl rfl rfl rfl rfl (by first | omega | (simp only [List.length_map]; omega) | (simp only [List.length_append, List.length_map, List.length_cons, List.length_nil]; omega)) rfl ?_)
                  clear hS
                  intro v72 B72 w9 hsl72 hS
                  refine SatL.pu (RunV.assign rfl) rfl ?_
                  refine SatL.nil (SatE.thenC ?_)
                  refine SatC.region ?_
                  refine SatL.pu (RunV.assign rfl) rfl ?_
                  refine SatL.nil (SatE.thenC ?_)
                  refine SatC.region ?_
                  refine SatL.pu (RunV.move rfl) rfl ?_
                  refine SatL.pu (RunV.move rfl) rfl ?_
                  first | refine SatL.pu (RunV.nil_ptr rfl) rfl ?_ | refine SatL.pu (RunV.nil_func rfl) rfl ?_ | refine SatL.pu (RunV.nil_yield rfl) rfl ?_
                  first | refine SatL.pu (RunV.fieldAddrL rfl rfl rfl) rfl ?_ | refine SatL.pu (RunV.fieldAddr rfl rfl rfl) rfl ?_
                  refine SatL.pu (RunV.load1 hS rfl rfl (by repeat constructor) rfl) rfl ?_
                  refine SatL.pu (RunV.move rfl) rfl ?_
                  refine SatL.pu (RunV.indexR hv0 rfl rfl rfl (by omega) (by omega) rfl) rfl ?_
                  refine SatL.pu (RunV.loadRNz (hsl.rd hS (by repeat constructor)) rfl rfl (map_get hy)) rfl ?_
                  refine SatL.op rfl (OpW.buildSlice1 hS rfl rfl rfl rfl rfl (by repeat constructor) rfl rfl rfl ?_)
                  clear hS
                  intro b81 w10 _ hS
                  refine SatL.op rfl (OpW.append1 (by assumption) hS (by repeat constructor) rfl rfl (by repeat constructor) rfl rfl rfl rfl rfl rfl rfl rfl (by first | omega | (simp only [List.length_map]; omega) | (simp only [List.length_append, List.length_map, List.length_cons, List.length_nil]; omega)) rfl ?_)
                  clear hS
                  intro v82 B82 w11 hsl82 hS
                  refine SatL.pu (RunV.assign rfl) rfl ?_
                  refine SatL.nil (SatE.blk_normal (SatE.thenC ?_))
                  refine SatC.weak (e' := [(0, _), (2, _), (6, _), (7, _), (10, _), (11, _), (12, _), (13, _)]) (by repeat constructor) ?_
                  refine SatC.region ?_
                  refine SatL.pu (RunV.move rfl) rfl ?_
                  refine SatL.pu (RunV.add rfl rfl (by first | exact wrapI64 (by omega) | rfl)) rfl ?_
                  refine SatL.pu (RunV.assign rfl) rfl ?_
                  refine SatL.nil ?_
                  first
                  | (refine SatE.again (i + 1, acc ++ [⟨ix, nd, ix, ix⟩] ++ [y], v82, B82, true) ⟨by omega, by rw [List.map_append, List.map_append]; exact hsl82, ?_, by simp only [List.length_append, List.length_cons, List.length_nil]; omega, hS.sel (by repeat constructor)⟩ (by dsimp only; omega) (by repeat constructor)
                     have el : laid = false := by assumption
                     subst el
                     rw [insS_gt (by assumption)] at hacc; simpa using hacc)
                  | (refine SatE.again (i + 1, acc ++ [y], v82, B82, laid) ⟨by omega, by rw [List.map_append]; exact hsl82, ?_, by simp only [List.length_append, List.length_cons, List.length_nil]; omega, hS.sel (by repeat constructor)⟩ (by dsimp only; omega) (by repeat constructor)
                     rw [insS_lt (by first | exact .inl (by assumption) | exact .inr (by dsimp only; omega))] at hacc; simpa using hacc)
                · (try simp only [cx, ne_eq] at h8)
                  try (exfalso; (first | omega | exact h8 trivial | contradiction); done)
                  all_goals
                  refine SatC.skip (SatE.thenC ?_)
                  refine SatC.region ?_
                  refine SatL.pu (RunV.move rfl) rfl ?_
                  refine SatL.pu (RunV.move rfl) rfl ?_
                  first | refine SatL.pu (RunV.nil_ptr rfl) rfl ?_ | refine SatL.pu (RunV.nil_func rfl) rfl ?_ | refine SatL.pu (RunV.nil_yield rfl) rfl ?_
                  first | refine SatL.pu (RunV.fieldAddrL rfl rfl rfl) rfl ?_ | refine SatL.pu (RunV.fieldAddr rfl rfl rfl) rfl ?_
                  refine SatL.pu (RunV.load1 hS rfl rfl (by repeat constructor) rfl) rfl ?_
                  refine SatL.pu (RunV.move rfl) rfl ?_
                  refine SatL.pu (RunV.indexR hv0 rfl rfl rfl (by omega) (by omega) rfl) rfl ?_
                  refine SatL.pu (RunV.loadRNz (hsl.rd hS (by repeat constructor)) rfl rfl (map_get hy)) rfl ?_
                  refine SatL.op rfl (OpW.buildSlice1 hS rfl rfl rfl rfl rfl (by repeat constructor) rfl rfl rfl ?_)
                  clear hS
                  intro b81 w8 _ hS
                  refine SatL.op rfl (OpW.append1 (by assumption) hS (by repeat constructor) rfl rfl (by repeat constructor) rfl rfl rfl rfl rfl rfl rfl rfl (by first | omega | (simp only [List.length_map]; omega) | (simp only [List.length_append, List.length_map, List.length_cons, List.length_nil]; omega)) rfl ?_)
                  clear hS
                  intro v82 B82 w9 hsl82 hS
                  refine SatL.pu (RunV.assign rfl) rfl ?_
                  refine SatL.nil (SatE.blk_normal (SatE.thenC ?_))
                  refine SatC.region ?_
                  refine SatL.pu (RunV.move rfl) rfl ?_
                  refine SatL.pu (RunV.add rfl rfl (by first | exact wrapI64 (by omega) | rfl)) rfl ?_
                  refine SatL.pu (RunV.assign rfl) rfl ?_
                  refine SatL.nil ?_
                  first
                  | (refine SatE.again (i + 1, acc ++ [⟨ix, nd, ix, ix⟩] ++ [y], v82, B82, true) ⟨by omega, by rw [List.map_append, List.map_append]; exact hsl82, ?_, by simp only [List.length_append, List.length_cons, List.length_nil]; omega, hS.sel (by repeat constructor)⟩ (by dsimp only; omega) (by repeat constructor)
                     have el : laid = false := by assumption
                     subst el
                     rw [insS_gt (by assumption)] at hacc; simpa using hacc)
                  | (refine SatE.again (i + 1, acc ++ [y], v82, B82, laid) ⟨by omega, by rw [List.map_append]; exact hsl82, ?_, by simp only [List.length_append, List.length_cons, List.length_nil]; omega, hS.sel (by repeat constructor)⟩ (by dsimp only; omega) (by repeat constructor)
                     rw [insS_lt (by first | exact .inl (by assumption) | exact .inr (by dsimp only; omega))] at hacc; simpa using hacc)
              · (try simp only [cx, ne_eq] at h7)
                try (exfalso; (first | omega | exact h7 trivial | contradiction); done)
                all_goals
                refine SatL.guard_n rfl rfl rfl rfl ?_
                refine SatL.guard_n rfl rfl rfl rfl ?_
                refine SatL.guard_n rfl rfl rfl rfl ?_
                refine SatL.guard_n rfl rfl rfl rfl ?_
                refine SatL.guard_n rfl rfl rfl rfl ?_
                refine SatL.guard_n rfl rfl rfl rfl ?_
                refine SatL.guard_n rfl rfl rfl rfl ?_
                refine SatL.guard_n rfl rfl rfl rfl ?_
                refine SatL.guard_n rfl rfl rfl rfl ?_
                refine SatL.pu (RunV.pick_f rfl rfl) rfl ?_
                refine SatL.nil (SatE.thenC ?_)
                refine SatC.weak (e' := [(0, _), (2, _), (6, _), (7, _), (10, _), (11, _), (12, _), (13, _), (68, _)]) (by repeat constructor) ?_
                refine SatC.cond_f rfl ?_
                refine SatC.skip (SatE.thenC ?_)
                refine SatC.region ?_
                refine SatL.pu (RunV.move rfl) rfl ?_
                refine SatL.pu (RunV.move rfl) rfl ?_
                first | refine SatL.pu (RunV.nil_ptr rfl) rfl ?_ | refine SatL.pu (RunV.nil_func rfl) rfl ?_ | refine SatL.pu (RunV.nil_yield rfl) rfl ?_
                first | refine SatL.pu (RunV.fieldAddrL rfl rfl rfl) rfl ?_ | refine SatL.pu (RunV.fieldAddr rfl rfl rfl) rfl ?_
                refine SatL.pu (RunV.load1 hS rfl rfl (by repeat constructor) rfl) rfl ?_
                refine SatL.pu (RunV.move rfl) rfl ?_
                refine SatL.pu (RunV.indexR hv0 rfl rfl rfl (by omega) (by omega) rfl) rfl ?_
                refine SatL.pu (RunV.loadRNz (hsl.rd hS (by repeat constructor)) rfl rfl (map_get hy)) rfl ?_
                refine SatL.op rfl (OpW.buildSlice1 hS rfl rfl rfl rfl rfl (by repeat constructor) rfl rfl rfl ?_)
                clear hS
                intro b81 w8 _ hS
                refine SatL.op rfl (OpW.append1 (by assumption) hS (by repeat constructor) rfl rfl (by repeat constructor) rfl rfl rfl rfl rfl rfl rfl rfl (by first | omega | (simp only [List.length_map]; omega) | (simp only [List.length_append, List.length_map, List.length_cons, List.length_nil]; omega)) rfl ?_)
                clear hS
                intro v82 B82 w9 hsl82 hS
                refine SatL.pu (RunV.assign rfl) rfl ?_
                refine SatL.nil (SatE.blk_normal (SatE.thenC ?_))
                refine SatC.region ?_
                refine SatL.pu (RunV.move rfl) rfl ?_
                refine SatL.pu (RunV.add rfl rfl (by first | exact wrapI64 (by omega) | rfl)) rfl ?_
                refine SatL.pu (RunV.assign rfl) rfl ?_
                refine SatL.nil ?_
                first
                | (refine SatE.again (i + 1, acc ++ [⟨ix, nd, ix, ix⟩] ++ [y], v82, B82, true) ⟨by omega, by rw [List.map_append, List.map_append]; exact hsl82, ?_, by simp only [List.length_append, List.length_cons, List.length_nil]; omega, hS.sel (by repeat constructor)⟩ (by dsimp only; omega) (by repeat constructor)
                   have el : laid = false := by assumption
                   subst el
                   rw [insS_gt (by assumption)] at hacc; simpa using hacc)
                | (refine SatE.again (i + 1, acc ++ [y], v82, B82, laid) ⟨by omega, by rw [List.map_append]; exact hsl82, ?_, by simp only [List.length_append, List.length_cons, List.length_nil]; omega, hS.sel (by repeat constructor)⟩ (by dsimp only; omega) (by repeat constructor)
                   rw [insS_lt (by first | exact .inl (by assumption) | exact .inr (by dsimp only; omega))] at hacc; simpa using hacc)
            · (try simp only [cx, ne_eq] at h6)
              try (exfalso; (first | omega | exact h6 trivial | contradiction); done)
              all_goals
              refine SatC.exit (SatE.then_exit (SatE.then_exit (SatE.blk_exit (SatE.thenC ?_))))
              refine SatC.merge (G := Value × List (Nat × Obj)) (V := fun ⟨vz, Bz⟩ => [(11, vz)]) (Cn := [(0, _), (2, _), (6, _), (7, _)]) (I := fun ⟨vz, Bz⟩ w' => Sl 35 4 vz ((insS ⟨ix, nd, ix, ix⟩ false l).map sc) Bz ∧ St w X (Bz ++ ((b10, C 35 (sc ⟨ix, nd, ix, ix⟩)) :: (b, C 53 (rt most v last)) :: B)) w') (by repeat constructor) ?_ ?_
              · skip
                refine SatC.seq ?_
                rw [List.drop_of_length_le (by omega)] at hacc
                refine SatC.region ?_
                refine SatL.pu (RunV.move rfl) rfl ?_
                refine SatL.pu (RunV.not rfl) rfl ?_
                refine SatL.nil (SatE.thenC ?_)
                refine SatC.cond rfl (fun h7 => ?_) (fun h7 => ?_)
                · (try simp only [cx, ne_eq] at h7)
                  try (exfalso; (first | omega | exact h7 trivial | contradiction); done)
                  all_goals
                  refine SatC.region ?_
                  refine SatL.pu (RunV.move rfl) rfl ?_
                  refine SatL.pu (RunV.loadN hS rfl rfl (by repeat constructor) (by repeat constructor)) rfl ?_
                  refine SatL.op rfl (OpW.buildSlice1 hS rfl rfl rfl rfl rfl (by repeat constructor) rfl rfl rfl ?_)
                  clear hS
                  intro b87 w8 _ hS
                  refine SatL.op rfl (OpW.append1 (by assumption) hS (by repeat constructor) rfl rfl (by repeat constructor) rfl rfl rfl rfl rfl rfl rfl rfl (by first | omega | (simp only [List.length_map]; omega) | (simp only [List.length_append, List.length_map, List.length_cons, List.length_nil]; omega)) rfl ?_)
                  clear hS
                  intro v88 B88 w9 hsl88 hS
                  refine SatL.pu (RunV.assign rfl) rfl ?_
                  refine SatL.nil ?_
                  refine SatE.met ((v88, B88)) ?_ (by repeat constructor)
                  refine ⟨?_, hS.sel (by repeat constructor)⟩
                  rw [← hacc, show laid = false from by assumption, show insS ⟨ix, nd, ix, ix⟩ false [] = [⟨ix, nd, ix, ix⟩] from rfl, List.map_append]
                  exact hsl88
                · (try simp only [cx, ne_eq] at h7)
                  try (exfalso; (first | omega | exact h7 trivial | contradiction); done)
                  all_goals
                  refine SatC.skip ?_
                  refine SatE.met ((va, Ba)) ?_ (by repeat constructor)
                  refine ⟨?_, hS.sel (by repeat constructor)⟩
                  rw [← hacc, show laid = true from by assumption, show insS ⟨ix, nd, ix, ix⟩ true [] = [] from rfl, List.append_nil]
                  exact hsa
              · clear hS
                rintro ⟨vz, Bz⟩ w68 ⟨hsz, hS⟩
                refine SatC.weak (e' := [(0, _), (2, _), (6, _), (7, _), (11, _)]) (by repeat constructor) ?_
                refine SatC.seq ?_
                refine SatC.region ?_
                refine SatL.pu (RunV.move rfl) rfl ?_
                refine SatL.pu (RunV.move rfl) rfl ?_
                first | refine SatL.pu (RunV.nil_ptr rfl) rfl ?_ | refine SatL.pu (RunV.nil_func rfl) rfl ?_ | refine SatL.pu (RunV.nil_yield rfl) rfl ?_
                first | refine SatL.pu (RunV.fieldAddrL rfl rfl rfl) rfl ?_ | refine SatL.pu (RunV.fieldAddr rfl rfl rfl) rfl ?_
                refine SatL.op rfl (OpW.storeSv hS rfl rfl (by assumption) (by repeat constructor) (by repeat constructor) rfl ?_)
                clear hS
                intro w69 hS
                refine SatL.nil (SatE.thenC ?_)
                refine SatC.seq ?_
                refine SatC.region ?_
                refine SatL.pu (RunV.move rfl) rfl ?_
                refine SatL.pu (RunV.move rfl) rfl ?_
                refine SatL.op rfl (OpW.enter rfl rfl rfl (rfl) (raise_ref ix (hS.ownT (A := (b, C 53 (rt most vz last)) :: Bz) (by repeat constructor))) ?_)
                rintro r70 w70 ⟨rfl, h⟩
                replace hS := hS.callT (A := (b, C 53 (rt most vz last)) :: Bz) (by repeat constructor) h
                refine SatL.nil (SatE.thenC ?_)
                refine SatC.seq ?_
                refine SatC.region ?_
                refine SatL.pu (RunV.move rfl) rfl ?_
                refine SatL.pu (RunV.assign rfl) rfl ?_
                refine SatL.pu (RunV.assign rfl) rfl ?_
                refine SatL.nil (SatE.thenC ?_)
                refine SatC.ret ?_
                refine SatE.ret2 rfl rfl rfl ?_
                first
                | exact ⟨rfl, vz, Bz, hsz, hS.sel (by repeat constructor)⟩
                | (rw [if_pos (by omega)] at hA; subst hA; exact ⟨rfl, v, B, hsl, hS.sel (by repeat constructor)⟩)
                | (rw [if_neg (by omega), if_pos (by assumption)] at hA; subst hA; exact ⟨rfl, v, B, hsl, hS.sel (by repeat constructor)⟩)
                | (rw [if_neg (by omega), if_neg (by simp_all), if_pos (by omega)] at hA; subst hA; exact ⟨rfl, v, B, hsl, hS.sel (by repeat constructor)⟩)
    · (try simp only [cx, ne_eq] at h2)
      try (exfalso; (first | omega | exact h2 trivial | contradiction); done)
      all_goals
      refine SatL.guard_n rfl rfl rfl rfl ?_
      refine SatL.pu (RunV.pick_t rfl rfl) rfl ?_
      refine SatL.nil (SatE.thenC ?_)
      refine SatC.cond_t rfl ?_
      refine SatC.seq ?_
      refine SatC.weak (e' := [(6, _), (7, _)]) (by repeat constructor) ?_
      refine SatC.region ?_
      refine SatL.pu (RunV.assign rfl) rfl ?_
      refine SatL.pu (RunV.assign rfl) rfl ?_
      refine SatL.nil (SatE.thenC ?_)
      refine SatC.ret (SatE.then_ret ?_)
      refine SatE.ret2 rfl rfl rfl ?_
      first
      | exact ⟨rfl, vz, Bz, hsz, hS.sel (by repeat constructor)⟩
      | (rw [if_pos (by omega)] at hA; subst hA; exact ⟨rfl, v, B, hsl, hS.sel (by repeat constructor)⟩)
      | (rw [if_neg (by omega), if_pos (by assumption)] at hA; subst hA; exact ⟨rfl, v, B, hsl, hS.sel (by repeat constructor)⟩)
      | (rw [if_neg (by omega), if_neg (by simp_all), if_pos (by omega)] at hA; subst hA; exact ⟨rfl, v, B, hsl, hS.sel (by repeat constructor)⟩)
  · (try simp only [cx, ne_eq] at h1)
    try (exfalso; (first | omega | exact h1 trivial | contradiction); done)
    all_goals
    refine SatL.guard_n rfl rfl rfl rfl ?_
    refine SatL.pu (RunV.pick_t rfl rfl) rfl ?_
    refine SatL.pu (RunV.move rfl) rfl ?_
    refine SatL.guard_n rfl rfl rfl rfl ?_
    refine SatL.guard_n rfl rfl rfl rfl ?_
    refine SatL.pu (RunV.pick_t rfl rfl) rfl ?_
    refine SatL.nil (SatE.thenC ?_)
    refine SatC.cond_t rfl ?_
    refine SatC.seq ?_
    refine SatC.weak (e' := [(6, _), (7, _)]) (by repeat constructor) ?_
    refine SatC.region ?_
    refine SatL.pu (RunV.assign rfl) rfl ?_
    refine SatL.pu (RunV.assign rfl) rfl ?_
    refine SatL.nil (SatE.thenC ?_)
    refine SatC.ret (SatE.then_ret ?_)
    refine SatE.ret2 rfl rfl rfl ?_
    first
    | exact ⟨rfl, vz, Bz, hsz, hS.sel (by repeat constructor)⟩
    | (rw [if_pos (by omega)] at hA; subst hA; exact ⟨rfl, v, B, hsl, hS.sel (by repeat constructor)⟩)
    | (rw [if_neg (by omega), if_pos (by assumption)] at hA; subst hA; exact ⟨rfl, v, B, hsl, hS.sel (by repeat constructor)⟩)
    | (rw [if_neg (by omega), if_neg (by simp_all), if_pos (by omega)] at hA; subst hA; exact ⟨rfl, v, B, hsl, hS.sel (by repeat constructor)⟩)
theorem delS_next {id : Int} {i : Nat} {y : Ses} (hy : l[i]? = some y) : delS id (l.take (i + 1)) = delS id (l.take i) ++ (if y.id = id then [] else [y]) := by
  rw [List.take_add_one, hy, Option.toList_some]
  unfold delS
  rw [List.filter_append]
  congr 1
  by_cases e : y.id = id
  · rw [if_pos e, List.filter_cons_of_neg (by simpa using e)]; rfl
  · rw [if_neg e, List.filter_cons_of_pos (by simpa using e)]; rfl
theorem close_ref (id ix : Int) (hown : Own w ((b, C 53 (rt most v last)) :: B)) (hsl : Sl 35 4 v (l.map sc) B) (hl : l.length ≤ 100) :
    Ret Try.prog 18 #[.pointer (some ⟨b, 0, none⟩), .int .u64 id, .int .u64 ix] w fun u w' => u = .int .i64 (closeS last l id ix).1 ∧
      ∃ v' B', Sl 35 4 v' ((closeS last l id ix).2.1.map sc) B' ∧ St w (b :: B.map Prod.fst) ((b, C 53 (rt most v' (closeS last l id ix).2.2)) :: B') w' := by
  have hS := St.init hown
  obtain ⟨c0, hv0⟩ := hsl.slv
  simp only [List.length_map] at hv0
  rw [List.map_cons] at hS
  generalize hX : b :: B.map Prod.fst = X at hS ⊢
  refine Ret.enter Try.func18 Try.ntmps18 rfl rfl ?_
  simp only [argEnv, Nat.reduceAdd]
  generalize hA : closeS last l id ix = A
  unfold closeS at hA
  generalize hg : sget l id = F at hA
  refine SatC.seq ?_
  refine SatC.region ?_
  refine SatL.pu (RunV.assign rfl) rfl ?_
  refine SatL.nil (SatE.thenC ?_)
  refine SatC.seq ?_
  refine SatC.region ?_
  refine SatL.pu (RunV.move rfl) rfl ?_
  refine SatL.pu (RunV.move rfl) rfl ?_
  refine SatL.op rfl (OpW.enter rfl rfl rfl (rfl) (get_ref id (hS.ownT (A := (b, C 53 (rt most v last)) :: B) (by repeat constructor)) hsl (by omega)) ?_)
  rintro r1 w1 ⟨rfl, h⟩
  replace hS := St.callN hS h
  rw [hg]
  refine SatL.pu (RunV.move rfl) rfl ?_
  refine SatL.pu (RunV.extract rfl rfl) rfl ?_
  refine SatL.pu (RunV.extract rfl rfl) rfl ?_
  refine SatL.op rfl (OpW.alloc hS rfl rfl (by repeat constructor) ?_)
  clear hS
  intro b7 w2 _ hS
  refine SatL.op rfl (OpW.store hS rfl rfl (by repeat constructor) (by repeat constructor) (by repeat constructor) rfl rfl ?_)
  clear hS
  intro w3 hS
  refine SatL.pu (RunV.assign rfl) rfl ?_
  refine SatL.nil (SatE.thenC ?_)
  refine SatC.seq ?_
  refine SatC.seq ?_
  refine SatC.region ?_
  refine SatL.pu (RunV.move rfl) rfl ?_
  refine SatL.pu (RunV.not rfl) rfl ?_
  refine SatL.nil (SatE.thenC ?_)
  refine SatC.cond rfl (fun h1 => ?_) (fun h1 => ?_)
  · (try simp only [cx, ne_eq] at h1)
    try (exfalso; (first | omega | exact h1 trivial | contradiction); done)
    all_goals
    refine SatC.seq ?_
    refine SatC.weak (e' := [(6, _)]) (by repeat constructor) ?_
    refine SatC.region ?_
    refine SatL.pu (RunV.assign rfl) rfl ?_
    refine SatL.nil (SatE.thenC ?_)
    refine SatC.ret (SatE.then_ret ?_)
    refine SatE.ret1 rfl rfl ?_
    first
    | (rw [if_pos (by simp_all)] at hA
       subst hA
       exact ⟨rfl, va, Ba, hsa, hS.sel (by repeat constructor)⟩)
    | (rw [if_neg (by simp_all)] at hA
       subst hA
       exact ⟨rfl, v, B, hsl, hS.sel (by repeat constructor)⟩)
  · (try simp only [cx, ne_eq] at h1)
    try (exfalso; (first | omega | exact h1 trivial | contradiction); done)
    all_goals
    refine SatC.skip (SatE.thenC ?_)
    refine SatC.seq ?_
    refine SatC.region ?_
    refine SatL.pu (RunV.assign rfl) rfl ?_
    refine SatL.nil (SatE.thenC ?_)
    refine SatC.seq ?_
    refine SatC.seq ?_
    refine SatC.region ?_
    refine SatL.pu (RunV.assign rfl) rfl ?_
    refine SatL.nil (SatE.thenC ?_)
    refine SatC.block ?_
    refine SatC.loopK (G := Nat × Value × List (Nat × Obj)) (V := fun ⟨i, va, Ba⟩ => [(9, va), (10, .int .i64 (i : Int))]) (Cn := [(0, _), (1, _), (2, _), (6, _)]) (I := fun ⟨i, va, Ba⟩ w' => i ≤ l.length ∧ Sl 35 4 va ((delS id (l.take i)).map sc) Ba ∧ St w X (Ba ++ ((b7, C 35 (sc F.1)) :: (b, C 53 (rt most v last)) :: B)) w') (μ := fun ⟨i, va, Ba⟩ => l.length - i) (0, .slice none 0 0, []) ?_ (by repeat constructor) ?_
    · exact ⟨Nat.zero_le _, .nil, hS⟩
    clear hS
    rintro ⟨i, va, Ba⟩ w4 ⟨hi, hsa, hS⟩
    refine SatC.weak (e' := [(0, _), (1, _), (2, _), (6, _), (9, _), (10, _)]) (by repeat constructor) ?_
    refine SatC.seq ?_
    refine SatC.seq ?_
    refine SatC.region ?_
    refine SatL.pu (RunV.move rfl) rfl ?_
    refine SatL.pu (RunV.move rfl) rfl ?_
    first | refine SatL.pu (RunV.nil_ptr rfl) rfl ?_ | refine SatL.pu (RunV.nil_func rfl) rfl ?_ | refine SatL.pu (RunV.nil_yield rfl) rfl ?_
    first | refine SatL.pu (RunV.fieldAddrL rfl rfl rfl) rfl ?_ | refine SatL.pu (RunV.fieldAddr rfl rfl rfl) rfl ?_
    refine SatL.pu (RunV.load1 hS rfl rfl (by repeat constructor) rfl) rfl ?_
    refine SatL.pu (RunV.lenR hv0 rfl rfl) rfl ?_
    refine SatL.pu (RunV.lss rfl rfl) rfl ?_
    refine SatL.nil (SatE.thenC ?_)
    refine SatC.cond rfl (fun h2 => ?_) (fun h2 => ?_)
    · (try simp only [cx, ne_eq] at h2)
      try (exfalso; (first | omega | exact h2 trivial | contradiction); done)
      all_goals
      refine SatC.skip (SatE.thenC ?_)
      refine SatC.seq ?_
      refine SatC.block ?_
      refine SatC.seq ?_
      obtain ⟨y, hy⟩ := get_some l i (by omega)
      have hln : (delS id (l.take i)).length ≤ l.length := Nat.le_trans (List.length_filter_le ..) (by rw [List.length_take]; omega)
      refine SatC.region ?_
      refine SatL.pu (RunV.move rfl) rfl ?_
      first | refine SatL.pu (RunV.nil_ptr rfl) rfl ?_ | refine SatL.pu (RunV.nil_func rfl) rfl ?_ | refine SatL.pu (RunV.nil_yield rfl) rfl ?_
      first | refine SatL.pu (RunV.fieldAddrL rfl rfl rfl) rfl ?_ | refine SatL.pu (RunV.fieldAddr rfl rfl rfl) rfl ?_
      refine SatL.pu (RunV.load1 hS rfl rfl (by repeat constructor) rfl) rfl ?_
      refine SatL.pu (RunV.move rfl) rfl ?_
      refine SatL.pu (RunV.indexR hv0 rfl rfl rfl (by omega) (by omega) rfl) rfl ?_
      first | refine SatL.pu (RunV.fieldAddrL rfl rfl rfl) rfl ?_ | refine SatL.pu (RunV.fieldAddr rfl rfl rfl) rfl ?_
      refine SatL.pu (RunV.loadR1f (hsl.rd hS (by repeat constructor)) rfl rfl (map_get hy) rfl) rfl ?_
      refine SatL.pu (RunV.move rfl) rfl ?_
      refine SatL.pu (RunV.neq rfl rfl) rfl ?_
      refine SatL.nil (SatE.thenC ?_)
      refine SatC.weak (e' := [(0, _), (1, _), (2, _), (6, _), (9, _), (10, _), (37, _)]) (by repeat constructor) ?_
      refine SatC.cond rfl (fun h3 => ?_) (fun h3 => ?_)
      · (try simp only [cx, ne_eq] at h3)
        try (exfalso; (first | omega | exact h3 trivial | contradiction); done)
        all_goals
        refine SatC.region ?_
        refine SatL.pu (RunV.move rfl) rfl ?_
        refine SatL.pu (RunV.move rfl) rfl ?_
        first | refine SatL.pu (RunV.nil_ptr rfl) rfl ?_ | refine SatL.pu (RunV.nil_func rfl) rfl ?_ | refine SatL.pu (RunV.nil_yield rfl) rfl ?_
        first | refine SatL.pu (RunV.fieldAddrL rfl rfl rfl) rfl ?_ | refine SatL.pu (RunV.fieldAddr rfl rfl rfl) rfl ?_
        refine SatL.pu (RunV.load1 hS rfl rfl (by repeat constructor) rfl) rfl ?_
        refine SatL.pu (RunV.move rfl) rfl ?_
        refine SatL.pu (RunV.indexR hv0 rfl rfl rfl (by omega) (by omega) rfl) rfl ?_
        refine SatL.pu (RunV.loadRNz (hsl.rd hS (by repeat constructor)) rfl rfl (map_get hy)) rfl ?_
        refine SatL.op rfl (OpW.buildSlice1 hS rfl rfl rfl rfl rfl (by repeat constructor) rfl rfl rfl ?_)
        clear hS
        intro b46 w5 _ hS
        refine SatL.op rfl (OpW.append1 (by assumption) hS (by repeat constructor) rfl rfl (by repeat constructor) rfl rfl rfl rfl rfl rfl rfl rfl (by first | omega | (simp only [List.length_map]; omega) | (simp only [List.length_append, List.length_map, List.length_cons, List.length_nil]; omega)) rfl ?_)
        clear hS
        intro v47 B47 w6 hsl47 hS
        refine SatL.pu (RunV.assign rfl) rfl ?_
        refine SatL.nil (SatE.blk_normal (SatE.thenC ?_))
        refine SatC.region ?_
        refine SatL.pu (RunV.move rfl) rfl ?_
        refine SatL.pu (RunV.add rfl rfl (by first | exact wrapI64 (by omega) | rfl)) rfl ?_
        refine SatL.pu (RunV.assign rfl) rfl ?_
        refine SatL.nil ?_
        first
        | (refine SatE.again (i + 1, v47, B47) ⟨by omega, ?_, hS.sel (by repeat constructor)⟩ (by dsimp only; omega) (by repeat constructor)
           rw [delS_next hy, if_neg (by assumption), List.map_append]; exact hsl47)
        | (refine SatE.again (i + 1, va, Ba) ⟨by omega, ?_, hS.sel (by repeat constructor)⟩ (by dsimp only; omega) (by repeat constructor)
           rw [delS_next hy, if_pos (by assumption), List.append_nil]; exact hsa)
      · (try simp only [cx, ne_eq] at h3)
        try (exfalso; (first | omega | exact h3 trivial | contradiction); done)
        all_goals
        refine SatC.skip (SatE.blk_normal (SatE.thenC ?_))
        refine SatC.region ?_
        refine SatL.pu (RunV.move rfl) rfl ?_
        refine SatL.pu (RunV.add rfl rfl (by first | exact wrapI64 (by omega) | rfl)) rfl ?_
        refine SatL.pu (RunV.assign rfl) rfl ?_
        refine SatL.nil ?_
        first
        | (refine SatE.again (i + 1, v47, B47) ⟨by omega, ?_, hS.sel (by repeat constructor)⟩ (by dsimp only; omega) (by repeat constructor)
           rw [delS_next hy, if_neg (by assumption), List.map_append]; exact hsl47)
        | (refine SatE.again (i + 1, va, Ba) ⟨by omega, ?_, hS.sel (by repeat constructor)⟩ (by dsimp only; omega) (by repeat constructor)
           rw [delS_next hy, if_pos (by assumption), List.append_nil]; exact hsa)
    · (try simp only [cx, ne_eq] at h2)
      try (exfalso; (first | omega | exact h2 trivial | contradiction); done)
      all_goals
      refine SatC.exit (SatE.then_exit (SatE.then_exit (SatE.blk_exit (SatE.thenC ?_))))
      refine SatC.seq ?_
      rw [List.take_of_length_le (by omega)] at hsa
      refine SatC.region ?_
      refine SatL.pu (RunV.move rfl) rfl ?_
      refine SatL.pu (RunV.move rfl) rfl ?_
      first | refine SatL.pu (RunV.nil_ptr rfl) rfl ?_ | refine SatL.pu (RunV.nil_func rfl) rfl ?_ | refine SatL.pu (RunV.nil_yield rfl) rfl ?_
      first | refine SatL.pu (RunV.fieldAddrL rfl rfl rfl) rfl ?_ | refine SatL.pu (RunV.fieldAddr rfl rfl rfl) rfl ?_
      refine SatL.op rfl (OpW.storeSv hS rfl rfl (by assumption) (by repeat constructor) (by repeat constructor) rfl ?_)
      clear hS
      intro w5 hS
      refine SatL.nil (SatE.thenC ?_)
      refine SatC.seq ?_
      refine SatC.weak (e' := [(0, _), (2, _), (6, _)]) (by repeat constructor) ?_
      refine SatC.region ?_
      refine SatL.pu (RunV.move rfl) rfl ?_
      refine SatL.pu (RunV.move rfl) rfl ?_
      refine SatL.op rfl (OpW.enter rfl rfl rfl (rfl) (raise_ref ix (hS.ownT (A := (b, C 53 (rt most va last)) :: Ba) (by repeat constructor))) ?_)
      rintro r6 w6 ⟨rfl, h⟩
      replace hS := hS.callT (A := (b, C 53 (rt most va last)) :: Ba) (by repeat constructor) h
      refine SatL.nil (SatE.thenC ?_)
      refine SatC.seq ?_
      refine SatC.region ?_
      refine SatL.pu (RunV.assign rfl) rfl ?_
      refine SatL.nil (SatE.thenC ?_)
      refine SatC.ret ?_
      refine SatE.ret1 rfl rfl ?_
      first
      | (rw [if_pos (by simp_all)] at hA
         subst hA
         exact ⟨rfl, va, Ba, hsa, hS.sel (by repeat constructor)⟩)
      | (rw [if_neg (by simp_all)] at hA
         subst hA
         exact ⟨rfl, v, B, hsl, hS.sel (by repeat constructor)⟩)
end
end Go.Proofs.Ythbfigkfelfhcaa
