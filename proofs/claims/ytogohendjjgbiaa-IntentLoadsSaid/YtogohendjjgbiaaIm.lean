/- The document's intentions, walked. -/
import Derived.Test.YtogohendjjgbiaaW
import Derived.Test.YtogohendjjgbiaaK29
set_option linter.unusedSimpArgs false
set_option linter.unusedVariables false
set_option maxRecDepth 100000
set_option maxHeartbeats 4000000
namespace Go.Proofs.Ytogohendjjgbiaa
open Go.RowKit
theorem run_neq28 (a b : List UInt8) (p : Bool) (m x : Int) (a' b' : List UInt8) (p' : Bool) (m' x' : Int) (w : World) : (binOp .neq 28 (.agg #[str a, str b, .bool p, .int .u64 m, .int .u64 x]) (.agg #[str a', str b', .bool p', .int .u64 m', .int .u64 x'])).run Try.prog w = .ok (.bool (decide (Itn.mk a b p m x ≠ ⟨a', b', p', m', x'⟩))) w := by
  by_cases h1 : a = a' <;> by_cases h2 : b = b' <;> by_cases h3 : p = p' <;> by_cases h4 : m = m' <;> by_cases h5 : x = x' <;> simp [go_sem, h1, h2, h3, h4, h5, str, beqL]
theorem guard28 (op : BinOp) (x y : Operand) (a b : List UInt8) (p : Bool) (m z : Int) (a' b' : List UInt8) (p' : Bool) (m' z' : Int) (w : World) : (eqGuard op 28 x y (.agg #[str a, str b, .bool p, .int .u64 m, .int .u64 z]) (.agg #[str a', str b', .bool p', .int .u64 m', .int .u64 z'])).run Try.prog w = .ok () w := by
  unfold eqGuard
  cases op <;> simp [go_sem]
theorem same_any (v1 v2 : Value) (ys zs : List Itn) (w : World) (hr1 : RdRow w v1 5 (ys.map ic)) (hr2 : RdRow w v2 5 (zs.map ic)) :
    Ret Try.prog 21 #[v1, v2] w fun v' w' => v' = .bool (decide (ys = zs)) ∧ St w [] [] w' := by
  have hS := St.init0 w
  obtain ⟨b1, o1, c1, hv1, hmax1, hc1, hlt1⟩ := hr1.open
  obtain ⟨b2, o2, c2, hv2, hmax2, hc2, hlt2⟩ := hr2.open
  simp only [List.length_map] at hv1 hmax1 hlt1 hv2 hmax2 hlt2
  refine Ret.enter Try.func21 Try.ntmps21 rfl rfl ?_
  simp only [argEnv, Nat.reduceAdd]
  refine SatC.seq ?_
  refine SatC.region ?_
  refine SatL.pu (RunV.assign rfl) rfl ?_
  refine SatL.nil (SatE.thenC ?_)
  refine SatC.seq ?_
  refine SatC.seq ?_
  refine SatC.region ?_
  refine SatL.pu (RunV.move rfl) rfl ?_
  refine SatL.pu (RunV.lenR hv1 rfl rfl) rfl ?_
  refine SatL.pu (RunV.move rfl) rfl ?_
  refine SatL.pu (RunV.lenR hv2 rfl rfl) rfl ?_
  refine SatL.pu (RunV.neq rfl rfl) rfl ?_
  refine SatL.nil (SatE.thenC ?_)
  refine SatC.cond rfl (fun h1 => ?_) (fun h1 => ?_)
  · (try simp only [cx, ne_eq] at h1)
    try (exfalso; (first | omega | exact h1 trivial | contradiction | (first | omega | exact h1 rfl | (simp at h1; done))); done)
    all_goals
    refine SatC.seq ?_
    refine SatC.region ?_
    refine SatL.pu (RunV.assign rfl) rfl ?_
    refine SatL.nil (SatE.thenC ?_)
    refine SatC.ret (SatE.then_ret ?_)
    refine SatE.ret1 rfl rfl ?_
    refine ⟨congrArg Value.bool ?_, hS⟩
    rw [decide_eq_false (fun e => h1 (by rw [e]))]
  · (try simp only [cx, ne_eq] at h1)
    try (exfalso; (first | omega | exact h1 trivial | contradiction | (first | omega | exact h1 rfl | (simp at h1; done))); done)
    all_goals
    refine SatC.skip (SatE.thenC ?_)
    refine SatC.seq ?_
    refine SatC.seq ?_
    refine SatC.region ?_
    refine SatL.pu (RunV.assign rfl) rfl ?_
    refine SatL.nil (SatE.thenC ?_)
    refine SatC.block ?_
    refine SatC.loopK (G := Nat) (V := fun i => [(5, .int .i64 (i : Int))]) (Cn := [(0, _), (1, _), (4, _)]) (I := fun i w' => i ≤ ys.length ∧ ys.take i = zs.take i ∧ St w [] [] w') (μ := fun i => ys.length - i) 0 ?_ (by repeat constructor) ?_
    · exact ⟨Nat.zero_le _, rfl, hS⟩
    clear hS
    rintro i w1 ⟨hi, hf, hS⟩
    refine SatC.weak (e' := [(0, _), (1, _), (4, _), (5, _)]) (by repeat constructor) ?_
    refine SatC.seq ?_
    refine SatC.seq ?_
    refine SatC.region ?_
    refine SatL.pu (RunV.move rfl) rfl ?_
    refine SatL.pu (RunV.move rfl) rfl ?_
    refine SatL.pu (RunV.lenR hv1 rfl rfl) rfl ?_
    refine SatL.pu (RunV.lss rfl rfl) rfl ?_
    refine SatL.nil (SatE.thenC ?_)
    refine SatC.cond rfl (fun h2 => ?_) (fun h2 => ?_)
    · (try simp only [cx, ne_eq] at h2)
      try (exfalso; (first | omega | exact h2 trivial | contradiction | (first | omega | exact h2 rfl | (simp at h2; done))); done)
      all_goals
      refine SatC.skip (SatE.thenC ?_)
      refine SatC.seq ?_
      refine SatC.block ?_
      refine SatC.seq ?_
      obtain ⟨y, hy⟩ := get_some ys i (by omega)
      obtain ⟨z, hz⟩ := get_some zs i (by omega)
      refine SatC.drawnT 9 hS (hS) (by kernel_rfl) ?_
      clear hS
      intro w2 hh hS hD
      refine SatD.tk 0 rfl hD (fun _ hw => RunV.move rfl) ?_
      refine SatD.tk 1 rfl hD (fun _ hw => RunV.move rfl) ?_
      refine SatD.tk 2 rfl hD (fun _ hw => RunV.indexR hv1 rfl rfl rfl (by omega) (by omega) rfl) ?_
      refine SatD.tk 3 rfl hD (fun _ hw => RunV.loadRNz (hc1.st hw List.not_mem_nil) rfl rfl (map_get hy)) ?_
      refine SatD.tk 4 rfl hD (fun _ hw => RunV.move rfl) ?_
      refine SatD.tk 5 rfl hD (fun _ hw => RunV.move rfl) ?_
      refine SatD.tk 6 rfl hD (fun _ hw => RunV.indexR hv2 rfl rfl rfl (by omega) (by omega) rfl) ?_
      refine SatD.tk 7 rfl hD (fun _ hw => RunV.loadRNz (hc2.st hw List.not_mem_nil) rfl rfl (map_get hz)) ?_
      refine SatD.tk 8 rfl hD (fun _ hw => RunV.bin rfl rfl (guard28 _ _ _ _ _ _ _ _ _ _ _ _ _ _) (run_neq28 _ _ _ _ _ _ _ _ _ _ _)) ?_
      refine SatD.done 0 (by kernel_rfl) (SatE.thenC ?_)
      clear hD
      refine SatC.weak (e' := [(0, _), (1, _), (4, _), (5, _), (25, _)]) (by repeat constructor) ?_
      refine SatC.cond rfl (fun h3 => ?_) (fun h3 => ?_)
      · (try simp only [cx, ne_eq] at h3)
        try (exfalso; (first | omega | exact h3 trivial | contradiction | (first | omega | exact h3 rfl | (simp at h3; done))); done)
        all_goals
        refine SatC.seq ?_
        refine SatC.region ?_
        refine SatL.pu (RunV.assign rfl) rfl ?_
        refine SatL.nil (SatE.thenC ?_)
        refine SatC.ret (SatE.blk_ret (SatE.then_ret (SatE.then_ret (SatE.blk_ret (SatE.then_ret ?_)))))
        refine SatE.ret1 rfl rfl ?_
        refine ⟨congrArg Value.bool ?_, hS⟩
        rw [decide_eq_false]
        rintro rfl
        rw [hy] at hz
        obtain rfl := Option.some.inj hz
        exact h3 rfl
      · (try simp only [cx, ne_eq] at h3)
        try (exfalso; (first | omega | exact h3 trivial | contradiction | (first | omega | exact h3 rfl | (simp at h3; done))); done)
        all_goals
        refine SatC.skip (SatE.blk_normal (SatE.thenC ?_))
        refine SatC.region ?_
        refine SatL.pu (RunV.move rfl) rfl ?_
        refine SatL.pu (RunV.add rfl rfl (by first | exact wrapI64 (by omega) | rfl)) rfl ?_
        refine SatL.pu (RunV.assign rfl) rfl ?_
        refine SatL.nil ?_
        refine SatE.again (i + 1) ?_ (by first | omega | (dsimp only; omega)) (by repeat constructor)
        obtain rfl : y = z := by
          obtain ⟨a, b, c, d, e⟩ := y
          obtain ⟨a', b', c', d', e'⟩ := z
          simpa using h3
        exact ⟨by omega, by rw [List.take_add_one, List.take_add_one, hy, hz, hf], hS⟩
    · (try simp only [cx, ne_eq] at h2)
      try (exfalso; (first | omega | exact h2 trivial | contradiction | (first | omega | exact h2 rfl | (simp at h2; done))); done)
      all_goals
      refine SatC.exit (SatE.then_exit (SatE.then_exit (SatE.blk_exit (SatE.thenC ?_))))
      refine SatC.seq ?_
      refine SatC.region ?_
      refine SatL.pu (RunV.assign rfl) rfl ?_
      refine SatL.nil (SatE.thenC ?_)
      refine SatC.ret ?_
      refine SatE.ret1 rfl rfl ?_
      refine ⟨congrArg Value.bool ?_, hS⟩
      obtain rfl : i = ys.length := by omega
      rw [List.take_length, List.take_of_length_le (by omega)] at hf
      rw [decide_eq_true hf]
theorem rfor_any (v : Value) (l : List Itn) (d : List UInt8) (hl2 : l.length ≤ 1000) (w : World) (hr : RdRow w v 5 (l.map ic)) : Ret Try.prog 16 #[v, str d] w fun u w' => ∃ B', Sl 28 5 u ((forI d l).map ic) B' ∧ St w [] B' w' := by
  obtain ⟨b, o, c, hv0, hl, hrd, _⟩ := hr.open
  rw [List.length_map] at hv0 hl
  have hS := St.init0 w
  refine Ret.enter Try.func16 Try.ntmps16 rfl rfl ?_
  simp only [argEnv, Nat.reduceAdd]
  refine SatC.seq ?_
  refine SatC.region ?_
  refine SatL.pu (RunV.assign rfl) rfl ?_
  refine SatL.nil (SatE.thenC ?_)
  refine SatC.seq ?_
  refine SatC.region ?_
  refine SatL.pu (RunV.assign rfl) rfl ?_
  refine SatL.nil (SatE.thenC ?_)
  refine SatC.seq ?_
  refine SatC.seq ?_
  refine SatC.region ?_
  refine SatL.pu (RunV.assign rfl) rfl ?_
  refine SatL.nil (SatE.thenC ?_)
  refine SatC.block ?_
  refine SatC.loopK (G := Nat × Value × List (Nat × Obj)) (V := fun ⟨i, u, B3⟩ => [(6, .int .i64 (i : Int)), (5, u)]) (Cn := [(0, _), (1, _), (4, _)]) (I := fun ⟨i, u, B3⟩ w' => i ≤ l.length ∧ Sl 28 5 u ((forI d (l.take i)).map ic) B3 ∧ St w [] B3 w') (μ := fun ⟨i, u, B3⟩ => l.length - i) (0, .slice none 0 0, []) ?_ (by repeat constructor) ?_
  · exact ⟨by omega, .nil, hS⟩
  clear hS
  rintro ⟨i, u, B3⟩ w1 ⟨hi, hsl3, hS⟩
  refine SatC.weak (e' := [(0, _), (1, _), (4, _), (5, _), (6, _)]) (by repeat constructor) ?_
  refine SatC.seq ?_
  refine SatC.seq ?_
  refine SatC.region ?_
  refine SatL.pu (RunV.move rfl) rfl ?_
  refine SatL.pu (RunV.move rfl) rfl ?_
  refine SatL.pu (RunV.lenR hv0 rfl rfl) rfl ?_
  refine SatL.pu (RunV.lss rfl rfl) rfl ?_
  refine SatL.nil (SatE.thenC ?_)
  refine SatC.cond rfl (fun h1 => ?_) (fun h1 => ?_)
  · (try simp only [cx, ne_eq] at h1)
    try (exfalso; (first | omega | exact h1 trivial | contradiction | (first | omega | exact h1 rfl | (simp at h1; done))); done)
    all_goals
    refine SatC.skip (SatE.thenC ?_)
    refine SatC.seq ?_
    refine SatC.block ?_
    refine SatC.seq ?_
    obtain ⟨y, hy⟩ := get_some l i (by omega)
    have hlt := for_len d (l.take i)
    rw [List.length_take] at hlt
    have hnx := for_next (d := d) hy
    refine SatC.region ?_
    refine SatL.pu (RunV.move rfl) rfl ?_
    refine SatL.pu (RunV.move rfl) rfl ?_
    refine SatL.pu (RunV.indexR hv0 rfl rfl rfl (by omega) (by omega) rfl) rfl ?_
    first | refine SatL.pu (RunV.fieldAddrL rfl rfl rfl) rfl ?_ | refine SatL.pu (RunV.fieldAddr rfl rfl rfl) rfl ?_
    refine SatL.pu (RunV.loadR1f (hrd.st hS List.not_mem_nil) rfl rfl (map_get hy) rfl) rfl ?_
    refine SatL.pu (RunV.move rfl) rfl ?_
    refine SatL.op rfl (OpW.enter rfl rfl rfl (rfl) (rmatch_any _ _ _) ?_)
    rintro r2 w2 ⟨rfl, h⟩
    replace hS := St.callN hS h
    refine SatL.nil (SatE.thenC ?_)
    refine SatC.cond rfl (fun h2 => ?_) (fun h2 => ?_)
    · (try simp only [cx, ne_eq] at h2)
      try (exfalso; (first | omega | exact h2 trivial | contradiction | (first | omega | exact h2 rfl | (simp at h2; done))); done)
      all_goals
      refine SatC.region ?_
      refine SatL.pu (RunV.move rfl) rfl ?_
      refine SatL.pu (RunV.move rfl) rfl ?_
      refine SatL.pu (RunV.move rfl) rfl ?_
      refine SatL.pu (RunV.indexR hv0 rfl rfl rfl (by omega) (by omega) rfl) rfl ?_
      refine SatL.pu (RunV.loadRNz (hrd.st hS List.not_mem_nil) rfl rfl (map_get hy)) rfl ?_
      refine SatL.op rfl (OpW.buildSlice1 hS rfl rfl rfl rfl rfl (by repeat constructor) rfl rfl rfl ?_)
      clear hS
      intro b25 w3 _ hS
      refine SatL.op rfl (OpW.append1 (by assumption) hS (by repeat constructor) rfl rfl (by repeat constructor) rfl rfl rfl rfl rfl rfl rfl rfl (by first | omega | (simp only [List.length_map]; omega) | (simp only [List.length_append, List.length_map, List.length_cons, List.length_nil]; omega)) rfl ?_)
      clear hS
      intro v26 B26 w4 hsl26 hS
      refine SatL.pu (RunV.assign rfl) rfl ?_
      refine SatL.nil (SatE.blk_normal (SatE.thenC ?_))
      refine SatC.weak (e' := [(0, _), (1, _), (4, _), (5, _), (6, _)]) (by repeat constructor) ?_
      refine SatC.region ?_
      refine SatL.pu (RunV.move rfl) rfl ?_
      refine SatL.pu (RunV.add rfl rfl (by first | exact wrapI64 (by omega) | rfl)) rfl ?_
      refine SatL.pu (RunV.assign rfl) rfl ?_
      refine SatL.nil ?_
      refine SatE.again ((i + 1, v26, B26)) ?_ (by first | omega | (dsimp only; omega)) (by repeat constructor)
      refine ⟨by omega, ?_, hS.sel (R := B26) (by repeat constructor)⟩
      rw [hnx, if_pos (by assumption), List.map_append]
      exact hsl26
    · (try simp only [cx, ne_eq] at h2)
      try (exfalso; (first | omega | exact h2 trivial | contradiction | (first | omega | exact h2 rfl | (simp at h2; done))); done)
      all_goals
      refine SatC.skip (SatE.blk_normal (SatE.thenC ?_))
      refine SatC.region ?_
      refine SatL.pu (RunV.move rfl) rfl ?_
      refine SatL.pu (RunV.add rfl rfl (by first | exact wrapI64 (by omega) | rfl)) rfl ?_
      refine SatL.pu (RunV.assign rfl) rfl ?_
      refine SatL.nil ?_
      refine SatE.again ((i + 1, u, B3)) ?_ (by first | omega | (dsimp only; omega)) (by repeat constructor)
      refine ⟨by omega, ?_, hS⟩
      rw [hnx, if_neg (by simp [*]), List.append_nil]
      exact hsl3
  · (try simp only [cx, ne_eq] at h1)
    try (exfalso; (first | omega | exact h1 trivial | contradiction | (first | omega | exact h1 rfl | (simp at h1; done))); done)
    all_goals
    refine SatC.exit (SatE.then_exit (SatE.then_exit (SatE.blk_exit (SatE.thenC ?_))))
    refine SatC.seq ?_
    refine SatC.region ?_
    refine SatL.pu (RunV.move rfl) rfl ?_
    refine SatL.pu (RunV.assign rfl) rfl ?_
    refine SatL.nil (SatE.thenC ?_)
    refine SatC.ret ?_
    refine SatE.ret1 rfl rfl ?_
    rw [List.take_of_length_le (by omega)] at hsl3
    exact ⟨B3, hsl3, hS⟩
@[reducible] def rt (most : Int) (v : Value) (last : Int) : List Value := [.int .i64 most, v, .int .u64 last]
theorem rnew_any (n : Int) (w : World) : Ret Try.prog 25 #[.int .i64 n] w fun u w' => ∃ b, u = .pointer (some ⟨b, 0, none⟩) ∧ St w [] [(b, C 55 (rt (min (max n 1) 64) (.slice none 0 0) 0))] w' := by
  have hS := St.init0 w
  refine Ret.enter Try.func25 Try.ntmps25 rfl rfl ?_
  simp only [argEnv, Nat.reduceAdd]
  refine SatC.seq ?_
  refine SatC.region ?_
  refine SatL.pu (RunV.assign rfl) rfl ?_
  refine SatL.nil (SatE.thenC ?_)
  refine SatC.seq ?_
  refine SatC.seq ?_
  refine SatC.region ?_
  refine SatL.pu (RunV.move rfl) rfl ?_
  refine SatL.pu (RunV.lss rfl rfl) rfl ?_
  refine SatL.nil (SatE.thenC ?_)
  refine SatC.cond rfl (fun h1 => ?_) (fun h1 => ?_)
  · (try simp only [cx, ne_eq] at h1)
    try (exfalso; (first | omega | exact h1 trivial | contradiction | (first | omega | exact h1 rfl | (simp at h1; done))); done)
    all_goals
    refine SatC.region ?_
    refine SatL.pu (RunV.assign rfl) rfl ?_
    refine SatL.nil (SatE.thenC ?_)
    refine SatC.seq ?_
    refine SatC.seq ?_
    refine SatC.region ?_
    refine SatL.pu (RunV.move rfl) rfl ?_
    refine SatL.pu (RunV.gtr rfl rfl) rfl ?_
    refine SatL.nil (SatE.thenC ?_)
    refine SatC.cond rfl (fun h2 => ?_) (fun h2 => ?_)
    · (try simp only [cx, ne_eq] at h2)
      try (exfalso; (first | omega | exact h2 trivial | contradiction | (first | omega | exact h2 rfl | (simp at h2; done))); done)
      all_goals
      refine SatC.region ?_
      refine SatL.pu (RunV.assign rfl) rfl ?_
      refine SatL.nil (SatE.thenC ?_)
      refine SatC.seq ?_
      refine SatC.region ?_
      refine SatL.pu (RunV.move rfl) rfl ?_
      refine SatL.pu (RunV.build rfl (by simp [go_sem]; try rfl)) rfl ?_
      refine SatL.op rfl (OpW.box hS rfl rfl (by repeat constructor) ?_)
      clear hS
      intro b9 w1 _ hS
      refine SatL.pu (RunV.assign rfl) rfl ?_
      refine SatL.nil (SatE.thenC ?_)
      refine SatC.ret ?_
      refine SatE.ret1 rfl rfl ?_
      refine ⟨_, rfl, ?_⟩
      first
      | (rw [show min (max n 1) 64 = 64 by omega]; exact hS)
      | (rw [show min (max n 1) 64 = 1 by omega]; exact hS)
      | (rw [show min (max n 1) 64 = n by omega]; exact hS)
    · (try simp only [cx, ne_eq] at h2)
      try (exfalso; (first | omega | exact h2 trivial | contradiction | (first | omega | exact h2 rfl | (simp at h2; done))); done)
      all_goals
      refine SatC.skip (SatE.thenC ?_)
      refine SatC.seq ?_
      refine SatC.region ?_
      refine SatL.pu (RunV.move rfl) rfl ?_
      refine SatL.pu (RunV.build rfl (by simp [go_sem]; try rfl)) rfl ?_
      refine SatL.op rfl (OpW.box hS rfl rfl (by repeat constructor) ?_)
      clear hS
      intro b9 w1 _ hS
      refine SatL.pu (RunV.assign rfl) rfl ?_
      refine SatL.nil (SatE.thenC ?_)
      refine SatC.ret ?_
      refine SatE.ret1 rfl rfl ?_
      refine ⟨_, rfl, ?_⟩
      first
      | (rw [show min (max n 1) 64 = 64 by omega]; exact hS)
      | (rw [show min (max n 1) 64 = 1 by omega]; exact hS)
      | (rw [show min (max n 1) 64 = n by omega]; exact hS)
  · (try simp only [cx, ne_eq] at h1)
    try (exfalso; (first | omega | exact h1 trivial | contradiction | (first | omega | exact h1 rfl | (simp at h1; done))); done)
    all_goals
    refine SatC.skip (SatE.thenC ?_)
    refine SatC.seq ?_
    refine SatC.seq ?_
    refine SatC.region ?_
    refine SatL.pu (RunV.move rfl) rfl ?_
    refine SatL.pu (RunV.gtr rfl rfl) rfl ?_
    refine SatL.nil (SatE.thenC ?_)
    refine SatC.cond rfl (fun h2 => ?_) (fun h2 => ?_)
    · (try simp only [cx, ne_eq] at h2)
      try (exfalso; (first | omega | exact h2 trivial | contradiction | (first | omega | exact h2 rfl | (simp at h2; done))); done)
      all_goals
      refine SatC.region ?_
      refine SatL.pu (RunV.assign rfl) rfl ?_
      refine SatL.nil (SatE.thenC ?_)
      refine SatC.seq ?_
      refine SatC.region ?_
      refine SatL.pu (RunV.move rfl) rfl ?_
      refine SatL.pu (RunV.build rfl (by simp [go_sem]; try rfl)) rfl ?_
      refine SatL.op rfl (OpW.box hS rfl rfl (by repeat constructor) ?_)
      clear hS
      intro b9 w1 _ hS
      refine SatL.pu (RunV.assign rfl) rfl ?_
      refine SatL.nil (SatE.thenC ?_)
      refine SatC.ret ?_
      refine SatE.ret1 rfl rfl ?_
      refine ⟨_, rfl, ?_⟩
      first
      | (rw [show min (max n 1) 64 = 64 by omega]; exact hS)
      | (rw [show min (max n 1) 64 = 1 by omega]; exact hS)
      | (rw [show min (max n 1) 64 = n by omega]; exact hS)
    · (try simp only [cx, ne_eq] at h2)
      try (exfalso; (first | omega | exact h2 trivial | contradiction | (first | omega | exact h2 rfl | (simp at h2; done))); done)
      all_goals
      refine SatC.skip (SatE.thenC ?_)
      refine SatC.seq ?_
      refine SatC.region ?_
      refine SatL.pu (RunV.move rfl) rfl ?_
      refine SatL.pu (RunV.build rfl (by simp [go_sem]; try rfl)) rfl ?_
      refine SatL.op rfl (OpW.box hS rfl rfl (by repeat constructor) ?_)
      clear hS
      intro b9 w1 _ hS
      refine SatL.pu (RunV.assign rfl) rfl ?_
      refine SatL.nil (SatE.thenC ?_)
      refine SatC.ret ?_
      refine SatE.ret1 rfl rfl ?_
      refine ⟨_, rfl, ?_⟩
      first
      | (rw [show min (max n 1) 64 = 64 by omega]; exact hS)
      | (rw [show min (max n 1) 64 = 1 by omega]; exact hS)
      | (rw [show min (max n 1) 64 = n by omega]; exact hS)
def Fd (l : List Itn) (s d : List UInt8) (k : Int) : Prop := (k = -1 ∧ ∀ x ∈ l, ¬ (x.s = s ∧ x.d = d)) ∨ ∃ (n : Nat) (x : Itn), k = n ∧ l[n]? = some x ∧ x.s = s ∧ x.d = d
def insI (x : Itn) : Bool → List Itn → List Itn
  | laid, [] => if laid = true then [] else [x]
  | laid, y :: ys => if laid = false ∧ firstI x y = true then x :: y :: insI x true ys else y :: insI x laid ys
theorem insI_gt {x y : Itn} {ys : List Itn} (h : firstI x y = true) : insI x false (y :: ys) = x :: y :: insI x true ys := if_pos ⟨rfl, h⟩
theorem insI_lt {x y : Itn} {ys : List Itn} {laid : Bool} (h : laid = true ∨ firstI x y = false) : insI x laid (y :: ys) = y :: insI x laid ys := if_neg (by rintro ⟨h3, h4⟩; rcases h with h2 | h2 <;> simp_all)
/-- The document's adding. -/
def AddR (most last : Int) (l : List Itn) (s d : List UInt8) (a : Bool) (ix : Int) (e : Int) (l' : List Itn) (last' : Int) : Prop :=
  ((patI s = false ∨ patI d = false) ∧ e = 10 ∧ l' = l ∧ last' = last) ∨ (patI s = true ∧ patI d = true ∧
    ((∃ n : Nat, Fd l s d n) ∧ e = 20 ∧ l' = l ∧ last' = last ∨ Fd l s d (-1) ∧
      (most ≤ l.length ∧ e = 5 ∧ l' = l ∧ last' = last ∨ (l.length : Int) < most ∧ e = 0 ∧ l' = insI ⟨s, d, a, ix, ix⟩ false l ∧ last' = max last ix)))
/-- What is asked for: the place, or the error. -/
def AskR (l : List Itn) (s d : List UInt8) (old : Int) (k e : Int) : Prop :=
  ((patI s = false ∨ patI d = false) ∧ e = 10) ∨ (patI s = true ∧ patI d = true ∧
    (Fd l s d (-1) ∧ e = 4 ∨ ∃ (n : Nat) (x : Itn), l[n]? = some x ∧ x.s = s ∧ x.d = d ∧ (¬ old = 0 ∧ ¬ x.x = old ∧ e = 21 ∨ (old = 0 ∨ x.x = old) ∧ e = 0 ∧ k = n)))
section
variable {b : Nat} {most last : Int} {v : Value} {l : List Itn} {B : List (Nat × Obj)} {w : World}
theorem rfind_any (s d : List UInt8) (hown : Own w ((b, C 55 (rt most v last)) :: B)) (hsl : Sl 28 5 v (l.map ic) B) (hl : l.length ≤ 1000) :
    Ret Try.prog 65 #[.pointer (some ⟨b, 0, none⟩), str s, str d] w fun r w' => ∃ k, Fd l s d k ∧ r = .int .i64 k ∧ St w [] [] w' := by
  have hS := St.init hown
  obtain ⟨c0, hv0⟩ := hsl.slv
  simp only [List.length_map] at hv0
  generalize hX : ((b, C 55 (rt most v last)) :: B).map Prod.fst = X at hS
  refine Ret.enter Try.func65 Try.ntmps65 rfl rfl ?_
  simp only [argEnv, Nat.reduceAdd]
  refine SatC.seq ?_
  refine SatC.region ?_
  refine SatL.pu (RunV.assign rfl) rfl ?_
  refine SatL.nil (SatE.thenC ?_)
  refine SatC.seq ?_
  refine SatC.seq ?_
  refine SatC.region ?_
  refine SatL.pu (RunV.assign rfl) rfl ?_
  refine SatL.nil (SatE.thenC ?_)
  refine SatC.block ?_
  refine SatC.loopK (G := Nat) (V := fun i => [(7, .int .i64 (i : Int))]) (Cn := [(0, _), (1, _), (2, _), (6, _)]) (I := fun i w' => i ≤ l.length ∧ (∀ (j : Nat) (x : Itn), j < i → l[j]? = some x → ¬ (x.s = s ∧ x.d = d)) ∧ St w X ((b, C 55 (rt most v last)) :: B) w') (μ := fun i => l.length - i) 0 ?_ (by repeat constructor) ?_
  · exact ⟨Nat.zero_le _, fun j x h => by omega, hS⟩
  clear hS
  rintro i w1 ⟨hi, hf, hS⟩
  refine SatC.weak (e' := [(0, _), (1, _), (2, _), (6, _), (7, _)]) (by repeat constructor) ?_
  refine SatC.seq ?_
  refine SatC.seq ?_
  refine SatC.region ?_
  refine SatL.pu (RunV.move rfl) rfl ?_
  refine SatL.pu (RunV.move rfl) rfl ?_
  first | refine SatL.pu (RunV.nil_ptr rfl) rfl ?_ | refine SatL.pu (RunV.nil_func rfl) rfl ?_ | refine SatL.pu (RunV.nil_yield rfl) rfl ?_
  first | refine SatL.pu (RunV.fieldAddrL rfl rfl rfl) rfl ?_ | refine SatL.pu (RunV.fieldAddr rfl rfl rfl) rfl ?_
  refine SatL.pu (RunV.load1 hS rfl rfl (by repeat constructor) rfl) rfl ?_
  refine SatL.pu (RunV.lenR hv0 rfl rfl) rfl ?_
  refine SatL.pu (RunV.lss rfl rfl) rfl ?_
  refine SatL.nil (SatE.thenC ?_)
  refine SatC.cond rfl (fun h1 => ?_) (fun h1 => ?_)
  · (try simp only [cx, ne_eq] at h1)
    try (exfalso; (first | omega | exact h1 trivial | contradiction | (first | omega | exact h1 rfl | (simp at h1; done))); done)
    all_goals
    refine SatC.skip (SatE.thenC ?_)
    refine SatC.seq ?_
    refine SatC.block ?_
    refine SatC.seq ?_
    obtain ⟨y, hy⟩ := get_some l i (by omega)
    refine SatC.region ?_
    refine SatL.pu (RunV.move rfl) rfl ?_
    first | refine SatL.pu (RunV.nil_ptr rfl) rfl ?_ | refine SatL.pu (RunV.nil_func rfl) rfl ?_ | refine SatL.pu (RunV.nil_yield rfl) rfl ?_
    first | refine SatL.pu (RunV.fieldAddrL rfl rfl rfl) rfl ?_ | refine SatL.pu (RunV.fieldAddr rfl rfl rfl) rfl ?_
    refine SatL.pu (RunV.load1 hS rfl rfl (by repeat constructor) rfl) rfl ?_
    refine SatL.pu (RunV.move rfl) rfl ?_
    refine SatL.pu (RunV.indexR hv0 rfl rfl rfl (by omega) (by omega) rfl) rfl ?_
    first | refine SatL.pu (RunV.fieldAddrL rfl rfl rfl) rfl ?_ | refine SatL.pu (RunV.fieldAddr rfl rfl rfl) rfl ?_
    refine SatL.pu (RunV.loadR1f (hsl.rd hS (by repeat constructor)) rfl rfl (map_get hy) rfl) rfl ?_
    refine SatL.pu (RunV.move rfl) rfl ?_
    refine SatL.pu (RunV.seql rfl rfl) rfl ?_
    refine SatL.pu (RunV.move rfl) rfl ?_
    refine SatL.guard rfl rfl rfl (fun h2 => ?_) (fun h2 => ?_)
    · (try simp only [cx, ne_eq] at h2)
      try (exfalso; (first | omega | exact h2 trivial | contradiction | (first | omega | exact h2 rfl | (simp at h2; done))); done)
      all_goals
      refine SatL.pu (RunV.move rfl) rfl ?_
      refine SatL.guard_y rfl rfl ?_
      first | refine SatL.pu (RunV.nil_ptr rfl) rfl ?_ | refine SatL.pu (RunV.nil_func rfl) rfl ?_ | refine SatL.pu (RunV.nil_yield rfl) rfl ?_
      refine SatL.guard_y rfl rfl ?_
      first | refine SatL.pu (RunV.fieldAddrL rfl rfl rfl) rfl ?_ | refine SatL.pu (RunV.fieldAddr rfl rfl rfl) rfl ?_
      refine SatL.guard_y rfl rfl ?_
      refine SatL.pu (RunV.load1 hS rfl rfl (by repeat constructor) rfl) rfl ?_
      refine SatL.guard_y rfl rfl ?_
      refine SatL.pu (RunV.move rfl) rfl ?_
      refine SatL.guard_y rfl rfl ?_
      refine SatL.pu (RunV.indexR hv0 rfl rfl rfl (by omega) (by omega) rfl) rfl ?_
      refine SatL.guard_y rfl rfl ?_
      first | refine SatL.pu (RunV.fieldAddrL rfl rfl rfl) rfl ?_ | refine SatL.pu (RunV.fieldAddr rfl rfl rfl) rfl ?_
      refine SatL.guard_y rfl rfl ?_
      refine SatL.pu (RunV.loadR1f (hsl.rd hS (by repeat constructor)) rfl rfl (map_get hy) rfl) rfl ?_
      refine SatL.guard_y rfl rfl ?_
      refine SatL.pu (RunV.move rfl) rfl ?_
      refine SatL.guard_y rfl rfl ?_
      refine SatL.pu (RunV.seql rfl rfl) rfl ?_
      refine SatL.pu (RunV.pick_t rfl rfl) rfl ?_
      refine SatL.nil (SatE.thenC ?_)
      refine SatC.weak (e' := [(0, _), (1, _), (2, _), (6, _), (7, _), (38, _)]) (by repeat constructor) ?_
      refine SatC.cond rfl (fun h3 => ?_) (fun h3 => ?_)
      · (try simp only [cx, ne_eq] at h3)
        try (exfalso; (first | omega | exact h3 trivial | contradiction | (first | omega | exact h3 rfl | (simp at h3; done))); done)
        all_goals
        refine SatC.seq ?_
        refine SatC.region ?_
        refine SatL.pu (RunV.move rfl) rfl ?_
        refine SatL.pu (RunV.assign rfl) rfl ?_
        refine SatL.nil (SatE.thenC ?_)
        refine SatC.ret (SatE.blk_ret (SatE.then_ret (SatE.then_ret (SatE.blk_ret (SatE.then_ret ?_)))))
        refine SatE.ret1 rfl rfl ?_
        exact ⟨_, .inr ⟨i, y, rfl, hy, by assumption, by assumption⟩, rfl, St.roX (Y := []) hown hX.symm (hS.sel (R := ((b, C 55 (rt most v last)) :: B) ++ []) (by repeat constructor)) .here⟩
      · (try simp only [cx, ne_eq] at h3)
        try (exfalso; (first | omega | exact h3 trivial | contradiction | (first | omega | exact h3 rfl | (simp at h3; done))); done)
        all_goals
        refine SatC.skip (SatE.blk_normal (SatE.thenC ?_))
        refine SatC.region ?_
        refine SatL.pu (RunV.move rfl) rfl ?_
        refine SatL.pu (RunV.add rfl rfl (by first | exact wrapI64 (by omega) | rfl)) rfl ?_
        refine SatL.pu (RunV.assign rfl) rfl ?_
        refine SatL.nil ?_
        refine SatE.again (i + 1) ?_ (by first | omega | (dsimp only; omega)) (by repeat constructor)
        exact ⟨by omega, fun j x hj hx => by
          by_cases e : j = i
          · subst e
            rw [hy] at hx
            cases hx
            rintro ⟨e1, e2⟩
            contradiction
          · exact hf j x (by omega) hx, hS⟩
    · (try simp only [cx, ne_eq] at h2)
      try (exfalso; (first | omega | exact h2 trivial | contradiction | (first | omega | exact h2 rfl | (simp at h2; done))); done)
      all_goals
      refine SatL.guard_n rfl rfl rfl rfl ?_
      refine SatL.guard_n rfl rfl rfl rfl ?_
      refine SatL.guard_n rfl rfl rfl rfl ?_
      refine SatL.guard_n rfl rfl rfl rfl ?_
      refine SatL.guard_n rfl rfl rfl rfl ?_
      refine SatL.guard_n rfl rfl rfl rfl ?_
      refine SatL.guard_n rfl rfl rfl rfl ?_
      refine SatL.guard_n rfl rfl rfl rfl ?_
      refine SatL.guard_n rfl rfl rfl rfl ?_
      refine SatL.pu (RunV.pick_f rfl rfl) rfl ?_
      refine SatL.nil (SatE.thenC ?_)
      refine SatC.weak (e' := [(0, _), (1, _), (2, _), (6, _), (7, _), (38, _)]) (by repeat constructor) ?_
      refine SatC.cond_f rfl ?_
      refine SatC.skip (SatE.blk_normal (SatE.thenC ?_))
      refine SatC.region ?_
      refine SatL.pu (RunV.move rfl) rfl ?_
      refine SatL.pu (RunV.add rfl rfl (by first | exact wrapI64 (by omega) | rfl)) rfl ?_
      refine SatL.pu (RunV.assign rfl) rfl ?_
      refine SatL.nil ?_
      refine SatE.again (i + 1) ?_ (by first | omega | (dsimp only; omega)) (by repeat constructor)
      exact ⟨by omega, fun j x hj hx => by
        by_cases e : j = i
        · subst e
          rw [hy] at hx
          cases hx
          rintro ⟨e1, e2⟩
          contradiction
        · exact hf j x (by omega) hx, hS⟩
  · (try simp only [cx, ne_eq] at h1)
    try (exfalso; (first | omega | exact h1 trivial | contradiction | (first | omega | exact h1 rfl | (simp at h1; done))); done)
    all_goals
    refine SatC.exit (SatE.then_exit (SatE.then_exit (SatE.blk_exit (SatE.thenC ?_))))
    refine SatC.seq ?_
    refine SatC.region ?_
    refine SatL.pu (RunV.assign rfl) rfl ?_
    refine SatL.nil (SatE.thenC ?_)
    refine SatC.ret ?_
    refine SatE.ret1 rfl rfl ?_
    refine ⟨-1, .inl ⟨rfl, fun x hx => ?_⟩, rfl, St.roX (Y := []) hown hX.symm (hS.sel (R := ((b, C 55 (rt most v last)) :: B) ++ []) (by repeat constructor)) .here⟩
    obtain ⟨j, hj⟩ := List.getElem?_of_mem hx
    exact hf j x (by have := (List.getElem?_eq_some_iff.1 hj).1; omega) hj
theorem raise_ref (x : Int) (hown : Own w ((b, C 55 (rt most v last)) :: B)) : Ret Try.prog 66 #[.pointer (some ⟨b, 0, none⟩), .int .u64 x] w fun u w' => u = .tuple #[] ∧ St w (b :: B.map Prod.fst) ((b, C 55 (rt most v (max last x))) :: B) w' := by
  have hS := St.init hown
  refine Ret.enter Try.func66 Try.ntmps66 rfl rfl ?_
  simp only [argEnv, Nat.reduceAdd]
  refine SatC.seq ?_
  refine SatC.region ?_
  refine SatL.pu (RunV.move rfl) rfl ?_
  refine SatL.pu (RunV.move rfl) rfl ?_
  first | refine SatL.pu (RunV.nil_ptr rfl) rfl ?_ | refine SatL.pu (RunV.nil_func rfl) rfl ?_ | refine SatL.pu (RunV.nil_yield rfl) rfl ?_
  first | refine SatL.pu (RunV.fieldAddrL rfl rfl rfl) rfl ?_ | refine SatL.pu (RunV.fieldAddr rfl rfl rfl) rfl ?_
  refine SatL.pu (RunV.load1 hS rfl rfl (by repeat constructor) rfl) rfl ?_
  refine SatL.pu (RunV.gtr rfl rfl) rfl ?_
  refine SatL.nil (SatE.thenC ?_)
  refine SatC.cond rfl (fun h1 => ?_) (fun h1 => ?_)
  · (try simp only [cx, ne_eq] at h1)
    try (exfalso; (first | omega | exact h1 trivial | contradiction | (first | omega | exact h1 rfl | (simp at h1; done))); done)
    all_goals
    refine SatC.region ?_
    refine SatL.pu (RunV.move rfl) rfl ?_
    refine SatL.pu (RunV.move rfl) rfl ?_
    first | refine SatL.pu (RunV.nil_ptr rfl) rfl ?_ | refine SatL.pu (RunV.nil_func rfl) rfl ?_ | refine SatL.pu (RunV.nil_yield rfl) rfl ?_
    first | refine SatL.pu (RunV.fieldAddrL rfl rfl rfl) rfl ?_ | refine SatL.pu (RunV.fieldAddr rfl rfl rfl) rfl ?_
    refine SatL.op rfl (OpW.store hS rfl rfl (by repeat constructor) (by repeat constructor) (by repeat constructor) rfl rfl ?_)
    clear hS
    intro w1 hS
    refine SatL.nil ?_
    refine SatE.fin0 rfl ?_
    first
    | exact ⟨rfl, by rw [show max last x = x by omega]; exact hS⟩
    | exact ⟨rfl, by rw [show max last x = last by omega]; exact hS⟩
  · (try simp only [cx, ne_eq] at h1)
    try (exfalso; (first | omega | exact h1 trivial | contradiction | (first | omega | exact h1 rfl | (simp at h1; done))); done)
    all_goals
    refine SatC.skip ?_
    refine SatE.fin0 rfl ?_
    first
    | exact ⟨rfl, by rw [show max last x = x by omega]; exact hS⟩
    | exact ⟨rfl, by rw [show max last x = last by omega]; exact hS⟩
theorem asked_any (s d : List UInt8) (old : Int) (hown : Own w ((b, C 55 (rt most v last)) :: B)) (hsl : Sl 28 5 v (l.map ic) B) (hl : l.length ≤ 1000) :
    Ret Try.prog 67 #[.pointer (some ⟨b, 0, none⟩), str s, str d, .int .u64 old] w fun r w' => ∃ k e, AskR l s d old k e ∧ r = .tuple #[.int .i64 k, .int .i64 e] ∧ St w [] [] w' := by
  have hS := St.init hown
  obtain ⟨c0, hv0⟩ := hsl.slv
  simp only [List.length_map] at hv0
  generalize hX : ((b, C 55 (rt most v last)) :: B).map Prod.fst = X at hS
  have hro : ∀ {w'}, St w X ((b, C 55 (rt most v last)) :: B) w' → St w [] [] w' := fun h => St.roX (Y := []) hown hX.symm (h.sel (R := ((b, C 55 (rt most v last)) :: B) ++ []) (by repeat constructor)) .here
  refine Ret.enter Try.func67 Try.ntmps67 rfl rfl ?_
  simp only [argEnv, Nat.reduceAdd]
  refine SatC.seq ?_
  refine SatC.region ?_
  refine SatL.pu (RunV.assign rfl) rfl ?_
  refine SatL.pu (RunV.assign rfl) rfl ?_
  refine SatL.nil (SatE.thenC ?_)
  refine SatC.seq ?_
  refine SatC.seq ?_
  refine SatC.region ?_
  refine SatL.pu (RunV.move rfl) rfl ?_
  refine SatL.op rfl (OpW.enter rfl rfl rfl (rfl) (rpat_any _ _) ?_)
  rintro r1 w1 ⟨rfl, h⟩
  replace hS := St.callN hS h
  refine SatL.pu (RunV.not rfl) rfl ?_
  refine SatL.pu (RunV.move rfl) rfl ?_
  refine SatL.guard rfl rfl rfl (fun h1 => ?_) (fun h1 => ?_)
  · (try simp only [cx, ne_eq] at h1)
    try (exfalso; (first | omega | exact h1 trivial | contradiction | (first | omega | exact h1 rfl | (simp at h1; done))); done)
    all_goals
    refine SatL.pu (RunV.move rfl) rfl ?_
    refine SatL.guard_y rfl rfl ?_
    refine SatL.op rfl (OpW.enter rfl rfl rfl (rfl) (rpat_any _ _) ?_)
    rintro r2 w2 ⟨rfl, h⟩
    replace hS := St.callN hS h
    refine SatL.guard_y rfl rfl ?_
    refine SatL.pu (RunV.not rfl) rfl ?_
    refine SatL.pu (RunV.pick_f rfl rfl) rfl ?_
    refine SatL.nil (SatE.thenC ?_)
    refine SatC.cond rfl (fun h2 => ?_) (fun h2 => ?_)
    · (try simp only [cx, ne_eq] at h2)
      try (exfalso; (first | omega | exact h2 trivial | contradiction | (first | omega | exact h2 rfl | (simp at h2; done))); done)
      all_goals
      refine SatC.seq ?_
      refine SatC.weak (e' := [(8, _), (9, _)]) (by repeat constructor) ?_
      refine SatC.region ?_
      refine SatL.pu (RunV.assign rfl) rfl ?_
      refine SatL.pu (RunV.assign rfl) rfl ?_
      refine SatL.nil (SatE.thenC ?_)
      refine SatC.ret (SatE.then_ret ?_)
      refine SatE.ret2 rfl rfl rfl ?_
      exact ⟨0, 10, .inl ⟨.inr (by assumption), rfl⟩, rfl, hro hS⟩
    · (try simp only [cx, ne_eq] at h2)
      try (exfalso; (first | omega | exact h2 trivial | contradiction | (first | omega | exact h2 rfl | (simp at h2; done))); done)
      all_goals
      refine SatC.skip (SatE.thenC ?_)
      refine SatC.seq ?_
      refine SatC.region ?_
      refine SatL.pu (RunV.move rfl) rfl ?_
      refine SatL.pu (RunV.move rfl) rfl ?_
      refine SatL.pu (RunV.move rfl) rfl ?_
      refine SatL.op rfl (OpW.enter rfl rfl rfl (rfl) (rfind_any s d (hS.ownT (A := (b, C 55 (rt most v last)) :: B) (by repeat constructor)) hsl hl) ?_)
      rintro r3 w3 ⟨k, hk, rfl, h⟩
      replace hS := St.callN hS h
      refine SatL.pu (RunV.assign rfl) rfl ?_
      refine SatL.nil (SatE.thenC ?_)
      refine SatC.seq ?_
      refine SatC.seq ?_
      refine SatC.weak (e' := [(0, _), (3, _), (8, _), (9, _), (10, _)]) (by repeat constructor) ?_
      refine SatC.region ?_
      refine SatL.pu (RunV.move rfl) rfl ?_
      refine SatL.pu (RunV.lss rfl rfl) rfl ?_
      refine SatL.nil (SatE.thenC ?_)
      refine SatC.cond rfl (fun h3 => ?_) (fun h3 => ?_)
      · (try simp only [cx, ne_eq] at h3)
        try (exfalso; (first | omega | exact h3 trivial | contradiction | (first | omega | exact h3 rfl | (simp at h3; done))); done)
        all_goals
        refine SatC.seq ?_
        have hk1 : Fd l s d (-1) := by
          rcases hk with hk | ⟨n, x, rfl, _⟩
          · exact .inl ⟨rfl, hk.2⟩
          · omega
        refine SatC.region ?_
        refine SatL.pu (RunV.assign rfl) rfl ?_
        refine SatL.pu (RunV.assign rfl) rfl ?_
        refine SatL.nil (SatE.thenC ?_)
        refine SatC.ret (SatE.then_ret ?_)
        refine SatE.ret2 rfl rfl rfl ?_
        exact ⟨0, 4, .inr ⟨by assumption, by assumption, .inl ⟨hk1, rfl⟩⟩, rfl, hro hS⟩
      · (try simp only [cx, ne_eq] at h3)
        try (exfalso; (first | omega | exact h3 trivial | contradiction | (first | omega | exact h3 rfl | (simp at h3; done))); done)
        all_goals
        refine SatC.skip (SatE.thenC ?_)
        refine SatC.seq ?_
        refine SatC.seq ?_
        obtain ⟨n, y, rfl, hy, hys, hyd⟩ : ∃ (n : Nat) (x : Itn), k = n ∧ l[n]? = some x ∧ x.s = s ∧ x.d = d := by
          rcases hk with ⟨rfl, _⟩ | hk
          · omega
          · exact hk
        have hnl := (List.getElem?_eq_some_iff.1 hy).1
        refine SatC.region ?_
        refine SatL.pu (RunV.move rfl) rfl ?_
        refine SatL.pu (RunV.neq rfl rfl) rfl ?_
        refine SatL.pu (RunV.move rfl) rfl ?_
        refine SatL.guard rfl rfl rfl (fun h4 => ?_) (fun h4 => ?_)
        · (try simp only [cx, ne_eq] at h4)
          try (exfalso; (first | omega | exact h4 trivial | contradiction | (first | omega | exact h4 rfl | (simp at h4; done))); done)
          all_goals
          refine SatL.pu (RunV.move rfl) rfl ?_
          refine SatL.guard_y rfl rfl ?_
          first | refine SatL.pu (RunV.nil_ptr rfl) rfl ?_ | refine SatL.pu (RunV.nil_func rfl) rfl ?_ | refine SatL.pu (RunV.nil_yield rfl) rfl ?_
          refine SatL.guard_y rfl rfl ?_
          first | refine SatL.pu (RunV.fieldAddrL rfl rfl rfl) rfl ?_ | refine SatL.pu (RunV.fieldAddr rfl rfl rfl) rfl ?_
          refine SatL.guard_y rfl rfl ?_
          refine SatL.pu (RunV.load1 hS rfl rfl (by repeat constructor) rfl) rfl ?_
          refine SatL.guard_y rfl rfl ?_
          refine SatL.pu (RunV.move rfl) rfl ?_
          refine SatL.guard_y rfl rfl ?_
          refine SatL.pu (RunV.indexR hv0 rfl rfl rfl (by omega) (by omega) rfl) rfl ?_
          refine SatL.guard_y rfl rfl ?_
          first | refine SatL.pu (RunV.fieldAddrL rfl rfl rfl) rfl ?_ | refine SatL.pu (RunV.fieldAddr rfl rfl rfl) rfl ?_
          refine SatL.guard_y rfl rfl ?_
          refine SatL.pu (RunV.loadR1f (hsl.rd hS (by repeat constructor)) rfl rfl (map_get hy) rfl) rfl ?_
          refine SatL.guard_y rfl rfl ?_
          refine SatL.pu (RunV.move rfl) rfl ?_
          refine SatL.guard_y rfl rfl ?_
          refine SatL.pu (RunV.neq rfl rfl) rfl ?_
          refine SatL.pu (RunV.pick_t rfl rfl) rfl ?_
          refine SatL.nil (SatE.thenC ?_)
          refine SatC.weak (e' := [(8, _), (9, _), (10, _), (38, _)]) (by repeat constructor) ?_
          refine SatC.cond rfl (fun h5 => ?_) (fun h5 => ?_)
          · (try simp only [cx, ne_eq] at h5)
            try (exfalso; (first | omega | exact h5 trivial | contradiction | (first | omega | exact h5 rfl | (simp at h5; done))); done)
            all_goals
            refine SatC.seq ?_
            refine SatC.region ?_
            refine SatL.pu (RunV.assign rfl) rfl ?_
            refine SatL.pu (RunV.assign rfl) rfl ?_
            refine SatL.nil (SatE.thenC ?_)
            refine SatC.ret (SatE.then_ret ?_)
            refine SatE.ret2 rfl rfl rfl ?_
            exact ⟨0, 21, .inr ⟨by assumption, by assumption, .inr ⟨n, y, hy, hys, hyd, .inl ⟨by assumption, by assumption, rfl⟩⟩⟩, rfl, hro hS⟩
          · (try simp only [cx, ne_eq] at h5)
            try (exfalso; (first | omega | exact h5 trivial | contradiction | (first | omega | exact h5 rfl | (simp at h5; done))); done)
            all_goals
            refine SatC.skip (SatE.thenC ?_)
            refine SatC.seq ?_
            refine SatC.region ?_
            refine SatL.pu (RunV.move rfl) rfl ?_
            refine SatL.pu (RunV.assign rfl) rfl ?_
            refine SatL.pu (RunV.assign rfl) rfl ?_
            refine SatL.nil (SatE.thenC ?_)
            refine SatC.ret ?_
            refine SatE.ret2 rfl rfl rfl ?_
            exact ⟨n, 0, .inr ⟨by assumption, by assumption, .inr ⟨n, y, hy, hys, hyd, .inr ⟨.inr (by assumption), rfl, rfl⟩⟩⟩, rfl, hro hS⟩
        · (try simp only [cx, ne_eq] at h4)
          try (exfalso; (first | omega | exact h4 trivial | contradiction | (first | omega | exact h4 rfl | (simp at h4; done))); done)
          all_goals
          refine SatL.guard_n rfl rfl rfl rfl ?_
          refine SatL.guard_n rfl rfl rfl rfl ?_
          refine SatL.guard_n rfl rfl rfl rfl ?_
          refine SatL.guard_n rfl rfl rfl rfl ?_
          refine SatL.guard_n rfl rfl rfl rfl ?_
          refine SatL.guard_n rfl rfl rfl rfl ?_
          refine SatL.guard_n rfl rfl rfl rfl ?_
          refine SatL.guard_n rfl rfl rfl rfl ?_
          refine SatL.guard_n rfl rfl rfl rfl ?_
          refine SatL.pu (RunV.pick_f rfl rfl) rfl ?_
          refine SatL.nil (SatE.thenC ?_)
          refine SatC.weak (e' := [(8, _), (9, _), (10, _), (38, _)]) (by repeat constructor) ?_
          refine SatC.cond_f rfl ?_
          refine SatC.skip (SatE.thenC ?_)
          refine SatC.seq ?_
          refine SatC.region ?_
          refine SatL.pu (RunV.move rfl) rfl ?_
          refine SatL.pu (RunV.assign rfl) rfl ?_
          refine SatL.pu (RunV.assign rfl) rfl ?_
          refine SatL.nil (SatE.thenC ?_)
          refine SatC.ret ?_
          refine SatE.ret2 rfl rfl rfl ?_
          exact ⟨n, 0, .inr ⟨by assumption, by assumption, .inr ⟨n, y, hy, hys, hyd, .inr ⟨.inl (by assumption), rfl, rfl⟩⟩⟩, rfl, hro hS⟩
  · (try simp only [cx, ne_eq] at h1)
    try (exfalso; (first | omega | exact h1 trivial | contradiction | (first | omega | exact h1 rfl | (simp at h1; done))); done)
    all_goals
    refine SatL.guard_n rfl rfl rfl rfl ?_
    refine SatL.guard_n rfl rfl rfl rfl ?_
    refine SatL.pu (RunV.pick_t rfl rfl) rfl ?_
    refine SatL.nil (SatE.thenC ?_)
    refine SatC.cond_t rfl ?_
    refine SatC.seq ?_
    refine SatC.weak (e' := [(8, _), (9, _)]) (by repeat constructor) ?_
    refine SatC.region ?_
    refine SatL.pu (RunV.assign rfl) rfl ?_
    refine SatL.pu (RunV.assign rfl) rfl ?_
    refine SatL.nil (SatE.thenC ?_)
    refine SatC.ret (SatE.then_ret ?_)
    refine SatE.ret2 rfl rfl rfl ?_
    exact ⟨0, 10, .inl ⟨.inl (by assumption), rfl⟩, rfl, hro hS⟩
theorem radd_any (s d : List UInt8) (a : Bool) (ix : Int) (hown : Own w ((b, C 55 (rt most v last)) :: B)) (hsl : Sl 28 5 v (l.map ic) B) (hl : l.length ≤ 1000) :
    Ret Try.prog 48 #[.pointer (some ⟨b, 0, none⟩), str s, str d, .bool a, .int .u64 ix] w fun u w' => ∃ e l' last', AddR most last l s d a ix e l' last' ∧ u = .int .i64 e ∧
      ∃ v' B', Sl 28 5 v' (l'.map ic) B' ∧ St w (b :: B.map Prod.fst) ((b, C 55 (rt most v' last')) :: B') w' := by
  have hS := St.init hown
  obtain ⟨c0, hv0⟩ := hsl.slv
  simp only [List.length_map] at hv0
  rw [List.map_cons] at hS
  generalize hX : b :: B.map Prod.fst = X at hS ⊢
  refine Ret.enter Try.func48 Try.ntmps48 rfl rfl ?_
  simp only [argEnv, Nat.reduceAdd]
  refine SatC.seq ?_
  refine SatC.region ?_
  refine SatL.pu (RunV.assign rfl) rfl ?_
  refine SatL.nil (SatE.thenC ?_)
  refine SatC.seq ?_
  refine SatC.seq ?_
  refine SatC.region ?_
  refine SatL.pu (RunV.move rfl) rfl ?_
  refine SatL.op rfl (OpW.enter rfl rfl rfl (rfl) (rpat_any _ _) ?_)
  rintro r1 w1 ⟨rfl, h⟩
  replace hS := St.callN hS h
  refine SatL.pu (RunV.not rfl) rfl ?_
  refine SatL.pu (RunV.move rfl) rfl ?_
  refine SatL.guard rfl rfl rfl (fun h1 => ?_) (fun h1 => ?_)
  · (try simp only [cx, ne_eq] at h1)
    try (exfalso; (first | omega | exact h1 trivial | contradiction | (first | omega | exact h1 rfl | (simp at h1; done))); done)
    all_goals
    refine SatL.pu (RunV.move rfl) rfl ?_
    refine SatL.guard_y rfl rfl ?_
    refine SatL.op rfl (OpW.enter rfl rfl rfl (rfl) (rpat_any _ _) ?_)
    rintro r2 w2 ⟨rfl, h⟩
    replace hS := St.callN hS h
    refine SatL.guard_y rfl rfl ?_
    refine SatL.pu (RunV.not rfl) rfl ?_
    refine SatL.pu (RunV.pick_f rfl rfl) rfl ?_
    refine SatL.nil (SatE.thenC ?_)
    refine SatC.cond rfl (fun h2 => ?_) (fun h2 => ?_)
    · (try simp only [cx, ne_eq] at h2)
      try (exfalso; (first | omega | exact h2 trivial | contradiction | (first | omega | exact h2 rfl | (simp at h2; done))); done)
      all_goals
      refine SatC.seq ?_
      refine SatC.weak (e' := [(10, _)]) (by repeat constructor) ?_
      refine SatC.region ?_
      refine SatL.pu (RunV.assign rfl) rfl ?_
      refine SatL.nil (SatE.thenC ?_)
      refine SatC.ret (SatE.then_ret ?_)
      refine SatE.ret1 rfl rfl ?_
      exact ⟨10, l, last, .inl ⟨.inr (by assumption), rfl, rfl, rfl⟩, rfl, v, B, hsl, hS⟩
    · (try simp only [cx, ne_eq] at h2)
      try (exfalso; (first | omega | exact h2 trivial | contradiction | (first | omega | exact h2 rfl | (simp at h2; done))); done)
      all_goals
      refine SatC.skip (SatE.thenC ?_)
      refine SatC.seq ?_
      refine SatC.seq ?_
      refine SatC.region ?_
      refine SatL.pu (RunV.move rfl) rfl ?_
      refine SatL.pu (RunV.move rfl) rfl ?_
      refine SatL.pu (RunV.move rfl) rfl ?_
      refine SatL.op rfl (OpW.enter rfl rfl rfl (rfl) (rfind_any s d (hS.ownT (A := (b, C 55 (rt most v last)) :: B) (by repeat constructor)) hsl hl) ?_)
      rintro r3 w3 ⟨k, hk, rfl, h⟩
      replace hS := St.callN hS h
      refine SatL.pu (RunV.geq rfl rfl) rfl ?_
      refine SatL.nil (SatE.thenC ?_)
      refine SatC.weak (e' := [(0, _), (1, _), (2, _), (3, _), (4, _), (10, _), (27, _)]) (by repeat constructor) ?_
      refine SatC.cond rfl (fun h3 => ?_) (fun h3 => ?_)
      · (try simp only [cx, ne_eq] at h3)
        try (exfalso; (first | omega | exact h3 trivial | contradiction | (first | omega | exact h3 rfl | (simp at h3; done))); done)
        all_goals
        refine SatC.seq ?_
        obtain ⟨n, rfl⟩ : ∃ n : Nat, k = n := ⟨k.toNat, by omega⟩
        refine SatC.region ?_
        refine SatL.pu (RunV.assign rfl) rfl ?_
        refine SatL.nil (SatE.thenC ?_)
        refine SatC.ret (SatE.then_ret ?_)
        refine SatE.ret1 rfl rfl ?_
        exact ⟨20, l, last, .inr ⟨by assumption, by assumption, .inl ⟨⟨n, hk⟩, rfl, rfl, rfl⟩⟩, rfl, v, B, hsl, hS⟩
      · (try simp only [cx, ne_eq] at h3)
        try (exfalso; (first | omega | exact h3 trivial | contradiction | (first | omega | exact h3 rfl | (simp at h3; done))); done)
        all_goals
        refine SatC.skip (SatE.thenC ?_)
        refine SatC.seq ?_
        refine SatC.seq ?_
        have hk1 : Fd l s d (-1) := by
          rcases hk with hk | ⟨n, x, rfl, _⟩
          · exact .inl ⟨rfl, hk.2⟩
          · omega
        refine SatC.drawnT 10 hS (hS) (by kernel_rfl) ?_
        clear hS
        intro w4 hh hS hD
        refine SatD.tk 0 rfl hD (fun _ hw => RunV.move rfl) ?_
        first | refine SatD.tk 1 rfl hD (fun _ hw => RunV.nil_ptr rfl) ?_ | refine SatD.tk 1 rfl hD (fun _ hw => RunV.nil_func rfl) ?_ | refine SatD.tk 1 rfl hD (fun _ hw => RunV.nil_yield rfl) ?_
        first | refine SatD.tk 2 rfl hD (fun _ hw => RunV.fieldAddrL rfl rfl rfl) ?_ | refine SatD.tk 2 rfl hD (fun _ hw => RunV.fieldAddr rfl rfl rfl) ?_
        refine SatD.tk 3 rfl hD (fun _ hw => RunV.load1 hw rfl rfl (by repeat constructor) rfl) ?_
        refine SatD.tk 4 rfl hD (fun _ hw => RunV.lenR hv0 rfl rfl) ?_
        refine SatD.tk 5 rfl hD (fun _ hw => RunV.move rfl) ?_
        first | refine SatD.tk 6 rfl hD (fun _ hw => RunV.nil_ptr rfl) ?_ | refine SatD.tk 6 rfl hD (fun _ hw => RunV.nil_func rfl) ?_ | refine SatD.tk 6 rfl hD (fun _ hw => RunV.nil_yield rfl) ?_
        first | refine SatD.tk 7 rfl hD (fun _ hw => RunV.fieldAddrL rfl rfl rfl) ?_ | refine SatD.tk 7 rfl hD (fun _ hw => RunV.fieldAddr rfl rfl rfl) ?_
        refine SatD.tk 8 rfl hD (fun _ hw => RunV.load1 hw rfl rfl (by repeat constructor) rfl) ?_
        refine SatD.tk 9 rfl hD (fun _ hw => RunV.geq rfl rfl) ?_
        refine SatD.done 0 (by kernel_rfl) (SatE.thenC ?_)
        clear hD
        refine SatC.cond rfl (fun h4 => ?_) (fun h4 => ?_)
        · (try simp only [cx, ne_eq] at h4)
          try (exfalso; (first | omega | exact h4 trivial | contradiction | (first | omega | exact h4 rfl | (simp at h4; done))); done)
          all_goals
          refine SatC.seq ?_
          refine SatC.weak (e' := [(10, _)]) (by repeat constructor) ?_
          refine SatC.region ?_
          refine SatL.pu (RunV.assign rfl) rfl ?_
          refine SatL.nil (SatE.thenC ?_)
          refine SatC.ret (SatE.then_ret ?_)
          refine SatE.ret1 rfl rfl ?_
          exact ⟨5, l, last, .inr ⟨by assumption, by assumption, .inr ⟨hk1, .inl ⟨by assumption, rfl, rfl, rfl⟩⟩⟩, rfl, v, B, hsl, hS⟩
        · (try simp only [cx, ne_eq] at h4)
          try (exfalso; (first | omega | exact h4 trivial | contradiction | (first | omega | exact h4 rfl | (simp at h4; done))); done)
          all_goals
          refine SatC.skip (SatE.thenC ?_)
          refine SatC.seq ?_
          refine SatC.region ?_
          refine SatL.pu (RunV.move rfl) rfl ?_
          refine SatL.pu (RunV.move rfl) rfl ?_
          refine SatL.pu (RunV.move rfl) rfl ?_
          refine SatL.pu (RunV.move rfl) rfl ?_
          refine SatL.pu (RunV.move rfl) rfl ?_
          refine SatL.pu (RunV.build rfl (by simp [go_sem]; try rfl)) rfl ?_
          refine SatL.op rfl (OpW.alloc hS rfl rfl (by repeat constructor) ?_)
          clear hS
          intro b11 w5 _ hS
          refine SatL.op rfl (OpW.store hS rfl rfl (by repeat constructor) (by repeat constructor) (by repeat constructor) rfl rfl ?_)
          clear hS
          intro w6 hS
          refine SatL.nil (SatE.thenC ?_)
          refine SatC.seq ?_
          refine SatC.weak (e' := [(0, _), (4, _), (10, _), (11, _)]) (by repeat constructor) ?_
          refine SatC.region ?_
          refine SatL.pu (RunV.assign rfl) rfl ?_
          refine SatL.nil (SatE.thenC ?_)
          refine SatC.seq ?_
          refine SatC.region ?_
          refine SatL.pu (RunV.assign rfl) rfl ?_
          refine SatL.nil (SatE.thenC ?_)
          refine SatC.seq ?_
          refine SatC.seq ?_
          refine SatC.region ?_
          refine SatL.pu (RunV.assign rfl) rfl ?_
          refine SatL.nil (SatE.thenC ?_)
          refine SatC.block ?_
          refine SatC.loopK (G := Nat × List Itn × Value × List (Nat × Obj) × Bool) (V := fun ⟨i, acc, va, Ba, laid⟩ => [(12, va), (13, .bool laid), (14, .int .i64 (i : Int))]) (Cn := [(0, _), (4, _), (10, _), (11, _)]) (I := fun ⟨i, acc, va, Ba, laid⟩ w' => i ≤ l.length ∧ Sl 28 5 va (acc.map ic) Ba ∧ acc ++ insI ⟨s, d, a, ix, ix⟩ laid (l.drop i) = insI ⟨s, d, a, ix, ix⟩ false l ∧ acc.length ≤ 2 * i ∧ St w X (Ba ++ ((b11, C 28 [str s, str d, .bool a, .int .u64 ix, .int .u64 ix]) :: (b, C 55 (rt most v last)) :: B)) w') (μ := fun ⟨i, acc, va, Ba, laid⟩ => l.length - i) (0, [], .slice none 0 0, [], false) ?_ (by repeat constructor) ?_
          · exact ⟨Nat.zero_le _, .nil, rfl, by simp, hS.sel (by repeat constructor)⟩
          clear hS
          rintro ⟨i, acc, va, Ba, laid⟩ w7 ⟨hi, hsa, hacc, hlen, hS⟩
          refine SatC.weak (e' := [(0, _), (4, _), (10, _), (11, _), (12, _), (13, _), (14, _)]) (by repeat constructor) ?_
          refine SatC.seq ?_
          refine SatC.seq ?_
          refine SatC.region ?_
          refine SatL.pu (RunV.move rfl) rfl ?_
          refine SatL.pu (RunV.move rfl) rfl ?_
          first | refine SatL.pu (RunV.nil_ptr rfl) rfl ?_ | refine SatL.pu (RunV.nil_func rfl) rfl ?_ | refine SatL.pu (RunV.nil_yield rfl) rfl ?_
          first | refine SatL.pu (RunV.fieldAddrL rfl rfl rfl) rfl ?_ | refine SatL.pu (RunV.fieldAddr rfl rfl rfl) rfl ?_
          refine SatL.pu (RunV.load1 hS rfl rfl (by repeat constructor) rfl) rfl ?_
          refine SatL.pu (RunV.lenR hv0 rfl rfl) rfl ?_
          refine SatL.pu (RunV.lss rfl rfl) rfl ?_
          refine SatL.nil (SatE.thenC ?_)
          refine SatC.cond rfl (fun h5 => ?_) (fun h5 => ?_)
          · (try simp only [cx, ne_eq] at h5)
            try (exfalso; (first | omega | exact h5 trivial | contradiction | (first | omega | exact h5 rfl | (simp at h5; done))); done)
            all_goals
            refine SatC.skip (SatE.thenC ?_)
            refine SatC.seq ?_
            refine SatC.block ?_
            refine SatC.seq ?_
            refine SatC.seq ?_
            obtain ⟨y, hy⟩ := get_some l i (by omega)
            rw [drop_at hy] at hacc
            refine SatC.drawnT 13 hS (hS.sel (R := (b11, C 28 [str s, str d, .bool a, .int .u64 ix, .int .u64 ix]) :: (b, C 55 (rt most v last)) :: B) (by repeat constructor)) (by kernel_rfl) ?_
            clear hS
            intro w8 hh hS hD
            refine SatD.tk 0 rfl hD (fun _ hw => RunV.move rfl) ?_
            refine SatD.tk 1 rfl hD (fun _ hw => RunV.not rfl) ?_
            refine SatD.tk 2 rfl hD (fun _ hw => RunV.move rfl) ?_
            refine SatD.ways 55 rfl (fun h6 => ?_) (fun h6 => ?_)
            · (try simp only [cx, ne_eq] at h6)
              try (exfalso; (first | omega | exact h6 trivial | contradiction | (first | omega | exact h6 rfl | (simp at h6; done))); done)
              all_goals
              refine SatD.tk 3 rfl hD (fun _ hw => RunV.loadN hw rfl rfl (by repeat constructor) (by repeat constructor)) ?_
              refine SatD.tk 4 rfl hD (fun _ hw => RunV.move rfl) ?_
              first | refine SatD.tk 5 rfl hD (fun _ hw => RunV.nil_ptr rfl) ?_ | refine SatD.tk 5 rfl hD (fun _ hw => RunV.nil_func rfl) ?_ | refine SatD.tk 5 rfl hD (fun _ hw => RunV.nil_yield rfl) ?_
              first | refine SatD.tk 6 rfl hD (fun _ hw => RunV.fieldAddrL rfl rfl rfl) ?_ | refine SatD.tk 6 rfl hD (fun _ hw => RunV.fieldAddr rfl rfl rfl) ?_
              refine SatD.tk 7 rfl hD (fun _ hw => RunV.load1 hw rfl rfl (by repeat constructor) rfl) ?_
              refine SatD.tk 8 rfl hD (fun _ hw => RunV.move rfl) ?_
              refine SatD.tk 9 rfl hD (fun _ hw => RunV.indexR hv0 rfl rfl rfl (by omega) (by omega) rfl) ?_
              refine SatD.tk 10 rfl hD (fun _ hw => RunV.loadRNz (hsl.rd hw (by repeat constructor)) rfl rfl (map_get hy)) ?_
              refine SatD.ef 11 rfl (OpW.enter rfl rfl rfl (rfl) (ahead_any ⟨s, d, a, ix, ix⟩ y _) ?_)
              rintro r9 w9 ⟨rfl, h⟩
              replace hS := St.callN hS h
              refine keepS (hS.sel (by repeat constructor)) (fun hD => ?_)
              refine SatD.tk 12 rfl hD (fun _ hw => RunV.pick_t rfl rfl) ?_
              refine SatD.done 0 (by kernel_rfl) (SatE.thenC ?_)
              clear hD
              refine SatC.weak (e' := [(0, _), (4, _), (10, _), (11, _), (12, _), (13, _), (14, _), (65, _)]) (by repeat constructor) ?_
              refine SatC.cond rfl (fun h7 => ?_) (fun h7 => ?_)
              · (try simp only [cx, ne_eq] at h7)
                try (exfalso; (first | omega | exact h7 trivial | contradiction | (first | omega | exact h7 rfl | (simp at h7; done))); done)
                all_goals
                refine SatC.seq ?_
                refine SatC.region ?_
                refine SatL.pu (RunV.move rfl) rfl ?_
                refine SatL.pu (RunV.loadN hS rfl rfl (by repeat constructor) (by repeat constructor)) rfl ?_
                refine SatL.op rfl (OpW.buildSlice1 hS rfl rfl rfl rfl rfl (by repeat constructor) rfl rfl rfl ?_)
                clear hS
                intro b68 w10 _ hS
                refine SatL.op rfl (OpW.append1 (by assumption) hS (by repeat constructor) rfl rfl (by repeat constructor) rfl rfl rfl rfl rfl rfl rfl rfl (by first | omega | (simp only [List.length_map]; omega) | (simp only [List.length_append, List.length_map, List.length_cons, List.length_nil]; omega)) rfl ?_)
                clear hS
                intro v69 B69 w11 hsl69 hS
                refine SatL.pu (RunV.assign rfl) rfl ?_
                refine SatL.nil (SatE.thenC ?_)
                refine SatC.region ?_
                refine SatL.pu (RunV.assign rfl) rfl ?_
                refine SatL.nil (SatE.thenC ?_)
                refine SatC.region ?_
                refine SatL.pu (RunV.move rfl) rfl ?_
                refine SatL.pu (RunV.move rfl) rfl ?_
                first | refine SatL.pu (RunV.nil_ptr rfl) rfl ?_ | refine SatL.pu (RunV.nil_func rfl) rfl ?_ | refine SatL.pu (RunV.nil_yield rfl) rfl ?_
                first | refine SatL.pu (RunV.fieldAddrL rfl rfl rfl) rfl ?_ | refine SatL.pu (RunV.fieldAddr rfl rfl rfl) rfl ?_
                refine SatL.pu (RunV.load1 hS rfl rfl (by repeat constructor) rfl) rfl ?_
                refine SatL.pu (RunV.move rfl) rfl ?_
                refine SatL.pu (RunV.indexR hv0 rfl rfl rfl (by omega) (by omega) rfl) rfl ?_
                refine SatL.pu (RunV.loadRNz (hsl.rd hS (by repeat constructor)) rfl rfl (map_get hy)) rfl ?_
                refine SatL.op rfl (OpW.buildSlice1 hS rfl rfl rfl rfl rfl (by repeat constructor) rfl rfl rfl ?_)
                clear hS
                intro b78 w12 _ hS
                refine SatL.op rfl (OpW.append1 (by assumption) hS (by repeat constructor) rfl rfl (by repeat constructor) rfl rfl rfl rfl rfl rfl rfl rfl (by first | omega | (simp only [List.length_map]; omega) | (simp only [List.length_append, List.length_map, List.length_cons, List.length_nil]; omega)) rfl ?_)
                clear hS
                intro v79 B79 w13 hsl79 hS
                refine SatL.pu (RunV.assign rfl) rfl ?_
                refine SatL.nil (SatE.blk_normal (SatE.thenC ?_))
                refine SatC.weak (e' := [(0, _), (4, _), (10, _), (11, _), (12, _), (13, _), (14, _)]) (by repeat constructor) ?_
                refine SatC.region ?_
                refine SatL.pu (RunV.move rfl) rfl ?_
                refine SatL.pu (RunV.add rfl rfl (by first | exact wrapI64 (by omega) | rfl)) rfl ?_
                refine SatL.pu (RunV.assign rfl) rfl ?_
                refine SatL.nil ?_
                first
                | (refine SatE.again (i + 1, acc ++ [⟨s, d, a, ix, ix⟩] ++ [y], v79, B79, true) ⟨by omega, by rw [List.map_append, List.map_append]; exact hsl79, ?_, by simp only [List.length_append, List.length_cons, List.length_nil]; omega, hS.sel (by repeat constructor)⟩ (by dsimp only; omega) (by repeat constructor)
                   have el : laid = false := by assumption
                   subst el
                   rw [insI_gt (by assumption)] at hacc; simpa using hacc)
                | (refine SatE.again (i + 1, acc ++ [y], v79, B79, laid) ⟨by omega, by rw [List.map_append]; exact hsl79, ?_, by simp only [List.length_append, List.length_cons, List.length_nil]; omega, hS.sel (by repeat constructor)⟩ (by dsimp only; omega) (by repeat constructor)
                   rw [insI_lt (by first | exact .inl (by assumption) | exact .inr (by assumption))] at hacc; simpa using hacc)
              · (try simp only [cx, ne_eq] at h7)
                try (exfalso; (first | omega | exact h7 trivial | contradiction | (first | omega | exact h7 rfl | (simp at h7; done))); done)
                all_goals
                refine SatC.skip (SatE.thenC ?_)
                refine SatC.region ?_
                refine SatL.pu (RunV.move rfl) rfl ?_
                refine SatL.pu (RunV.move rfl) rfl ?_
                first | refine SatL.pu (RunV.nil_ptr rfl) rfl ?_ | refine SatL.pu (RunV.nil_func rfl) rfl ?_ | refine SatL.pu (RunV.nil_yield rfl) rfl ?_
                first | refine SatL.pu (RunV.fieldAddrL rfl rfl rfl) rfl ?_ | refine SatL.pu (RunV.fieldAddr rfl rfl rfl) rfl ?_
                refine SatL.pu (RunV.load1 hS rfl rfl (by repeat constructor) rfl) rfl ?_
                refine SatL.pu (RunV.move rfl) rfl ?_
                refine SatL.pu (RunV.indexR hv0 rfl rfl rfl (by omega) (by omega) rfl) rfl ?_
                refine SatL.pu (RunV.loadRNz (hsl.rd hS (by repeat constructor)) rfl rfl (map_get hy)) rfl ?_
                refine SatL.op rfl (OpW.buildSlice1 hS rfl rfl rfl rfl rfl (by repeat constructor) rfl rfl rfl ?_)
                clear hS
                intro b78 w10 _ hS
                refine SatL.op rfl (OpW.append1 (by assumption) hS (by repeat constructor) rfl rfl (by repeat constructor) rfl rfl rfl rfl rfl rfl rfl rfl (by first | omega | (simp only [List.length_map]; omega) | (simp only [List.length_append, List.length_map, List.length_cons, List.length_nil]; omega)) rfl ?_)
                clear hS
                intro v79 B79 w11 hsl79 hS
                refine SatL.pu (RunV.assign rfl) rfl ?_
                refine SatL.nil (SatE.blk_normal (SatE.thenC ?_))
                refine SatC.region ?_
                refine SatL.pu (RunV.move rfl) rfl ?_
                refine SatL.pu (RunV.add rfl rfl (by first | exact wrapI64 (by omega) | rfl)) rfl ?_
                refine SatL.pu (RunV.assign rfl) rfl ?_
                refine SatL.nil ?_
                first
                | (refine SatE.again (i + 1, acc ++ [⟨s, d, a, ix, ix⟩] ++ [y], v79, B79, true) ⟨by omega, by rw [List.map_append, List.map_append]; exact hsl79, ?_, by simp only [List.length_append, List.length_cons, List.length_nil]; omega, hS.sel (by repeat constructor)⟩ (by dsimp only; omega) (by repeat constructor)
                   have el : laid = false := by assumption
                   subst el
                   rw [insI_gt (by assumption)] at hacc; simpa using hacc)
                | (refine SatE.again (i + 1, acc ++ [y], v79, B79, laid) ⟨by omega, by rw [List.map_append]; exact hsl79, ?_, by simp only [List.length_append, List.length_cons, List.length_nil]; omega, hS.sel (by repeat constructor)⟩ (by dsimp only; omega) (by repeat constructor)
                   rw [insI_lt (by first | exact .inl (by assumption) | exact .inr (by assumption))] at hacc; simpa using hacc)
            · (try simp only [cx, ne_eq] at h6)
              try (exfalso; (first | omega | exact h6 trivial | contradiction | (first | omega | exact h6 rfl | (simp at h6; done))); done)
              all_goals
              refine SatD.sk 3 rfl [] hD ?_
              refine SatD.sk 4 rfl [] hD ?_
              refine SatD.sk 5 rfl [] hD ?_
              refine SatD.sk 6 rfl [] hD ?_
              refine SatD.sk 7 rfl [] hD ?_
              refine SatD.sk 8 rfl [] hD ?_
              refine SatD.sk 9 rfl [] hD ?_
              refine SatD.sk 10 rfl [] hD ?_
              refine SatD.sk 11 rfl [] hD ?_
              refine SatD.tk 12 rfl hD (fun _ hw => RunV.pick_f rfl rfl) ?_
              refine SatD.done 0 (by kernel_rfl) (SatE.thenC ?_)
              clear hD
              refine SatC.weak (e' := [(0, _), (4, _), (10, _), (11, _), (12, _), (13, _), (14, _), (65, _)]) (by repeat constructor) ?_
              refine SatC.cond_f rfl ?_
              refine SatC.skip (SatE.thenC ?_)
              refine SatC.region ?_
              refine SatL.pu (RunV.move rfl) rfl ?_
              refine SatL.pu (RunV.move rfl) rfl ?_
              first | refine SatL.pu (RunV.nil_ptr rfl) rfl ?_ | refine SatL.pu (RunV.nil_func rfl) rfl ?_ | refine SatL.pu (RunV.nil_yield rfl) rfl ?_
              first | refine SatL.pu (RunV.fieldAddrL rfl rfl rfl) rfl ?_ | refine SatL.pu (RunV.fieldAddr rfl rfl rfl) rfl ?_
              refine SatL.pu (RunV.load1 hS rfl rfl (by repeat constructor) rfl) rfl ?_
              refine SatL.pu (RunV.move rfl) rfl ?_
              refine SatL.pu (RunV.indexR hv0 rfl rfl rfl (by omega) (by omega) rfl) rfl ?_
              refine SatL.pu (RunV.loadRNz (hsl.rd hS (by repeat constructor)) rfl rfl (map_get hy)) rfl ?_
              refine SatL.op rfl (OpW.buildSlice1 hS rfl rfl rfl rfl rfl (by repeat constructor) rfl rfl rfl ?_)
              clear hS
              intro b78 w9 _ hS
              refine SatL.op rfl (OpW.append1 (by assumption) hS (by repeat constructor) rfl rfl (by repeat constructor) rfl rfl rfl rfl rfl rfl rfl rfl (by first | omega | (simp only [List.length_map]; omega) | (simp only [List.length_append, List.length_map, List.length_cons, List.length_nil]; omega)) rfl ?_)
              clear hS
              intro v79 B79 w10 hsl79 hS
              refine SatL.pu (RunV.assign rfl) rfl ?_
              refine SatL.nil (SatE.blk_normal (SatE.thenC ?_))
              refine SatC.region ?_
              refine SatL.pu (RunV.move rfl) rfl ?_
              refine SatL.pu (RunV.add rfl rfl (by first | exact wrapI64 (by omega) | rfl)) rfl ?_
              refine SatL.pu (RunV.assign rfl) rfl ?_
              refine SatL.nil ?_
              first
              | (refine SatE.again (i + 1, acc ++ [⟨s, d, a, ix, ix⟩] ++ [y], v79, B79, true) ⟨by omega, by rw [List.map_append, List.map_append]; exact hsl79, ?_, by simp only [List.length_append, List.length_cons, List.length_nil]; omega, hS.sel (by repeat constructor)⟩ (by dsimp only; omega) (by repeat constructor)
                 have el : laid = false := by assumption
                 subst el
                 rw [insI_gt (by assumption)] at hacc; simpa using hacc)
              | (refine SatE.again (i + 1, acc ++ [y], v79, B79, laid) ⟨by omega, by rw [List.map_append]; exact hsl79, ?_, by simp only [List.length_append, List.length_cons, List.length_nil]; omega, hS.sel (by repeat constructor)⟩ (by dsimp only; omega) (by repeat constructor)
                 rw [insI_lt (by first | exact .inl (by assumption) | exact .inr (by assumption))] at hacc; simpa using hacc)
          · (try simp only [cx, ne_eq] at h5)
            try (exfalso; (first | omega | exact h5 trivial | contradiction | (first | omega | exact h5 rfl | (simp at h5; done))); done)
            all_goals
            refine SatC.exit (SatE.then_exit (SatE.then_exit (SatE.blk_exit (SatE.thenC ?_))))
            refine SatC.merge (G := Value × List (Nat × Obj)) (V := fun ⟨vz, Bz⟩ => [(12, vz)]) (Cn := [(0, _), (4, _), (10, _)]) (I := fun ⟨vz, Bz⟩ w' => Sl 28 5 vz ((insI ⟨s, d, a, ix, ix⟩ false l).map ic) Bz ∧ St w X (Bz ++ ((b11, C 28 [str s, str d, .bool a, .int .u64 ix, .int .u64 ix]) :: (b, C 55 (rt most v last)) :: B)) w') (by repeat constructor) ?_ ?_
            · skip
              refine SatC.seq ?_
              rw [List.drop_of_length_le (by omega)] at hacc
              refine SatC.region ?_
              refine SatL.pu (RunV.move rfl) rfl ?_
              refine SatL.pu (RunV.not rfl) rfl ?_
              refine SatL.nil (SatE.thenC ?_)
              refine SatC.cond rfl (fun h6 => ?_) (fun h6 => ?_)
              · (try simp only [cx, ne_eq] at h6)
                try (exfalso; (first | omega | exact h6 trivial | contradiction | (first | omega | exact h6 rfl | (simp at h6; done))); done)
                all_goals
                refine SatC.region ?_
                refine SatL.pu (RunV.move rfl) rfl ?_
                refine SatL.pu (RunV.loadN hS rfl rfl (by repeat constructor) (by repeat constructor)) rfl ?_
                refine SatL.op rfl (OpW.buildSlice1 hS rfl rfl rfl rfl rfl (by repeat constructor) rfl rfl rfl ?_)
                clear hS
                intro b84 w8 _ hS
                refine SatL.op rfl (OpW.append1 (by assumption) hS (by repeat constructor) rfl rfl (by repeat constructor) rfl rfl rfl rfl rfl rfl rfl rfl (by first | omega | (simp only [List.length_map]; omega) | (simp only [List.length_append, List.length_map, List.length_cons, List.length_nil]; omega)) rfl ?_)
                clear hS
                intro v85 B85 w9 hsl85 hS
                refine SatL.pu (RunV.assign rfl) rfl ?_
                refine SatL.nil ?_
                refine SatE.met ((v85, B85)) ?_ (by repeat constructor)
                refine ⟨?_, hS.sel (by repeat constructor)⟩
                rw [← hacc, show laid = false from by assumption, show insI ⟨s, d, a, ix, ix⟩ false [] = [⟨s, d, a, ix, ix⟩] from rfl, List.map_append]
                exact hsl85
              · (try simp only [cx, ne_eq] at h6)
                try (exfalso; (first | omega | exact h6 trivial | contradiction | (first | omega | exact h6 rfl | (simp at h6; done))); done)
                all_goals
                refine SatC.skip ?_
                refine SatE.met ((va, Ba)) ?_ (by repeat constructor)
                refine ⟨?_, hS.sel (by repeat constructor)⟩
                rw [← hacc, show laid = true from by assumption, show insI ⟨s, d, a, ix, ix⟩ true [] = [] from rfl, List.append_nil]
                exact hsa
            · clear hS
              rintro ⟨vz, Bz⟩ w68 ⟨hsz, hS⟩
              refine SatC.weak (e' := [(0, _), (4, _), (10, _), (12, _)]) (by repeat constructor) ?_
              refine SatC.seq ?_
              refine SatC.region ?_
              refine SatL.pu (RunV.move rfl) rfl ?_
              refine SatL.pu (RunV.move rfl) rfl ?_
              first | refine SatL.pu (RunV.nil_ptr rfl) rfl ?_ | refine SatL.pu (RunV.nil_func rfl) rfl ?_ | refine SatL.pu (RunV.nil_yield rfl) rfl ?_
              first | refine SatL.pu (RunV.fieldAddrL rfl rfl rfl) rfl ?_ | refine SatL.pu (RunV.fieldAddr rfl rfl rfl) rfl ?_
              refine SatL.op rfl (OpW.storeSv hS rfl rfl hsz (by repeat constructor) (by repeat constructor) rfl ?_)
              clear hS
              intro w9 hS
              refine SatL.nil (SatE.thenC ?_)
              refine SatC.seq ?_
              refine SatC.region ?_
              refine SatL.pu (RunV.move rfl) rfl ?_
              refine SatL.pu (RunV.move rfl) rfl ?_
              refine SatL.op rfl (OpW.enter rfl rfl rfl (rfl) (raise_ref ix (hS.ownT (A := (b, C 55 (rt most vz last)) :: Bz) (by repeat constructor))) ?_)
              rintro r70 w70 ⟨rfl, h⟩
              replace hS := hS.callT (A := (b, C 55 (rt most vz last)) :: Bz) (by repeat constructor) h
              refine SatL.nil (SatE.thenC ?_)
              refine SatC.seq ?_
              refine SatC.region ?_
              refine SatL.pu (RunV.assign rfl) rfl ?_
              refine SatL.nil (SatE.thenC ?_)
              refine SatC.ret ?_
              refine SatE.ret1 rfl rfl ?_
              exact ⟨0, _, _, .inr ⟨by assumption, by assumption, .inr ⟨hk1, .inr ⟨by omega, rfl, rfl, rfl⟩⟩⟩, rfl, vz, Bz, hsz, hS.sel (by repeat constructor)⟩
  · (try simp only [cx, ne_eq] at h1)
    try (exfalso; (first | omega | exact h1 trivial | contradiction | (first | omega | exact h1 rfl | (simp at h1; done))); done)
    all_goals
    refine SatL.guard_n rfl rfl rfl rfl ?_
    refine SatL.guard_n rfl rfl rfl rfl ?_
    refine SatL.pu (RunV.pick_t rfl rfl) rfl ?_
    refine SatL.nil (SatE.thenC ?_)
    refine SatC.cond_t rfl ?_
    refine SatC.seq ?_
    refine SatC.weak (e' := [(10, _)]) (by repeat constructor) ?_
    refine SatC.region ?_
    refine SatL.pu (RunV.assign rfl) rfl ?_
    refine SatL.nil (SatE.thenC ?_)
    refine SatC.ret (SatE.then_ret ?_)
    refine SatE.ret1 rfl rfl ?_
    exact ⟨10, l, last, .inl ⟨.inl (by assumption), rfl, rfl, rfl⟩, rfl, v, B, hsl, hS⟩
/-- The document's turning. -/
def TurnR (last : Int) (l : List Itn) (s d : List UInt8) (a : Bool) (old ix : Int) (e : Int) (l' : List Itn) (last' : Int) : Prop :=
  ∃ k, AskR l s d old k e ∧ (¬ e = 0 ∧ l' = l ∧ last' = last ∨ e = 0 ∧ (∃ (n : Nat) (x : Itn), k = n ∧ l[n]? = some x ∧ l' = l.set n { x with a := a, x := ix }) ∧ last' = max last ix)
def DropR (last : Int) (l : List Itn) (s d : List UInt8) (old ix : Int) (e : Int) (l' : List Itn) (last' : Int) : Prop :=
  ∃ k, AskR l s d old k e ∧ (¬ e = 0 ∧ l' = l ∧ last' = last ∨ e = 0 ∧ (∃ n : Nat, k = n ∧ l' = l.eraseIdx n) ∧ last' = max last ix)
theorem ask_ok {s d : List UInt8} {old k : Int} (h : AskR l s d old k 0) : ∃ (n : Nat) (x : Itn), k = n ∧ l[n]? = some x := by
  rcases h with ⟨_, h⟩ | ⟨_, _, ⟨_, h⟩ | ⟨n, x, h1, _, _, ⟨_, _, h⟩ | ⟨_, _, h⟩⟩⟩
  · cases h
  · cases h
  · cases h
  · exact ⟨n, x, h, h1⟩
theorem rmap_set {l : List Itn} {n : Nat} (x : Itn) : (l.map ic).set n (ic x) = (l.set n x).map ic := List.map_set.symm
theorem rturn_any (s d : List UInt8) (a : Bool) (old ix : Int) (hown : Own w ((b, C 55 (rt most v last)) :: B)) (hsl : Sl 28 5 v (l.map ic) B) (hl : l.length ≤ 1000) :
    Ret Try.prog 49 #[.pointer (some ⟨b, 0, none⟩), str s, str d, .bool a, .int .u64 old, .int .u64 ix] w fun u w' => ∃ e l' last', TurnR last l s d a old ix e l' last' ∧ u = .int .i64 e ∧
      ∃ v' B', Sl 28 5 v' (l'.map ic) B' ∧ St w (b :: B.map Prod.fst) ((b, C 55 (rt most v' last')) :: B') w' := by
  have hS := St.init hown
  obtain ⟨c0, hv0⟩ := hsl.slv
  simp only [List.length_map] at hv0
  rw [List.map_cons] at hS
  generalize hX : b :: B.map Prod.fst = X at hS ⊢
  refine Ret.enter Try.func49 Try.ntmps49 rfl rfl ?_
  simp only [argEnv, Nat.reduceAdd]
  refine SatC.seq ?_
  refine SatC.region ?_
  refine SatL.pu (RunV.assign rfl) rfl ?_
  refine SatL.nil (SatE.thenC ?_)
  refine SatC.seq ?_
  refine SatC.region ?_
  refine SatL.pu (RunV.move rfl) rfl ?_
  refine SatL.pu (RunV.move rfl) rfl ?_
  refine SatL.pu (RunV.move rfl) rfl ?_
  refine SatL.pu (RunV.move rfl) rfl ?_
  refine SatL.op rfl (OpW.enter rfl rfl rfl (rfl) (asked_any s d old (hS.ownT (A := (b, C 55 (rt most v last)) :: B) (by repeat constructor)) hsl hl) ?_)
  rintro r1 w1 ⟨k, e, hk, rfl, h⟩
  replace hS := St.callN hS h
  refine SatL.pu (RunV.move rfl) rfl ?_
  refine SatL.pu (RunV.extract rfl rfl) rfl ?_
  refine SatL.pu (RunV.extract rfl rfl) rfl ?_
  refine SatL.pu (RunV.assign rfl) rfl ?_
  refine SatL.pu (RunV.assign rfl) rfl ?_
  refine SatL.nil (SatE.thenC ?_)
  refine SatC.seq ?_
  refine SatC.seq ?_
  refine SatC.region ?_
  refine SatL.pu (RunV.move rfl) rfl ?_
  refine SatL.pu (RunV.neq rfl rfl) rfl ?_
  refine SatL.nil (SatE.thenC ?_)
  refine SatC.weak (e' := [(0, _), (3, _), (5, _), (12, _), (13, _), (14, _), (24, _)]) (by repeat constructor) ?_
  refine SatC.cond rfl (fun h1 => ?_) (fun h1 => ?_)
  · (try simp only [cx, ne_eq] at h1)
    try (exfalso; (first | omega | exact h1 trivial | contradiction | (first | omega | exact h1 rfl | (simp at h1; done))); done)
    all_goals
    refine SatC.seq ?_
    refine SatC.region ?_
    refine SatL.pu (RunV.move rfl) rfl ?_
    refine SatL.pu (RunV.assign rfl) rfl ?_
    refine SatL.nil (SatE.thenC ?_)
    refine SatC.ret (SatE.then_ret ?_)
    refine SatE.ret1 rfl rfl ?_
    exact ⟨e, l, last, ⟨k, hk, .inl ⟨by assumption, rfl, rfl⟩⟩, rfl, v, B, hsl, hS⟩
  · (try simp only [cx, ne_eq] at h1)
    try (exfalso; (first | omega | exact h1 trivial | contradiction | (first | omega | exact h1 rfl | (simp at h1; done))); done)
    all_goals
    refine SatC.skip (SatE.thenC ?_)
    refine SatC.seq ?_
    have he : e = 0 := by assumption
    subst he
    obtain ⟨n, x, rfl, hx⟩ := ask_ok hk
    have hnl := (List.getElem?_eq_some_iff.1 hx).1
    refine SatC.region ?_
    refine SatL.pu (RunV.move rfl) rfl ?_
    first | refine SatL.pu (RunV.nil_ptr rfl) rfl ?_ | refine SatL.pu (RunV.nil_func rfl) rfl ?_ | refine SatL.pu (RunV.nil_yield rfl) rfl ?_
    first | refine SatL.pu (RunV.fieldAddrL rfl rfl rfl) rfl ?_ | refine SatL.pu (RunV.fieldAddr rfl rfl rfl) rfl ?_
    refine SatL.pu (RunV.load1 hS rfl rfl (by repeat constructor) rfl) rfl ?_
    refine SatL.pu (RunV.move rfl) rfl ?_
    refine SatL.pu (RunV.move rfl) rfl ?_
    refine SatL.pu (RunV.indexR hv0 rfl rfl rfl (by omega) (by omega) rfl) rfl ?_
    first | refine SatL.pu (RunV.fieldAddrL rfl rfl rfl) rfl ?_ | refine SatL.pu (RunV.fieldAddr rfl rfl rfl) rfl ?_
    refine SatL.op rfl (OpW.storeSlJ (i := n) (j := 2) hsl hS (by repeat constructor) rfl rfl (by omega) (map_get hx) (by decide) rfl rfl ?_)
    clear hS
    intro B3 w2 hsl3 hS
    change Sl 28 5 v ((l.map ic).set n (ic { x with a := a })) B3 at hsl3
    rw [rmap_set] at hsl3
    obtain ⟨c3, hv3⟩ := hsl3.slv
    simp only [List.length_map, List.length_set] at hv3
    have hx3 : (l.set n { x with a := a })[n]? = some { x with a := a } := (by simp [hnl])
    refine SatL.nil (SatE.thenC ?_)
    refine SatC.seq ?_
    refine SatC.region ?_
    refine SatL.pu (RunV.move rfl) rfl ?_
    first | refine SatL.pu (RunV.nil_ptr rfl) rfl ?_ | refine SatL.pu (RunV.nil_func rfl) rfl ?_ | refine SatL.pu (RunV.nil_yield rfl) rfl ?_
    first | refine SatL.pu (RunV.fieldAddrL rfl rfl rfl) rfl ?_ | refine SatL.pu (RunV.fieldAddr rfl rfl rfl) rfl ?_
    refine SatL.pu (RunV.load1 hS rfl rfl (by repeat constructor) rfl) rfl ?_
    refine SatL.pu (RunV.move rfl) rfl ?_
    refine SatL.pu (RunV.move rfl) rfl ?_
    refine SatL.pu (RunV.indexR hv3 rfl rfl rfl (by omega) (by omega) rfl) rfl ?_
    first | refine SatL.pu (RunV.fieldAddrL rfl rfl rfl) rfl ?_ | refine SatL.pu (RunV.fieldAddr rfl rfl rfl) rfl ?_
    refine SatL.op rfl (OpW.storeSlJ (i := n) (j := 4) hsl3 hS (by repeat constructor) rfl rfl (by omega) (map_get hx3) (by decide) rfl rfl ?_)
    clear hS
    intro B4 w3 hsl4 hS
    change Sl 28 5 v (((l.set n { x with a := a }).map ic).set n (ic { x with a := a, x := ix })) B4 at hsl4
    rw [rmap_set, List.set_set] at hsl4
    refine SatL.nil (SatE.thenC ?_)
    refine SatC.seq ?_
    refine SatC.weak (e' := [(0, _), (5, _), (12, _)]) (by repeat constructor) ?_
    refine SatC.region ?_
    refine SatL.pu (RunV.move rfl) rfl ?_
    refine SatL.pu (RunV.move rfl) rfl ?_
    refine SatL.op rfl (OpW.enter rfl rfl rfl (rfl) (raise_ref ix (hS.ownT (A := (b, C 55 (rt most v last)) :: B4) (by repeat constructor))) ?_)
    rintro r4 w4 ⟨rfl, h⟩
    replace hS := hS.callT (A := (b, C 55 (rt most v last)) :: B4) (by repeat constructor) h
    refine SatL.nil (SatE.thenC ?_)
    refine SatC.seq ?_
    refine SatC.region ?_
    refine SatL.pu (RunV.assign rfl) rfl ?_
    refine SatL.nil (SatE.thenC ?_)
    refine SatC.ret ?_
    refine SatE.ret1 rfl rfl ?_
    exact ⟨0, _, _, ⟨n, hk, .inr ⟨rfl, ⟨n, x, rfl, hx, rfl⟩, rfl⟩⟩, rfl, v, B4, hsl4, hS.sel (by repeat constructor)⟩
theorem rdrop_any (s d : List UInt8) (old ix : Int) (hown : Own w ((b, C 55 (rt most v last)) :: B)) (hsl : Sl 28 5 v (l.map ic) B) (hl : l.length ≤ 1000) :
    Ret Try.prog 50 #[.pointer (some ⟨b, 0, none⟩), str s, str d, .int .u64 old, .int .u64 ix] w fun u w' => ∃ e l' last', DropR last l s d old ix e l' last' ∧ u = .int .i64 e ∧
      ∃ v' B', Sl 28 5 v' (l'.map ic) B' ∧ St w (b :: B.map Prod.fst) ((b, C 55 (rt most v' last')) :: B') w' := by
  have hS := St.init hown
  obtain ⟨c0, hv0⟩ := hsl.slv
  simp only [List.length_map] at hv0
  rw [List.map_cons] at hS
  generalize hX : b :: B.map Prod.fst = X at hS ⊢
  refine Ret.enter Try.func50 Try.ntmps50 rfl rfl ?_
  simp only [argEnv, Nat.reduceAdd]
  refine SatC.seq ?_
  refine SatC.region ?_
  refine SatL.pu (RunV.assign rfl) rfl ?_
  refine SatL.nil (SatE.thenC ?_)
  refine SatC.seq ?_
  refine SatC.region ?_
  refine SatL.pu (RunV.move rfl) rfl ?_
  refine SatL.pu (RunV.move rfl) rfl ?_
  refine SatL.pu (RunV.move rfl) rfl ?_
  refine SatL.pu (RunV.move rfl) rfl ?_
  refine SatL.op rfl (OpW.enter rfl rfl rfl (rfl) (asked_any s d old (hS.ownT (A := (b, C 55 (rt most v last)) :: B) (by repeat constructor)) hsl hl) ?_)
  rintro r1 w1 ⟨k, e, hk, rfl, h⟩
  replace hS := St.callN hS h
  refine SatL.pu (RunV.move rfl) rfl ?_
  refine SatL.pu (RunV.extract rfl rfl) rfl ?_
  refine SatL.pu (RunV.extract rfl rfl) rfl ?_
  refine SatL.pu (RunV.assign rfl) rfl ?_
  refine SatL.pu (RunV.assign rfl) rfl ?_
  refine SatL.nil (SatE.thenC ?_)
  refine SatC.seq ?_
  refine SatC.seq ?_
  refine SatC.region ?_
  refine SatL.pu (RunV.move rfl) rfl ?_
  refine SatL.pu (RunV.neq rfl rfl) rfl ?_
  refine SatL.nil (SatE.thenC ?_)
  refine SatC.weak (e' := [(0, _), (4, _), (10, _), (11, _), (12, _), (24, _)]) (by repeat constructor) ?_
  refine SatC.cond rfl (fun h1 => ?_) (fun h1 => ?_)
  · (try simp only [cx, ne_eq] at h1)
    try (exfalso; (first | omega | exact h1 trivial | contradiction | (first | omega | exact h1 rfl | (simp at h1; done))); done)
    all_goals
    refine SatC.seq ?_
    refine SatC.region ?_
    refine SatL.pu (RunV.move rfl) rfl ?_
    refine SatL.pu (RunV.assign rfl) rfl ?_
    refine SatL.nil (SatE.thenC ?_)
    refine SatC.ret (SatE.then_ret ?_)
    refine SatE.ret1 rfl rfl ?_
    exact ⟨e, l, last, ⟨k, hk, .inl ⟨by assumption, rfl, rfl⟩⟩, rfl, v, B, hsl, hS⟩
  · (try simp only [cx, ne_eq] at h1)
    try (exfalso; (first | omega | exact h1 trivial | contradiction | (first | omega | exact h1 rfl | (simp at h1; done))); done)
    all_goals
    refine SatC.skip (SatE.thenC ?_)
    refine SatC.seq ?_
    have he : e = 0 := by assumption
    subst he
    obtain ⟨n, x, rfl, hx⟩ := ask_ok hk
    have hnl := (List.getElem?_eq_some_iff.1 hx).1
    refine SatC.region ?_
    refine SatL.pu (RunV.assign rfl) rfl ?_
    refine SatL.nil (SatE.thenC ?_)
    refine SatC.seq ?_
    refine SatC.seq ?_
    refine SatC.region ?_
    refine SatL.pu (RunV.assign rfl) rfl ?_
    refine SatL.nil (SatE.thenC ?_)
    refine SatC.block ?_
    refine SatC.loopK (G := Nat × List Itn × Value × List (Nat × Obj)) (V := fun ⟨i, acc, va, Ba⟩ => [(13, va), (14, .int .i64 (i : Int))]) (Cn := [(0, _), (4, _), (10, _), (11, _)]) (I := fun ⟨i, acc, va, Ba⟩ w' => i ≤ l.length ∧ acc.length ≤ i ∧ Sl 28 5 va (acc.map ic) Ba ∧ acc ++ (if i ≤ n then (l.drop i).eraseIdx (n - i) else l.drop i) = l.eraseIdx n ∧ St w X (Ba ++ ((b, C 55 (rt most v last)) :: B)) w') (μ := fun ⟨i, acc, va, Ba⟩ => l.length - i) (0, [], .slice none 0 0, []) ?_ (by repeat constructor) ?_
    · exact ⟨Nat.zero_le _, Nat.zero_le _, .nil, by simp, hS.sel (by repeat constructor)⟩
    clear hS
    rintro ⟨i, acc, va, Ba⟩ w2 ⟨hi, hlen, hsa, hacc, hS⟩
    refine SatC.weak (e' := [(0, _), (4, _), (10, _), (11, _), (13, _), (14, _)]) (by repeat constructor) ?_
    refine SatC.seq ?_
    refine SatC.seq ?_
    refine SatC.region ?_
    refine SatL.pu (RunV.move rfl) rfl ?_
    refine SatL.pu (RunV.move rfl) rfl ?_
    first | refine SatL.pu (RunV.nil_ptr rfl) rfl ?_ | refine SatL.pu (RunV.nil_func rfl) rfl ?_ | refine SatL.pu (RunV.nil_yield rfl) rfl ?_
    first | refine SatL.pu (RunV.fieldAddrL rfl rfl rfl) rfl ?_ | refine SatL.pu (RunV.fieldAddr rfl rfl rfl) rfl ?_
    refine SatL.pu (RunV.load1 hS rfl rfl (by repeat constructor) rfl) rfl ?_
    refine SatL.pu (RunV.lenR hv0 rfl rfl) rfl ?_
    refine SatL.pu (RunV.lss rfl rfl) rfl ?_
    refine SatL.nil (SatE.thenC ?_)
    refine SatC.cond rfl (fun h2 => ?_) (fun h2 => ?_)
    · (try simp only [cx, ne_eq] at h2)
      try (exfalso; (first | omega | exact h2 trivial | contradiction | (first | omega | exact h2 rfl | (simp at h2; done))); done)
      all_goals
      refine SatC.skip (SatE.thenC ?_)
      refine SatC.seq ?_
      refine SatC.block ?_
      refine SatC.seq ?_
      refine SatC.region ?_
      refine SatL.pu (RunV.move rfl) rfl ?_
      refine SatL.pu (RunV.move rfl) rfl ?_
      refine SatL.pu (RunV.neq rfl rfl) rfl ?_
      refine SatL.nil (SatE.thenC ?_)
      refine SatC.cond rfl (fun h3 => ?_) (fun h3 => ?_)
      · (try simp only [cx, ne_eq] at h3)
        try (exfalso; (first | omega | exact h3 trivial | contradiction | (first | omega | exact h3 rfl | (simp at h3; done))); done)
        all_goals
        obtain ⟨y, hy⟩ := get_some l i (by omega)
        rw [drop_at hy] at hacc
        refine SatC.region ?_
        refine SatL.pu (RunV.move rfl) rfl ?_
        refine SatL.pu (RunV.move rfl) rfl ?_
        first | refine SatL.pu (RunV.nil_ptr rfl) rfl ?_ | refine SatL.pu (RunV.nil_func rfl) rfl ?_ | refine SatL.pu (RunV.nil_yield rfl) rfl ?_
        first | refine SatL.pu (RunV.fieldAddrL rfl rfl rfl) rfl ?_ | refine SatL.pu (RunV.fieldAddr rfl rfl rfl) rfl ?_
        refine SatL.pu (RunV.load1 hS rfl rfl (by repeat constructor) rfl) rfl ?_
        refine SatL.pu (RunV.move rfl) rfl ?_
        refine SatL.pu (RunV.indexR hv0 rfl rfl rfl (by omega) (by omega) rfl) rfl ?_
        refine SatL.pu (RunV.loadRNz (hsl.rd hS (by repeat constructor)) rfl rfl (map_get hy)) rfl ?_
        refine SatL.op rfl (OpW.buildSlice1 hS rfl rfl rfl rfl rfl (by repeat constructor) rfl rfl rfl ?_)
        clear hS
        intro b46 w3 _ hS
        refine SatL.op rfl (OpW.append1 (by assumption) hS (by repeat constructor) rfl rfl (by repeat constructor) rfl rfl rfl rfl rfl rfl rfl rfl (by first | omega | (simp only [List.length_map]; omega) | (simp only [List.length_append, List.length_map, List.length_cons, List.length_nil]; omega)) rfl ?_)
        clear hS
        intro v47 B47 w4 hsl47 hS
        refine SatL.pu (RunV.assign rfl) rfl ?_
        refine SatL.nil (SatE.blk_normal (SatE.thenC ?_))
        refine SatC.weak (e' := [(0, _), (4, _), (10, _), (11, _), (13, _), (14, _)]) (by repeat constructor) ?_
        refine SatC.region ?_
        refine SatL.pu (RunV.move rfl) rfl ?_
        refine SatL.pu (RunV.add rfl rfl (by first | exact wrapI64 (by omega) | rfl)) rfl ?_
        refine SatL.pu (RunV.assign rfl) rfl ?_
        refine SatL.nil ?_
        refine SatE.again ((i + 1, acc ++ [y], v47, B47)) ?_ (by first | omega | (dsimp only; omega)) (by repeat constructor)
        refine ⟨by omega, by simp; omega, by rw [List.map_append]; exact hsl47, ?_, hS.sel (by repeat constructor)⟩
        rw [← hacc]
        by_cases h : i < n
        · obtain ⟨m, rfl⟩ : ∃ m, n = i + 1 + m := ⟨n - (i + 1), by omega⟩
          rw [if_pos (by omega), if_pos (by omega), show i + 1 + m - i = m + 1 by omega, show i + 1 + m - (i + 1) = m by omega, List.eraseIdx_cons_succ]
          simp
        · rw [if_neg (by omega), if_neg (by omega)]
          simp
      · (try simp only [cx, ne_eq] at h3)
        try (exfalso; (first | omega | exact h3 trivial | contradiction | (first | omega | exact h3 rfl | (simp at h3; done))); done)
        all_goals
        refine SatC.skip (SatE.blk_normal (SatE.thenC ?_))
        refine SatC.region ?_
        refine SatL.pu (RunV.move rfl) rfl ?_
        refine SatL.pu (RunV.add rfl rfl (by first | exact wrapI64 (by omega) | rfl)) rfl ?_
        refine SatL.pu (RunV.assign rfl) rfl ?_
        refine SatL.nil ?_
        refine SatE.again ((i + 1, acc, va, Ba)) ?_ (by first | omega | (dsimp only; omega)) (by repeat constructor)
        refine ⟨by omega, by omega, hsa, ?_, hS⟩
        obtain rfl : i = n := by omega
        rw [← hacc, if_pos (Nat.le_refl _), if_neg (by omega), drop_at hx, Nat.sub_self, List.eraseIdx_cons_zero]
    · (try simp only [cx, ne_eq] at h2)
      try (exfalso; (first | omega | exact h2 trivial | contradiction | (first | omega | exact h2 rfl | (simp at h2; done))); done)
      all_goals
      refine SatC.exit (SatE.then_exit (SatE.then_exit (SatE.blk_exit (SatE.thenC ?_))))
      refine SatC.seq ?_
      rw [if_neg (by omega), List.drop_of_length_le (by omega), List.append_nil] at hacc
      subst hacc
      refine SatC.region ?_
      refine SatL.pu (RunV.move rfl) rfl ?_
      refine SatL.pu (RunV.move rfl) rfl ?_
      first | refine SatL.pu (RunV.nil_ptr rfl) rfl ?_ | refine SatL.pu (RunV.nil_func rfl) rfl ?_ | refine SatL.pu (RunV.nil_yield rfl) rfl ?_
      first | refine SatL.pu (RunV.fieldAddrL rfl rfl rfl) rfl ?_ | refine SatL.pu (RunV.fieldAddr rfl rfl rfl) rfl ?_
      refine SatL.op rfl (OpW.storeSv hS rfl rfl hsa (by repeat constructor) (by repeat constructor) rfl ?_)
      clear hS
      intro w9 hS
      refine SatL.nil (SatE.thenC ?_)
      refine SatC.seq ?_
      refine SatC.weak (e' := [(0, _), (4, _), (10, _)]) (by repeat constructor) ?_
      refine SatC.region ?_
      refine SatL.pu (RunV.move rfl) rfl ?_
      refine SatL.pu (RunV.move rfl) rfl ?_
      refine SatL.op rfl (OpW.enter rfl rfl rfl (rfl) (raise_ref ix (hS.ownT (A := (b, C 55 (rt most va last)) :: Ba) (by repeat constructor))) ?_)
      rintro r4 w4 ⟨rfl, h⟩
      replace hS := hS.callT (A := (b, C 55 (rt most va last)) :: Ba) (by repeat constructor) h
      refine SatL.nil (SatE.thenC ?_)
      refine SatC.seq ?_
      refine SatC.region ?_
      refine SatL.pu (RunV.assign rfl) rfl ?_
      refine SatL.nil (SatE.thenC ?_)
      refine SatC.ret ?_
      refine SatE.ret1 rfl rfl ?_
      exact ⟨0, _, _, ⟨n, hk, .inr ⟨rfl, ⟨n, rfl, rfl⟩, rfl⟩⟩, rfl, va, Ba, hsa, hS.sel (by repeat constructor)⟩
end
end Go.Proofs.Ytogohendjjgbiaa
