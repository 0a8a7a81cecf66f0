/- The document's table, walked. -/
import Derived.Test.YtdoinfpkfbfjaaaPt
import Derived.Test.YtdoinfpkfbfjaaaUn
import Derived.Test.YtdoinfpkfbfjaaaK20
set_option linter.unusedSimpArgs false
set_option linter.unusedVariables false
set_option maxRecDepth 100000
set_option maxHeartbeats 8000000
namespace Go.Proofs.Ytdoinfpkfbfjaaa
open Go.RowKit
theorem run_neq30 (a : List UInt8) (v m x : Int) (a' : List UInt8) (v' m' x' : Int) (w : World) : (binOp .neq 30 (.agg #[str a, .int .i64 v, .int .u64 m, .int .u64 x]) (.agg #[str a', .int .i64 v', .int .u64 m', .int .u64 x'])).run Try.prog w = .ok (.bool (decide (Tr.mk a v m x ≠ ⟨a', v', m', x'⟩))) w := by
  have h0 := eqStr' a a'
  by_cases h1 : a = a' <;> by_cases h2 : v = v' <;> by_cases h3 : m = m' <;> by_cases h4 : x = x' <;> simp [go_sem, str, h0, h1, h2, h3, h4]
theorem guard30' (op : BinOp) (x y : Operand) (a : List UInt8) (v m z : Int) (a' : List UInt8) (v' m' z' : Int) (w : World) : (eqGuard op 30 x y (.agg #[str a, .int .i64 v, .int .u64 m, .int .u64 z]) (.agg #[str a', .int .i64 v', .int .u64 m', .int .u64 z'])).run Try.prog w = .ok () w := by
  unfold eqGuard
  cases op <;> simp [go_sem, str]
theorem same_any (v1 v2 : Value) (ys zs : List Tr) (w : World) (hr1 : RdRow w v1 4 (ys.map tr)) (hr2 : RdRow w v2 4 (zs.map tr)) :
    Ret Try.prog 18 #[v1, v2] w fun v' w' => v' = .bool (decide (ys = zs)) ∧ St w [] [] w' := by
  have hS := St.init0 w
  obtain ⟨b1, o1, c1, hv1, hmax1, hc1, hlt1⟩ := hr1.open
  obtain ⟨b2, o2, c2, hv2, hmax2, hc2, hlt2⟩ := hr2.open
  simp only [List.length_map] at hv1 hmax1 hlt1 hv2 hmax2 hlt2
  refine Ret.enter Try.func18 Try.ntmps18 rfl rfl ?_
  simp only [argEnv, Nat.reduceAdd]
  refine SatC.seq ?_
  refine SatC.region ?_
  refine SatL.pu (RunV.assign rfl) rfl ?_
  refine SatL.nil (SatE.thenC ?_)
  refine SatC.seq ?_
  refine SatC.seq ?_
  refine SatC.region ?_
  refine SatL.pu (RunV.move rfl) rfl ?_
  first | refine SatL.pu (RunV.lenR (by assumption) rfl rfl) rfl ?_ | refine SatL.pu (RunV.lenS rfl rfl) rfl ?_
  refine SatL.pu (RunV.move rfl) rfl ?_
  first | refine SatL.pu (RunV.lenR (by assumption) rfl rfl) rfl ?_ | refine SatL.pu (RunV.lenS rfl rfl) rfl ?_
  refine SatL.pu (RunV.neq rfl rfl) rfl ?_
  refine SatL.nil (SatE.thenC ?_)
  refine SatC.cond rfl (fun h1 => ?_) (fun h1 => ?_)
  · (try simp only [cx, ne_eq] at h1)
    try (exfalso; (first | omega | exact h1 trivial | contradiction); done)
    all_goals
    refine SatC.seq ?_
    refine SatC.region ?_
    refine SatL.pu (RunV.assign rfl) rfl ?_
    refine SatL.nil (SatE.thenC ?_)
    refine SatC.ret (SatE.then_ret ?_)
    refine SatE.ret1 rfl rfl ?_
    refine ⟨congrArg Value.bool ?_, hS⟩
    rw [decide_eq_false (fun e => h1 (by rw [e]))]
  · (try simp only [cx, ne_eq] at h1)
    try (exfalso; (first | omega | exact h1 trivial | contradiction); done)
    all_goals
    refine SatC.skip (SatE.thenC ?_)
    refine SatC.seq ?_
    refine SatC.seq ?_
    refine SatC.region ?_
    refine SatL.pu (RunV.assign rfl) rfl ?_
    refine SatL.nil (SatE.thenC ?_)
    refine SatC.block ?_
    refine SatC.loopK (G := Nat) (V := fun i => [(5, .int .i64 (i : Int))]) (Cn := [(0, _), (1, _), (4, _)]) (I := fun i w' => i ≤ ys.length ∧ ys.take i = zs.take i ∧ St w [] [] w') (μ := fun i => ys.length - i) 0 ?_ (by repeat constructor) ?_
    · exact ⟨Nat.zero_le _, rfl, hS⟩
    clear hS
    rintro i w1 ⟨hi, hf, hS⟩
    refine SatC.weak (e' := [(0, _), (1, _), (4, _), (5, _)]) (by repeat constructor) ?_
    refine SatC.seq ?_
    refine SatC.seq ?_
    refine SatC.region ?_
    refine SatL.pu (RunV.move rfl) rfl ?_
    refine SatL.pu (RunV.move rfl) rfl ?_
    first | refine SatL.pu (RunV.lenR (by assumption) rfl rfl) rfl ?_ | refine SatL.pu (RunV.lenS rfl rfl) rfl ?_
    refine SatL.pu (RunV.lss rfl rfl) rfl ?_
    refine SatL.nil (SatE.thenC ?_)
    refine SatC.cond rfl (fun h2 => ?_) (fun h2 => ?_)
    · (try simp only [cx, ne_eq] at h2)
      try (exfalso; (first | omega | exact h2 trivial | contradiction); done)
      all_goals
      refine SatC.skip (SatE.thenC ?_)
      refine SatC.seq ?_
      refine SatC.block ?_
      refine SatC.seq ?_
      obtain ⟨y, hy⟩ := get_some ys i (by omega)
      obtain ⟨z, hz⟩ := get_some zs i (by omega)
      refine SatC.drawnT 26 hS (hS) (by kernel_rfl) ?_
      clear hS
      intro w2 hh hS hD
      refine SatD.tk 0 rfl hD (fun _ hw => RunV.move rfl) ?_
      refine SatD.tk 1 rfl hD (fun _ hw => RunV.move rfl) ?_
      first | refine SatD.tk 2 rfl hD (fun _ hw => RunV.indexR (by assumption) rfl rfl rfl (by omega) (by omega) rfl) ?_ | refine SatD.tk 2 rfl hD (fun _ hw => RunV.indexS rfl rfl rfl (by omega) (by omega) rfl) ?_
      first | refine SatD.tk 3 rfl hD (fun _ hw => RunV.loadRNz (RdC.st (by assumption) hw List.not_mem_nil) rfl rfl (by first | assumption | exact map_get (by assumption))) ?_ | refine SatD.tk 3 rfl hD (fun _ hw => RunV.loadRNz (Sl.rd (by assumption) hw (by repeat constructor)) rfl rfl (by first | assumption | exact map_get (by assumption))) ?_
      refine SatD.tk 4 rfl hD (fun _ hw => RunV.move rfl) ?_
      refine SatD.tk 5 rfl hD (fun _ hw => RunV.move rfl) ?_
      first | refine SatD.tk 6 rfl hD (fun _ hw => RunV.indexR (by assumption) rfl rfl rfl (by omega) (by omega) rfl) ?_ | refine SatD.tk 6 rfl hD (fun _ hw => RunV.indexS rfl rfl rfl (by omega) (by omega) rfl) ?_
      first | refine SatD.tk 7 rfl hD (fun _ hw => RunV.fieldAddrL rfl rfl rfl) ?_ | refine SatD.tk 7 rfl hD (fun _ hw => RunV.fieldAddr rfl rfl rfl) ?_
      first | refine SatD.tk 8 rfl hD (fun _ hw => RunV.loadR1f (RdC.st (by assumption) hw List.not_mem_nil) rfl rfl (by first | assumption | exact map_get (by assumption)) rfl) ?_ | refine SatD.tk 8 rfl hD (fun _ hw => RunV.loadR1f (Sl.rd (by assumption) hw (by repeat constructor)) rfl rfl (by first | assumption | exact map_get (by assumption)) rfl) ?_
      refine SatD.tk 9 rfl hD (fun _ hw => RunV.move rfl) ?_
      refine SatD.tk 10 rfl hD (fun _ hw => RunV.move rfl) ?_
      first | refine SatD.tk 11 rfl hD (fun _ hw => RunV.indexR (by assumption) rfl rfl rfl (by omega) (by omega) rfl) ?_ | refine SatD.tk 11 rfl hD (fun _ hw => RunV.indexS rfl rfl rfl (by omega) (by omega) rfl) ?_
      first | refine SatD.tk 12 rfl hD (fun _ hw => RunV.fieldAddrL rfl rfl rfl) ?_ | refine SatD.tk 12 rfl hD (fun _ hw => RunV.fieldAddr rfl rfl rfl) ?_
      first | refine SatD.tk 13 rfl hD (fun _ hw => RunV.loadR1f (RdC.st (by assumption) hw List.not_mem_nil) rfl rfl (by first | assumption | exact map_get (by assumption)) rfl) ?_ | refine SatD.tk 13 rfl hD (fun _ hw => RunV.loadR1f (Sl.rd (by assumption) hw (by repeat constructor)) rfl rfl (by first | assumption | exact map_get (by assumption)) rfl) ?_
      refine SatD.tk 14 rfl hD (fun _ hw => RunV.move rfl) ?_
      refine SatD.tk 15 rfl hD (fun _ hw => RunV.move rfl) ?_
      first | refine SatD.tk 16 rfl hD (fun _ hw => RunV.indexR (by assumption) rfl rfl rfl (by omega) (by omega) rfl) ?_ | refine SatD.tk 16 rfl hD (fun _ hw => RunV.indexS rfl rfl rfl (by omega) (by omega) rfl) ?_
      first | refine SatD.tk 17 rfl hD (fun _ hw => RunV.fieldAddrL rfl rfl rfl) ?_ | refine SatD.tk 17 rfl hD (fun _ hw => RunV.fieldAddr rfl rfl rfl) ?_
      first | refine SatD.tk 18 rfl hD (fun _ hw => RunV.loadR1f (RdC.st (by assumption) hw List.not_mem_nil) rfl rfl (by first | assumption | exact map_get (by assumption)) rfl) ?_ | refine SatD.tk 18 rfl hD (fun _ hw => RunV.loadR1f (Sl.rd (by assumption) hw (by repeat constructor)) rfl rfl (by first | assumption | exact map_get (by assumption)) rfl) ?_
      refine SatD.tk 19 rfl hD (fun _ hw => RunV.move rfl) ?_
      refine SatD.tk 20 rfl hD (fun _ hw => RunV.move rfl) ?_
      first | refine SatD.tk 21 rfl hD (fun _ hw => RunV.indexR (by assumption) rfl rfl rfl (by omega) (by omega) rfl) ?_ | refine SatD.tk 21 rfl hD (fun _ hw => RunV.indexS rfl rfl rfl (by omega) (by omega) rfl) ?_
      first | refine SatD.tk 22 rfl hD (fun _ hw => RunV.fieldAddrL rfl rfl rfl) ?_ | refine SatD.tk 22 rfl hD (fun _ hw => RunV.fieldAddr rfl rfl rfl) ?_
      first | refine SatD.tk 23 rfl hD (fun _ hw => RunV.loadR1f (RdC.st (by assumption) hw List.not_mem_nil) rfl rfl (by first | assumption | exact map_get (by assumption)) rfl) ?_ | refine SatD.tk 23 rfl hD (fun _ hw => RunV.loadR1f (Sl.rd (by assumption) hw (by repeat constructor)) rfl rfl (by first | assumption | exact map_get (by assumption)) rfl) ?_
      refine SatD.tk 24 rfl hD (fun _ hw => RunV.build rfl (by simp [go_sem]; try rfl)) ?_
      refine SatD.tk 25 rfl hD (fun _ hw => RunV.bin rfl rfl (guard30' _ _ _ _ _ _ _ _ _ _ _ _) (run_neq30 _ _ _ _ _ _ _ _ _)) ?_
      refine SatD.done 0 (by kernel_rfl) (SatE.thenC ?_)
      clear hD
      refine SatC.weak (e' := [(0, _), (1, _), (4, _), (5, _), (42, _)]) (by repeat constructor) ?_
      refine SatC.cond rfl (fun h3 => ?_) (fun h3 => ?_)
      · (try simp only [cx, ne_eq] at h3)
        try (exfalso; (first | omega | exact h3 trivial | contradiction); done)
        all_goals
        refine SatC.seq ?_
        refine SatC.region ?_
        refine SatL.pu (RunV.assign rfl) rfl ?_
        refine SatL.nil (SatE.thenC ?_)
        refine SatC.ret (SatE.blk_ret (SatE.then_ret (SatE.then_ret (SatE.blk_ret (SatE.then_ret ?_)))))
        refine SatE.ret1 rfl rfl ?_
        refine ⟨congrArg Value.bool ?_, hS⟩
        rw [decide_eq_false]
        rintro rfl
        rw [hy] at hz
        obtain rfl := Option.some.inj hz
        exact h3 rfl
      · (try simp only [cx, ne_eq] at h3)
        try (exfalso; (first | omega | exact h3 trivial | contradiction); done)
        all_goals
        refine SatC.skip (SatE.blk_normal (SatE.thenC ?_))
        refine SatC.region ?_
        refine SatL.pu (RunV.move rfl) rfl ?_
        refine SatL.pu (RunV.add rfl rfl (by first | exact wrapI64 (by omega) | rfl)) rfl ?_
        refine SatL.pu (RunV.assign rfl) rfl ?_
        refine SatL.nil ?_
        refine SatE.again (i + 1) ?_ (by first | omega | (dsimp only; omega)) (by repeat constructor)
        obtain rfl : y = z := by
          obtain ⟨a, b, c, d⟩ := y
          obtain ⟨a', b', c', d'⟩ := z
          simpa using h3
        exact ⟨by omega, by rw [List.take_add_one, List.take_add_one, hy, hz, hf], hS⟩
    · (try simp only [cx, ne_eq] at h2)
      try (exfalso; (first | omega | exact h2 trivial | contradiction); done)
      all_goals
      refine SatC.exit (SatE.then_exit (SatE.then_exit (SatE.blk_exit (SatE.thenC ?_))))
      refine SatC.seq ?_
      refine SatC.region ?_
      refine SatL.pu (RunV.assign rfl) rfl ?_
      refine SatL.nil (SatE.thenC ?_)
      refine SatC.ret ?_
      refine SatE.ret1 rfl rfl ?_
      refine ⟨congrArg Value.bool ?_, hS⟩
      obtain rfl : i = ys.length := by omega
      rw [List.take_length, List.take_of_length_le (by omega)] at hf
      rw [decide_eq_true hf]
/-- The document's table, as an object. -/
@[reducible] def rt (most : Int) (v : Value) (last : Int) : List Value := [.int .i64 most, v, .int .u64 last]
theorem rnew_any (n : Int) (w : World) : Ret Try.prog 14 #[.int .i64 n] w fun u w' => ∃ b, u = .pointer (some ⟨b, 0, none⟩) ∧ St w [] [(b, C 54 (rt (min (max n 1) 64) (.slice none 0 0) 0))] w' := by
  have hS := St.init0 w
  refine Ret.enter Try.func14 Try.ntmps14 rfl rfl ?_
  simp only [argEnv, Nat.reduceAdd]
  refine SatC.seq ?_
  refine SatC.region ?_
  refine SatL.pu (RunV.assign rfl) rfl ?_
  refine SatL.nil (SatE.thenC ?_)
  refine SatC.seq ?_
  refine SatC.seq ?_
  refine SatC.region ?_
  refine SatL.pu (RunV.move rfl) rfl ?_
  refine SatL.pu (RunV.lss rfl rfl) rfl ?_
  refine SatL.nil (SatE.thenC ?_)
  refine SatC.cond rfl (fun h1 => ?_) (fun h1 => ?_)
  · (try simp only [cx, ne_eq] at h1)
    try (exfalso; (first | omega | exact h1 trivial | contradiction); done)
    all_goals
    refine SatC.region ?_
    refine SatL.pu (RunV.assign rfl) rfl ?_
    refine SatL.nil (SatE.thenC ?_)
    refine SatC.seq ?_
    refine SatC.seq ?_
    refine SatC.region ?_
    refine SatL.pu (RunV.move rfl) rfl ?_
    refine SatL.pu (RunV.gtr rfl rfl) rfl ?_
    refine SatL.nil (SatE.thenC ?_)
    refine SatC.cond rfl (fun h2 => ?_) (fun h2 => ?_)
    · (try simp only [cx, ne_eq] at h2)
      try (exfalso; (first | omega | exact h2 trivial | contradiction); done)
      all_goals
      refine SatC.region ?_
      refine SatL.pu (RunV.assign rfl) rfl ?_
      refine SatL.nil (SatE.thenC ?_)
      refine SatC.seq ?_
      refine SatC.region ?_
      refine SatL.pu (RunV.move rfl) rfl ?_
      refine SatL.pu (RunV.build rfl (by simp [go_sem]; try rfl)) rfl ?_
      refine SatL.op rfl (OpW.box hS rfl rfl (by repeat constructor) ?_)
      clear hS
      intro b9 w1 _ hS
      refine SatL.pu (RunV.assign rfl) rfl ?_
      refine SatL.nil (SatE.thenC ?_)
      refine SatC.ret ?_
      refine SatE.ret1 rfl rfl ?_
      refine ⟨_, rfl, ?_⟩
      first
      | (rw [show min (max n 1) 64 = 64 by omega]; exact hS)
      | (rw [show min (max n 1) 64 = 1 by omega]; exact hS)
      | (rw [show min (max n 1) 64 = n by omega]; exact hS)
    · (try simp only [cx, ne_eq] at h2)
      try (exfalso; (first | omega | exact h2 trivial | contradiction); done)
      all_goals
      refine SatC.skip (SatE.thenC ?_)
      refine SatC.seq ?_
      refine SatC.region ?_
      refine SatL.pu (RunV.move rfl) rfl ?_
      refine SatL.pu (RunV.build rfl (by simp [go_sem]; try rfl)) rfl ?_
      refine SatL.op rfl (OpW.box hS rfl rfl (by repeat constructor) ?_)
      clear hS
      intro b9 w1 _ hS
      refine SatL.pu (RunV.assign rfl) rfl ?_
      refine SatL.nil (SatE.thenC ?_)
      refine SatC.ret ?_
      refine SatE.ret1 rfl rfl ?_
      refine ⟨_, rfl, ?_⟩
      first
      | (rw [show min (max n 1) 64 = 64 by omega]; exact hS)
      | (rw [show min (max n 1) 64 = 1 by omega]; exact hS)
      | (rw [show min (max n 1) 64 = n by omega]; exact hS)
  · (try simp only [cx, ne_eq] at h1)
    try (exfalso; (first | omega | exact h1 trivial | contradiction); done)
    all_goals
    refine SatC.skip (SatE.thenC ?_)
    refine SatC.seq ?_
    refine SatC.seq ?_
    refine SatC.region ?_
    refine SatL.pu (RunV.move rfl) rfl ?_
    refine SatL.pu (RunV.gtr rfl rfl) rfl ?_
    refine SatL.nil (SatE.thenC ?_)
    refine SatC.cond rfl (fun h2 => ?_) (fun h2 => ?_)
    · (try simp only [cx, ne_eq] at h2)
      try (exfalso; (first | omega | exact h2 trivial | contradiction); done)
      all_goals
      refine SatC.region ?_
      refine SatL.pu (RunV.assign rfl) rfl ?_
      refine SatL.nil (SatE.thenC ?_)
      refine SatC.seq ?_
      refine SatC.region ?_
      refine SatL.pu (RunV.move rfl) rfl ?_
      refine SatL.pu (RunV.build rfl (by simp [go_sem]; try rfl)) rfl ?_
      refine SatL.op rfl (OpW.box hS rfl rfl (by repeat constructor) ?_)
      clear hS
      intro b9 w1 _ hS
      refine SatL.pu (RunV.assign rfl) rfl ?_
      refine SatL.nil (SatE.thenC ?_)
      refine SatC.ret ?_
      refine SatE.ret1 rfl rfl ?_
      refine ⟨_, rfl, ?_⟩
      first
      | (rw [show min (max n 1) 64 = 64 by omega]; exact hS)
      | (rw [show min (max n 1) 64 = 1 by omega]; exact hS)
      | (rw [show min (max n 1) 64 = n by omega]; exact hS)
    · (try simp only [cx, ne_eq] at h2)
      try (exfalso; (first | omega | exact h2 trivial | contradiction); done)
      all_goals
      refine SatC.skip (SatE.thenC ?_)
      refine SatC.seq ?_
      refine SatC.region ?_
      refine SatL.pu (RunV.move rfl) rfl ?_
      refine SatL.pu (RunV.build rfl (by simp [go_sem]; try rfl)) rfl ?_
      refine SatL.op rfl (OpW.box hS rfl rfl (by repeat constructor) ?_)
      clear hS
      intro b9 w1 _ hS
      refine SatL.pu (RunV.assign rfl) rfl ?_
      refine SatL.nil (SatE.thenC ?_)
      refine SatC.ret ?_
      refine SatE.ret1 rfl rfl ?_
      refine ⟨_, rfl, ?_⟩
      first
      | (rw [show min (max n 1) 64 = 64 by omega]; exact hS)
      | (rw [show min (max n 1) 64 = 1 by omega]; exact hS)
      | (rw [show min (max n 1) 64 = n by omega]; exact hS)
section
variable {b : Nat} {most last : Int} {v : Value} {l : List Tr} {B : List (Nat × Obj)} {w : World}
theorem get_ref (key : List UInt8) (hown : Own w ((b, C 54 (rt most v last)) :: B)) (hsl : Sl 48 4 v (l.map tr) B) (hl : l.length ≤ 1000) :
    Ret Try.prog 17 #[.pointer (some ⟨b, 0, none⟩), str key] w fun r w' => r = .tuple #[rv (getF l key).1, .bool (getF l key).2] ∧ St w [] [] w' := by
  have hS := St.init hown
  obtain ⟨c0, hv0⟩ := hsl.slv
  simp only [List.length_map] at hv0
  generalize hX : ((b, C 54 (rt most v last)) :: B).map Prod.fst = X at hS
  have hro : ∀ {L w'}, St w X (L ++ ((b, C 54 (rt most v last)) :: B)) w' → St w [] L w' := fun h => St.roL hown (by rw [hX]; exact h.perm List.perm_append_comm) .here
  refine Ret.enter Try.func17 Try.ntmps17 rfl rfl ?_
  simp only [argEnv, Nat.reduceAdd]
  generalize hg : getF l key = R
  refine SatC.seq ?_
  refine SatC.region ?_
  refine SatL.op rfl (OpW.alloc hS rfl rfl (by repeat constructor) ?_)
  clear hS
  intro b4 w1 _ hS
  refine SatL.pu (RunV.assign rfl) rfl ?_
  refine SatL.nil (SatE.thenC ?_)
  refine SatC.seq ?_
  refine SatC.seq ?_
  refine SatC.region ?_
  refine SatL.pu (RunV.assign rfl) rfl ?_
  refine SatL.nil (SatE.thenC ?_)
  refine SatC.block ?_
  refine SatC.loopK (G := Nat) (V := fun i => [(6, .int .i64 (i : Int))]) (Cn := [(0, _), (1, _), (4, _), (5, _)]) (I := fun i w' => i ≤ l.length ∧ getF (l.drop i) key = R ∧ St w X ([(b4, C 48 (tr zr))] ++ ((b, C 54 (rt most v last)) :: B)) w') (μ := fun i => l.length - i) 0 ?_ (by repeat constructor) ?_
  · exact ⟨Nat.zero_le _, hg, hS⟩
  clear hS
  rintro i w2 ⟨hi, hf, hS⟩
  refine SatC.weak (e' := [(0, _), (1, _), (4, _), (5, _), (6, _)]) (by repeat constructor) ?_
  refine SatC.seq ?_
  refine SatC.seq ?_
  refine SatC.region ?_
  refine SatL.pu (RunV.move rfl) rfl ?_
  refine SatL.pu (RunV.move rfl) rfl ?_
  first | refine SatL.pu (RunV.nil_ptr rfl) rfl ?_ | refine SatL.pu (RunV.nil_func rfl) rfl ?_ | refine SatL.pu (RunV.nil_yield rfl) rfl ?_
  first | refine SatL.pu (RunV.fieldAddrL rfl rfl rfl) rfl ?_ | refine SatL.pu (RunV.fieldAddr rfl rfl rfl) rfl ?_
  refine SatL.pu (RunV.load1 hS rfl rfl (by repeat constructor) rfl) rfl ?_
  refine SatL.pu (RunV.lenR hv0 rfl rfl) rfl ?_
  refine SatL.pu (RunV.lss rfl rfl) rfl ?_
  refine SatL.nil (SatE.thenC ?_)
  refine SatC.cond rfl (fun h1 => ?_) (fun h1 => ?_)
  · (try simp only [cx, ne_eq] at h1)
    try (exfalso; (first | omega | exact h1 trivial | contradiction); done)
    all_goals
    refine SatC.skip (SatE.thenC ?_)
    refine SatC.seq ?_
    refine SatC.block ?_
    refine SatC.seq ?_
    obtain ⟨y, hy⟩ := get_some l i (by omega)
    rw [drop_at hy, getF_cons] at hf
    refine SatC.region ?_
    refine SatL.pu (RunV.move rfl) rfl ?_
    first | refine SatL.pu (RunV.nil_ptr rfl) rfl ?_ | refine SatL.pu (RunV.nil_func rfl) rfl ?_ | refine SatL.pu (RunV.nil_yield rfl) rfl ?_
    first | refine SatL.pu (RunV.fieldAddrL rfl rfl rfl) rfl ?_ | refine SatL.pu (RunV.fieldAddr rfl rfl rfl) rfl ?_
    refine SatL.pu (RunV.load1 hS rfl rfl (by repeat constructor) rfl) rfl ?_
    refine SatL.pu (RunV.move rfl) rfl ?_
    refine SatL.pu (RunV.indexR hv0 rfl rfl rfl (by omega) (by omega) rfl) rfl ?_
    first | refine SatL.pu (RunV.fieldAddrL rfl rfl rfl) rfl ?_ | refine SatL.pu (RunV.fieldAddr rfl rfl rfl) rfl ?_
    refine SatL.pu (RunV.loadR1f (hsl.rd hS (by repeat constructor)) rfl rfl (map_get hy) rfl) rfl ?_
    refine SatL.pu (RunV.move rfl) rfl ?_
    refine SatL.pu (RunV.seql rfl rfl) rfl ?_
    refine SatL.nil (SatE.thenC ?_)
    refine SatC.weak (e' := [(0, _), (1, _), (4, _), (5, _), (6, _), (25, _)]) (by repeat constructor) ?_
    refine SatC.cond rfl (fun h2 => ?_) (fun h2 => ?_)
    · (try simp only [cx, ne_eq] at h2)
      try (exfalso; (first | omega | exact h2 trivial | contradiction); done)
      all_goals
      refine SatC.seq ?_
      refine SatC.region ?_
      refine SatL.pu (RunV.move rfl) rfl ?_
      first | refine SatL.pu (RunV.nil_ptr rfl) rfl ?_ | refine SatL.pu (RunV.nil_func rfl) rfl ?_ | refine SatL.pu (RunV.nil_yield rfl) rfl ?_
      first | refine SatL.pu (RunV.fieldAddrL rfl rfl rfl) rfl ?_ | refine SatL.pu (RunV.fieldAddr rfl rfl rfl) rfl ?_
      refine SatL.pu (RunV.load1 hS rfl rfl (by repeat constructor) rfl) rfl ?_
      refine SatL.pu (RunV.move rfl) rfl ?_
      refine SatL.pu (RunV.indexR hv0 rfl rfl rfl (by omega) (by omega) rfl) rfl ?_
      refine SatL.pu (RunV.loadRNz (hsl.rd hS (by repeat constructor)) rfl rfl (map_get hy)) rfl ?_
      refine SatL.op rfl (OpW.store hS rfl rfl (by repeat constructor) (by repeat constructor) (by repeat constructor) rfl rfl ?_)
      clear hS
      intro w3 hS
      refine SatL.pu (RunV.assign rfl) rfl ?_
      refine SatL.nil (SatE.thenC ?_)
      refine SatC.ret (SatE.blk_ret (SatE.then_ret (SatE.then_ret (SatE.blk_ret (SatE.then_ret ?_)))))
      refine SatE.retG2 hS rfl (.cellN rfl rfl (by repeat constructor) (by repeat constructor)) (.tmp rfl) ?_
      rw [if_pos (by assumption)] at hf; subst hf; exact ⟨rfl, (hro (L := [(b4, C 48 (tr y))]) hS).sub (List.nil_sublist _)⟩
    · (try simp only [cx, ne_eq] at h2)
      try (exfalso; (first | omega | exact h2 trivial | contradiction); done)
      all_goals
      refine SatC.skip (SatE.blk_normal (SatE.thenC ?_))
      refine SatC.region ?_
      refine SatL.pu (RunV.move rfl) rfl ?_
      refine SatL.pu (RunV.add rfl rfl (by first | exact wrapI64 (by omega) | rfl)) rfl ?_
      refine SatL.pu (RunV.assign rfl) rfl ?_
      refine SatL.nil ?_
      refine SatE.again (i + 1) ?_ (by first | omega | (dsimp only; omega)) (by repeat constructor)
      exact ⟨by omega, by rw [if_neg (by assumption)] at hf; exact hf, hS⟩
  · (try simp only [cx, ne_eq] at h1)
    try (exfalso; (first | omega | exact h1 trivial | contradiction); done)
    all_goals
    refine SatC.exit (SatE.then_exit (SatE.then_exit (SatE.blk_exit (SatE.thenC ?_))))
    refine SatC.seq ?_
    refine SatC.region ?_
    refine SatL.pu (RunV.build rfl (by simp [go_sem]; try rfl)) rfl ?_
    refine SatL.op rfl (OpW.store hS rfl rfl (by repeat constructor) (by repeat constructor) (by repeat constructor) rfl rfl ?_)
    clear hS
    intro w3 hS
    refine SatL.pu (RunV.assign rfl) rfl ?_
    refine SatL.nil (SatE.thenC ?_)
    refine SatC.ret ?_
    refine SatE.retG2 hS rfl (.cellN rfl rfl (by repeat constructor) (by repeat constructor)) (.tmp rfl) ?_
    rw [List.drop_of_length_le (by omega)] at hf; subst hf; exact ⟨rfl, (hro (L := [(b4, C 48 (tr zr))]) hS).sub (List.nil_sublist _)⟩
theorem raise_ref (x : Int) (hown : Own w ((b, C 54 (rt most v last)) :: B)) : Ret Try.prog 29 #[.pointer (some ⟨b, 0, none⟩), .int .u64 x] w fun u w' => u = .tuple #[] ∧ St w (b :: B.map Prod.fst) ((b, C 54 (rt most v (max last x))) :: B) w' := by
  have hS := St.init hown
  refine Ret.enter Try.func29 Try.ntmps29 rfl rfl ?_
  simp only [argEnv, Nat.reduceAdd]
  refine SatC.seq ?_
  refine SatC.region ?_
  refine SatL.pu (RunV.move rfl) rfl ?_
  refine SatL.pu (RunV.move rfl) rfl ?_
  first | refine SatL.pu (RunV.nil_ptr rfl) rfl ?_ | refine SatL.pu (RunV.nil_func rfl) rfl ?_ | refine SatL.pu (RunV.nil_yield rfl) rfl ?_
  first | refine SatL.pu (RunV.fieldAddrL rfl rfl rfl) rfl ?_ | refine SatL.pu (RunV.fieldAddr rfl rfl rfl) rfl ?_
  refine SatL.pu (RunV.load1 hS rfl rfl (by repeat constructor) rfl) rfl ?_
  refine SatL.pu (RunV.gtr rfl rfl) rfl ?_
  refine SatL.nil (SatE.thenC ?_)
  refine SatC.cond rfl (fun h1 => ?_) (fun h1 => ?_)
  · (try simp only [cx, ne_eq] at h1)
    try (exfalso; (first | omega | exact h1 trivial | contradiction); done)
    all_goals
    refine SatC.region ?_
    refine SatL.pu (RunV.move rfl) rfl ?_
    refine SatL.pu (RunV.move rfl) rfl ?_
    first | refine SatL.pu (RunV.nil_ptr rfl) rfl ?_ | refine SatL.pu (RunV.nil_func rfl) rfl ?_ | refine SatL.pu (RunV.nil_yield rfl) rfl ?_
    first | refine SatL.pu (RunV.fieldAddrL rfl rfl rfl) rfl ?_ | refine SatL.pu (RunV.fieldAddr rfl rfl rfl) rfl ?_
    refine SatL.op rfl (OpW.store hS rfl rfl (by repeat constructor) (by repeat constructor) (by repeat constructor) rfl rfl ?_)
    clear hS
    intro w1 hS
    refine SatL.nil ?_
    refine SatE.fin0 rfl ?_
    first
    | exact ⟨rfl, by rw [show max last x = x by omega]; exact hS⟩
    | exact ⟨rfl, by rw [show max last x = last by omega]; exact hS⟩
  · (try simp only [cx, ne_eq] at h1)
    try (exfalso; (first | omega | exact h1 trivial | contradiction); done)
    all_goals
    refine SatC.skip ?_
    refine SatE.fin0 rfl ?_
    first
    | exact ⟨rfl, by rw [show max last x = x by omega]; exact hS⟩
    | exact ⟨rfl, by rw [show max last x = last by omega]; exact hS⟩
theorem put_ref (key : List UInt8) (x ix : Int) (hown : Own w ((b, C 54 (rt most v last)) :: B)) (hsl : Sl 48 4 v (l.map tr) B) (hl : l.length ≤ 100) :
    Ret Try.prog 27 #[.pointer (some ⟨b, 0, none⟩), str key, .int .i64 x, .int .u64 ix] w fun u w' => u = .tuple #[rv (putS most last l key x ix).1, .int .i64 (putS most last l key x ix).2.1] ∧
      ∃ v' B', Sl 48 4 v' ((putS most last l key x ix).2.2.1.map tr) B' ∧ St w (b :: B.map Prod.fst) ((b, C 54 (rt most v' (putS most last l key x ix).2.2.2)) :: B') w' := by
  have hS := St.init hown
  obtain ⟨c0, hv0⟩ := hsl.slv
  simp only [List.length_map] at hv0
  rw [List.map_cons] at hS
  generalize hX : b :: B.map Prod.fst = X at hS ⊢
  refine Ret.enter Try.func27 Try.ntmps27 rfl rfl ?_
  simp only [argEnv, Nat.reduceAdd]
  generalize hA : putS most last l key x ix = A
  unfold putS at hA
  generalize hg : getF l key = F at hA
  refine SatC.seq ?_
  refine SatC.region ?_
  refine SatL.op rfl (OpW.alloc hS rfl rfl (by repeat constructor) ?_)
  clear hS
  intro b8 w1 _ hS
  refine SatL.pu (RunV.assign rfl) rfl ?_
  refine SatL.nil (SatE.thenC ?_)
  refine SatC.seq ?_
  refine SatC.region ?_
  refine SatL.pu (RunV.move rfl) rfl ?_
  refine SatL.pu (RunV.move rfl) rfl ?_
  refine SatL.op rfl (OpW.enter rfl rfl rfl (rfl) (get_ref key (hS.ownT (A := (b, C 54 (rt most v last)) :: B) (by repeat constructor)) hsl (by omega)) ?_)
  rintro r2 w2 ⟨rfl, h⟩
  replace hS := St.callN hS h
  rw [hg]
  refine SatL.pu (RunV.move rfl) rfl ?_
  refine SatL.pu (RunV.extract rfl rfl) rfl ?_
  refine SatL.pu (RunV.extract rfl rfl) rfl ?_
  refine SatL.op rfl (OpW.alloc hS rfl rfl (by repeat constructor) ?_)
  clear hS
  intro b10 w3 _ hS
  refine SatL.op rfl (OpW.store hS rfl rfl (by repeat constructor) (by repeat constructor) (by repeat constructor) rfl rfl ?_)
  clear hS
  intro w4 hS
  refine SatL.pu (RunV.assign rfl) rfl ?_
  refine SatL.nil (SatE.thenC ?_)
  refine SatC.merge (G := Unit) (V := fun u0 => [(9, .int .i64 0)]) (Cn := [(0, _), (1, _), (2, _), (3, _), (8, _), (10, _), (11, _)]) (I := fun u0 w' => ¬ (F.2 = false ∧ most ≤ (l.length : Int)) ∧ St w X ((b10, C 48 (tr F.1)) :: (b8, C 48 (tr zr)) :: (b, C 54 (rt most v last)) :: B) w') (by repeat constructor) ?_ ?_
  · skip
    refine SatC.seq ?_
    refine SatC.drawnT 14 hS (hS) (by kernel_rfl) ?_
    clear hS
    intro w5 hh hS hD
    refine SatD.tk 0 rfl hD (fun _ hw => RunV.move rfl) ?_
    refine SatD.tk 1 rfl hD (fun _ hw => RunV.not rfl) ?_
    refine SatD.tk 2 rfl hD (fun _ hw => RunV.move rfl) ?_
    refine SatD.ways 24 rfl (fun h1 => ?_) (fun h1 => ?_)
    · (try simp only [cx, ne_eq] at h1)
      try (exfalso; (first | omega | exact h1 trivial | contradiction); done)
      all_goals
      refine SatD.tk 3 rfl hD (fun _ hw => RunV.move rfl) ?_
      first | refine SatD.tk 4 rfl hD (fun _ hw => RunV.nil_ptr rfl) ?_ | refine SatD.tk 4 rfl hD (fun _ hw => RunV.nil_func rfl) ?_ | refine SatD.tk 4 rfl hD (fun _ hw => RunV.nil_yield rfl) ?_
      first | refine SatD.tk 5 rfl hD (fun _ hw => RunV.fieldAddrL rfl rfl rfl) ?_ | refine SatD.tk 5 rfl hD (fun _ hw => RunV.fieldAddr rfl rfl rfl) ?_
      refine SatD.tk 6 rfl hD (fun _ hw => RunV.load1 hw rfl rfl (by repeat constructor) rfl) ?_
      refine SatD.tk 7 rfl hD (fun _ hw => RunV.lenR hv0 rfl rfl) ?_
      refine SatD.tk 8 rfl hD (fun _ hw => RunV.move rfl) ?_
      first | refine SatD.tk 9 rfl hD (fun _ hw => RunV.nil_ptr rfl) ?_ | refine SatD.tk 9 rfl hD (fun _ hw => RunV.nil_func rfl) ?_ | refine SatD.tk 9 rfl hD (fun _ hw => RunV.nil_yield rfl) ?_
      first | refine SatD.tk 10 rfl hD (fun _ hw => RunV.fieldAddrL rfl rfl rfl) ?_ | refine SatD.tk 10 rfl hD (fun _ hw => RunV.fieldAddr rfl rfl rfl) ?_
      refine SatD.tk 11 rfl hD (fun _ hw => RunV.load1 hw rfl rfl (by repeat constructor) rfl) ?_
      refine SatD.tk 12 rfl hD (fun _ hw => RunV.geq rfl rfl) ?_
      refine SatD.tk 13 rfl hD (fun _ hw => RunV.pick_t rfl rfl) ?_
      refine SatD.done 0 (by kernel_rfl) (SatE.thenC ?_)
      clear hD
      refine SatC.weak (e' := [(0, _), (1, _), (2, _), (3, _), (8, _), (9, _), (10, _), (11, _), (35, _)]) (by repeat constructor) ?_
      refine SatC.cond rfl (fun h2 => ?_) (fun h2 => ?_)
      · (try simp only [cx, ne_eq] at h2)
        try (exfalso; (first | omega | exact h2 trivial | contradiction); done)
        all_goals
        refine SatC.seq ?_
        refine SatC.region ?_
        refine SatL.pu (RunV.build rfl (by simp [go_sem]; try rfl)) rfl ?_
        refine SatL.op rfl (OpW.store hS rfl rfl (by repeat constructor) (by repeat constructor) (by repeat constructor) rfl rfl ?_)
        clear hS
        intro w6 hS
        refine SatL.pu (RunV.assign rfl) rfl ?_
        refine SatL.nil (SatE.thenC ?_)
        refine SatC.ret (SatE.then_ret ?_)
        refine SatE.retG2 hS rfl (.cellN rfl rfl (by repeat constructor) (by repeat constructor)) (.tmp rfl) ?_
        first
        | (rw [if_pos ⟨by assumption, by omega⟩] at hA
           subst hA
           exact ⟨rfl, v, B, hsl, hS.sel (by repeat constructor)⟩)
        | exact ⟨rfl, vz, Bz, hsz, hS.sel (by repeat constructor)⟩
      · (try simp only [cx, ne_eq] at h2)
        try (exfalso; (first | omega | exact h2 trivial | contradiction); done)
        all_goals
        refine SatC.skip ?_
        refine SatE.met (()) ?_ (by repeat constructor)
        exact ⟨by rintro ⟨e1, e2⟩; first | omega | simp_all, hS.sel (by repeat constructor)⟩
    · (try simp only [cx, ne_eq] at h1)
      try (exfalso; (first | omega | exact h1 trivial | contradiction); done)
      all_goals
      refine SatD.sk 3 rfl [] hD ?_
      refine SatD.sk 4 rfl [] hD ?_
      refine SatD.sk 5 rfl [] hD ?_
      refine SatD.sk 6 rfl [] hD ?_
      refine SatD.sk 7 rfl [] hD ?_
      refine SatD.sk 8 rfl [] hD ?_
      refine SatD.sk 9 rfl [] hD ?_
      refine SatD.sk 10 rfl [] hD ?_
      refine SatD.sk 11 rfl [] hD ?_
      refine SatD.sk 12 rfl [] hD ?_
      refine SatD.tk 13 rfl hD (fun _ hw => RunV.pick_f rfl rfl) ?_
      refine SatD.done 0 (by kernel_rfl) (SatE.thenC ?_)
      clear hD
      refine SatC.weak (e' := [(0, _), (1, _), (2, _), (3, _), (8, _), (9, _), (10, _), (11, _), (35, _)]) (by repeat constructor) ?_
      refine SatC.cond_f rfl ?_
      refine SatC.skip ?_
      refine SatE.met (()) ?_ (by repeat constructor)
      exact ⟨by rintro ⟨e1, e2⟩; first | omega | simp_all, hS.sel (by repeat constructor)⟩
  · clear hS
    rintro u0 w65 ⟨hn, hS⟩
    rw [if_neg hn] at hA
    subst hA
    generalize hmk : (if F.2 = true then F.1.m else ix) = mk
    dsimp only
    refine SatC.weak (e' := [(0, _), (1, _), (2, _), (3, _), (8, _), (9, _), (10, _), (11, _)]) (by repeat constructor) ?_
    refine SatC.seq ?_
    refine SatC.region ?_
    refine SatL.pu (RunV.move rfl) rfl ?_
    refine SatL.pu (RunV.move rfl) rfl ?_
    refine SatL.pu (RunV.move rfl) rfl ?_
    refine SatL.pu (RunV.move rfl) rfl ?_
    refine SatL.pu (RunV.build rfl (by simp [go_sem]; try rfl)) rfl ?_
    refine SatL.op rfl (OpW.alloc hS rfl rfl (by repeat constructor) ?_)
    clear hS
    intro b12 w66 _ hS
    refine SatL.op rfl (OpW.store hS rfl rfl (by repeat constructor) (by repeat constructor) (by repeat constructor) rfl rfl ?_)
    clear hS
    intro w67 hS
    refine SatL.nil (SatE.thenC ?_)
    refine SatC.merge (G := Unit) (V := fun u1 => []) (Cn := [(0, _), (1, _), (3, _), (8, _), (9, _), (12, _)]) (I := fun u1 w' => St w X ((b12, C 48 (tr ⟨key, x, mk, ix⟩)) :: (b8, C 48 (tr zr)) :: (b, C 54 (rt most v last)) :: B) w') (by repeat constructor) ?_ ?_
    · skip
      refine SatC.seq ?_
      refine SatC.region ?_
      refine SatL.pu (RunV.move rfl) rfl ?_
      refine SatL.nil (SatE.thenC ?_)
      refine SatC.cond rfl (fun h1 => ?_) (fun h1 => ?_)
      · (try simp only [cx, ne_eq] at h1)
        try (exfalso; (first | omega | exact h1 trivial | contradiction); done)
        all_goals
        refine SatC.region ?_
        first | refine SatL.pu (RunV.fieldAddrL rfl rfl rfl) rfl ?_ | refine SatL.pu (RunV.fieldAddr rfl rfl rfl) rfl ?_
        refine SatL.pu (RunV.load1 hS rfl rfl (by repeat constructor) rfl) rfl ?_
        first | refine SatL.pu (RunV.fieldAddrL rfl rfl rfl) rfl ?_ | refine SatL.pu (RunV.fieldAddr rfl rfl rfl) rfl ?_
        refine SatL.op rfl (OpW.store hS rfl rfl (by repeat constructor) (by repeat constructor) (by repeat constructor) rfl rfl ?_)
        clear hS
        intro w68 hS
        refine SatL.nil ?_
        refine SatE.met (()) ?_ (by repeat constructor)
        have e : F.1.m = mk := by rw [if_pos (by assumption)] at hmk; exact hmk
        rw [e] at hS
        exact hS.sel (by repeat constructor)
      · (try simp only [cx, ne_eq] at h1)
        try (exfalso; (first | omega | exact h1 trivial | contradiction); done)
        all_goals
        refine SatC.skip ?_
        refine SatE.met (()) ?_ (by repeat constructor)
        have e : ix = mk := by rw [if_neg (by simp_all)] at hmk; exact hmk
        have hS' : St w X ((b12, C 48 [str key, .int .i64 x, .int .u64 ix, .int .u64 ix]) :: (b8, C 48 (tr zr)) :: (b, C 54 (rt most v last)) :: B) _ := hS.sel (by repeat constructor)
        show St w X ((b12, C 48 [str key, .int .i64 x, .int .u64 mk, .int .u64 ix]) :: (b8, C 48 (tr zr)) :: (b, C 54 (rt most v last)) :: B) _
        rw [← e]
        exact hS'
    · clear hS
      rintro u1 w128 hS
      refine SatC.weak (e' := [(0, _), (1, _), (3, _), (8, _), (9, _), (12, _)]) (by repeat constructor) ?_
      refine SatC.seq ?_
      refine SatC.region ?_
      refine SatL.pu (RunV.assign rfl) rfl ?_
      refine SatL.nil (SatE.thenC ?_)
      refine SatC.seq ?_
      refine SatC.region ?_
      refine SatL.pu (RunV.assign rfl) rfl ?_
      refine SatL.nil (SatE.thenC ?_)
      refine SatC.seq ?_
      refine SatC.seq ?_
      refine SatC.region ?_
      refine SatL.pu (RunV.assign rfl) rfl ?_
      refine SatL.nil (SatE.thenC ?_)
      refine SatC.block ?_
      refine SatC.loopK (G := Nat × List Tr × Value × List (Nat × Obj) × Bool) (V := fun ⟨i, acc, va, Ba, laid⟩ => [(13, va), (14, .bool laid), (15, .int .i64 (i : Int))]) (Cn := [(0, _), (1, _), (3, _), (8, _), (9, _), (12, _)]) (I := fun ⟨i, acc, va, Ba, laid⟩ w' => i ≤ l.length ∧ Sl 48 4 va (acc.map tr) Ba ∧ acc ++ putF ⟨key, x, mk, ix⟩ laid (l.drop i) = putF ⟨key, x, mk, ix⟩ false l ∧ acc.length ≤ 2 * i ∧ St w X (Ba ++ ((b12, C 48 (tr ⟨key, x, mk, ix⟩)) :: (b8, C 48 (tr zr)) :: (b, C 54 (rt most v last)) :: B)) w') (μ := fun ⟨i, acc, va, Ba, laid⟩ => l.length - i) (0, [], .slice none 0 0, [], false) ?_ (by repeat constructor) ?_
      · exact ⟨Nat.zero_le _, .nil, rfl, Nat.le_refl _, hS⟩
      clear hS
      rintro ⟨i, acc, va, Ba, laid⟩ w129 ⟨hi, hsa, hacc, hla, hS⟩
      refine SatC.weak (e' := [(0, _), (1, _), (3, _), (8, _), (9, _), (12, _), (13, _), (14, _), (15, _)]) (by repeat constructor) ?_
      refine SatC.seq ?_
      refine SatC.seq ?_
      refine SatC.region ?_
      refine SatL.pu (RunV.move rfl) rfl ?_
      refine SatL.pu (RunV.move rfl) rfl ?_
      first | refine SatL.pu (RunV.nil_ptr rfl) rfl ?_ | refine SatL.pu (RunV.nil_func rfl) rfl ?_ | refine SatL.pu (RunV.nil_yield rfl) rfl ?_
      first | refine SatL.pu (RunV.fieldAddrL rfl rfl rfl) rfl ?_ | refine SatL.pu (RunV.fieldAddr rfl rfl rfl) rfl ?_
      refine SatL.pu (RunV.load1 hS rfl rfl (by repeat constructor) rfl) rfl ?_
      refine SatL.pu (RunV.lenR hv0 rfl rfl) rfl ?_
      refine SatL.pu (RunV.lss rfl rfl) rfl ?_
      refine SatL.nil (SatE.thenC ?_)
      refine SatC.cond rfl (fun h1 => ?_) (fun h1 => ?_)
      · (try simp only [cx, ne_eq] at h1)
        try (exfalso; (first | omega | exact h1 trivial | contradiction); done)
        all_goals
        refine SatC.skip (SatE.thenC ?_)
        refine SatC.seq ?_
        refine SatC.block ?_
        refine SatC.seq ?_
        refine SatC.seq ?_
        obtain ⟨y, hy⟩ := get_some l i (by omega)
        rw [drop_at hy] at hacc
        refine SatC.region ?_
        refine SatL.pu (RunV.move rfl) rfl ?_
        first | refine SatL.pu (RunV.nil_ptr rfl) rfl ?_ | refine SatL.pu (RunV.nil_func rfl) rfl ?_ | refine SatL.pu (RunV.nil_yield rfl) rfl ?_
        first | refine SatL.pu (RunV.fieldAddrL rfl rfl rfl) rfl ?_ | refine SatL.pu (RunV.fieldAddr rfl rfl rfl) rfl ?_
        refine SatL.pu (RunV.load1 hS rfl rfl (by repeat constructor) rfl) rfl ?_
        refine SatL.pu (RunV.move rfl) rfl ?_
        refine SatL.pu (RunV.indexR hv0 rfl rfl rfl (by omega) (by omega) rfl) rfl ?_
        first | refine SatL.pu (RunV.fieldAddrL rfl rfl rfl) rfl ?_ | refine SatL.pu (RunV.fieldAddr rfl rfl rfl) rfl ?_
        refine SatL.pu (RunV.loadR1f (hsl.rd hS (by repeat constructor)) rfl rfl (map_get hy) rfl) rfl ?_
        refine SatL.pu (RunV.move rfl) rfl ?_
        refine SatL.pu (RunV.seql rfl rfl) rfl ?_
        refine SatL.nil (SatE.thenC ?_)
        refine SatC.weak (e' := [(0, _), (1, _), (3, _), (8, _), (9, _), (12, _), (13, _), (14, _), (15, _), (64, _)]) (by repeat constructor) ?_
        refine SatC.cond rfl (fun h2 => ?_) (fun h2 => ?_)
        · (try simp only [cx, ne_eq] at h2)
          try (exfalso; (first | omega | exact h2 trivial | contradiction); done)
          all_goals
          refine SatC.seq ?_
          refine SatC.region ?_
          refine SatL.pu (RunV.move rfl) rfl ?_
          refine SatL.pu (RunV.loadN hS rfl rfl (by repeat constructor) (by repeat constructor)) rfl ?_
          refine SatL.op rfl (OpW.buildSlice1 hS rfl rfl rfl rfl rfl (by repeat constructor) rfl rfl rfl ?_)
          clear hS
          intro b67 w130 _ hS
          refine SatL.op rfl (OpW.append1 (by assumption) hS (by repeat constructor) rfl rfl (by repeat constructor) rfl rfl rfl rfl rfl rfl rfl rfl (by first | omega | (simp only [List.length_map]; omega) | (simp only [List.length_append, List.length_map, List.length_cons, List.length_nil]; omega)) rfl ?_)
          clear hS
          intro v68 B68 w131 hsl68 hS
          refine SatL.pu (RunV.assign rfl) rfl ?_
          refine SatL.nil (SatE.thenC ?_)
          refine SatC.seq ?_
          refine SatC.region ?_
          refine SatL.pu (RunV.assign rfl) rfl ?_
          refine SatL.nil (SatE.thenC ?_)
          refine SatC.exit (SatE.then_exit (SatE.blk_exit (SatE.thenC ?_)))
          refine SatC.region ?_
          refine SatL.pu (RunV.move rfl) rfl ?_
          refine SatL.pu (RunV.add rfl rfl (by first | exact wrapI64 (by omega) | rfl)) rfl ?_
          refine SatL.pu (RunV.assign rfl) rfl ?_
          refine SatL.nil ?_
          first
          | (refine SatE.again (i + 1, acc ++ [⟨key, x, mk, ix⟩], v68, B68, true) ⟨by omega, by rw [List.map_append]; exact hsl68, ?_, by simp only [List.length_append, List.length_cons, List.length_nil]; omega, hS.sel (by repeat constructor)⟩ (by dsimp only; omega) (by repeat constructor)
             rw [putF_eq (by assumption)] at hacc; simpa using hacc)
          | (refine SatE.again (i + 1, acc ++ [⟨key, x, mk, ix⟩] ++ [y], v96, B96, true) ⟨by omega, by rw [List.map_append, List.map_append]; exact hsl96, ?_, by simp only [List.length_append, List.length_cons, List.length_nil]; omega, hS.sel (by repeat constructor)⟩ (by dsimp only; omega) (by repeat constructor)
             have el : laid = false := by assumption
             subst el
             rw [putF_gt (by assumption) (by assumption)] at hacc; simpa using hacc)
          | (refine SatE.again (i + 1, acc ++ [y], v96, B96, laid) ⟨by omega, by rw [List.map_append]; exact hsl96, ?_, by simp only [List.length_append, List.length_cons, List.length_nil]; omega, hS.sel (by repeat constructor)⟩ (by dsimp only; omega) (by repeat constructor)
             rw [putF_lt (by assumption) (by first | exact .inl (by assumption) | exact .inr (by assumption))] at hacc; simpa using hacc)
        · (try simp only [cx, ne_eq] at h2)
          try (exfalso; (first | omega | exact h2 trivial | contradiction); done)
          all_goals
          refine SatC.skip (SatE.thenC ?_)
          refine SatC.seq ?_
          refine SatC.seq ?_
          refine SatC.region ?_
          refine SatL.pu (RunV.move rfl) rfl ?_
          refine SatL.pu (RunV.not rfl) rfl ?_
          refine SatL.pu (RunV.move rfl) rfl ?_
          refine SatL.guard rfl rfl rfl (fun h3 => ?_) (fun h3 => ?_)
          · (try simp only [cx, ne_eq] at h3)
            try (exfalso; (first | omega | exact h3 trivial | contradiction); done)
            all_goals
            refine SatL.pu (RunV.move rfl) rfl ?_
            refine SatL.guard_y rfl rfl ?_
            first | refine SatL.pu (RunV.nil_ptr rfl) rfl ?_ | refine SatL.pu (RunV.nil_func rfl) rfl ?_ | refine SatL.pu (RunV.nil_yield rfl) rfl ?_
            refine SatL.guard_y rfl rfl ?_
            first | refine SatL.pu (RunV.fieldAddrL rfl rfl rfl) rfl ?_ | refine SatL.pu (RunV.fieldAddr rfl rfl rfl) rfl ?_
            refine SatL.guard_y rfl rfl ?_
            refine SatL.pu (RunV.load1 hS rfl rfl (by repeat constructor) rfl) rfl ?_
            refine SatL.guard_y rfl rfl ?_
            refine SatL.pu (RunV.move rfl) rfl ?_
            refine SatL.guard_y rfl rfl ?_
            refine SatL.pu (RunV.indexR hv0 rfl rfl rfl (by omega) (by omega) rfl) rfl ?_
            refine SatL.guard_y rfl rfl ?_
            first | refine SatL.pu (RunV.fieldAddrL rfl rfl rfl) rfl ?_ | refine SatL.pu (RunV.fieldAddr rfl rfl rfl) rfl ?_
            refine SatL.guard_y rfl rfl ?_
            refine SatL.pu (RunV.loadR1f (hsl.rd hS (by repeat constructor)) rfl rfl (map_get hy) rfl) rfl ?_
            refine SatL.guard_y rfl rfl ?_
            refine SatL.pu (RunV.move rfl) rfl ?_
            refine SatL.guard_y rfl rfl ?_
            refine SatL.pu (RunV.sgtr rfl rfl) rfl ?_
            refine SatL.pu (RunV.pick_t rfl rfl) rfl ?_
            refine SatL.nil (SatE.thenC ?_)
            refine SatC.weak (e' := [(0, _), (1, _), (3, _), (8, _), (9, _), (12, _), (13, _), (14, _), (15, _), (82, _)]) (by repeat constructor) ?_
            refine SatC.cond rfl (fun h4 => ?_) (fun h4 => ?_)
            · (try simp only [cx, ne_eq] at h4)
              try (exfalso; (first | omega | exact h4 trivial | contradiction); done)
              all_goals
              refine SatC.seq ?_
              refine SatC.region ?_
              refine SatL.pu (RunV.move rfl) rfl ?_
              refine SatL.pu (RunV.loadN hS rfl rfl (by repeat constructor) (by repeat constructor)) rfl ?_
              refine SatL.op rfl (OpW.buildSlice1 hS rfl rfl rfl rfl rfl (by repeat constructor) rfl rfl rfl ?_)
              clear hS
              intro b85 w130 _ hS
              refine SatL.op rfl (OpW.append1 (by assumption) hS (by repeat constructor) rfl rfl (by repeat constructor) rfl rfl rfl rfl rfl rfl rfl rfl (by first | omega | (simp only [List.length_map]; omega) | (simp only [List.length_append, List.length_map, List.length_cons, List.length_nil]; omega)) rfl ?_)
              clear hS
              intro v86 B86 w131 hsl86 hS
              refine SatL.pu (RunV.assign rfl) rfl ?_
              refine SatL.nil (SatE.thenC ?_)
              refine SatC.region ?_
              refine SatL.pu (RunV.assign rfl) rfl ?_
              refine SatL.nil (SatE.thenC ?_)
              refine SatC.region ?_
              refine SatL.pu (RunV.move rfl) rfl ?_
              refine SatL.pu (RunV.move rfl) rfl ?_
              first | refine SatL.pu (RunV.nil_ptr rfl) rfl ?_ | refine SatL.pu (RunV.nil_func rfl) rfl ?_ | refine SatL.pu (RunV.nil_yield rfl) rfl ?_
              first | refine SatL.pu (RunV.fieldAddrL rfl rfl rfl) rfl ?_ | refine SatL.pu (RunV.fieldAddr rfl rfl rfl) rfl ?_
              refine SatL.pu (RunV.load1 hS rfl rfl (by repeat constructor) rfl) rfl ?_
              refine SatL.pu (RunV.move rfl) rfl ?_
              refine SatL.pu (RunV.indexR hv0 rfl rfl rfl (by omega) (by omega) rfl) rfl ?_
              refine SatL.pu (RunV.loadRNz (hsl.rd hS (by repeat constructor)) rfl rfl (map_get hy)) rfl ?_
              refine SatL.op rfl (OpW.buildSlice1 hS rfl rfl rfl rfl rfl (by repeat constructor) rfl rfl rfl ?_)
              clear hS
              intro b95 w132 _ hS
              refine SatL.op rfl (OpW.append1 (by assumption) hS (by repeat constructor) rfl rfl (by repeat constructor) rfl rfl rfl rfl rfl rfl rfl rfl (by first | omega | (simp only [List.length_map]; omega) | (simp only [List.length_append, List.length_map, List.length_cons, List.length_nil]; omega)) rfl ?_)
              clear hS
              intro v96 B96 w133 hsl96 hS
              refine SatL.pu (RunV.assign rfl) rfl ?_
              refine SatL.nil (SatE.blk_normal (SatE.thenC ?_))
              refine SatC.weak (e' := [(0, _), (1, _), (3, _), (8, _), (9, _), (12, _), (13, _), (14, _), (15, _)]) (by repeat constructor) ?_
              refine SatC.region ?_
              refine SatL.pu (RunV.move rfl) rfl ?_
              refine SatL.pu (RunV.add rfl rfl (by first | exact wrapI64 (by omega) | rfl)) rfl ?_
              refine SatL.pu (RunV.assign rfl) rfl ?_
              refine SatL.nil ?_
              first
              | (refine SatE.again (i + 1, acc ++ [⟨key, x, mk, ix⟩], v68, B68, true) ⟨by omega, by rw [List.map_append]; exact hsl68, ?_, by simp only [List.length_append, List.length_cons, List.length_nil]; omega, hS.sel (by repeat constructor)⟩ (by dsimp only; omega) (by repeat constructor)
                 rw [putF_eq (by assumption)] at hacc; simpa using hacc)
              | (refine SatE.again (i + 1, acc ++ [⟨key, x, mk, ix⟩] ++ [y], v96, B96, true) ⟨by omega, by rw [List.map_append, List.map_append]; exact hsl96, ?_, by simp only [List.length_append, List.length_cons, List.length_nil]; omega, hS.sel (by repeat constructor)⟩ (by dsimp only; omega) (by repeat constructor)
                 have el : laid = false := by assumption
                 subst el
                 rw [putF_gt (by assumption) (by assumption)] at hacc; simpa using hacc)
              | (refine SatE.again (i + 1, acc ++ [y], v96, B96, laid) ⟨by omega, by rw [List.map_append]; exact hsl96, ?_, by simp only [List.length_append, List.length_cons, List.length_nil]; omega, hS.sel (by repeat constructor)⟩ (by dsimp only; omega) (by repeat constructor)
                 rw [putF_lt (by assumption) (by first | exact .inl (by assumption) | exact .inr (by assumption))] at hacc; simpa using hacc)
            · (try simp only [cx, ne_eq] at h4)
              try (exfalso; (first | omega | exact h4 trivial | contradiction); done)
              all_goals
              refine SatC.skip (SatE.thenC ?_)
              refine SatC.region ?_
              refine SatL.pu (RunV.move rfl) rfl ?_
              refine SatL.pu (RunV.move rfl) rfl ?_
              first | refine SatL.pu (RunV.nil_ptr rfl) rfl ?_ | refine SatL.pu (RunV.nil_func rfl) rfl ?_ | refine SatL.pu (RunV.nil_yield rfl) rfl ?_
              first | refine SatL.pu (RunV.fieldAddrL rfl rfl rfl) rfl ?_ | refine SatL.pu (RunV.fieldAddr rfl rfl rfl) rfl ?_
              refine SatL.pu (RunV.load1 hS rfl rfl (by repeat constructor) rfl) rfl ?_
              refine SatL.pu (RunV.move rfl) rfl ?_
              refine SatL.pu (RunV.indexR hv0 rfl rfl rfl (by omega) (by omega) rfl) rfl ?_
              refine SatL.pu (RunV.loadRNz (hsl.rd hS (by repeat constructor)) rfl rfl (map_get hy)) rfl ?_
              refine SatL.op rfl (OpW.buildSlice1 hS rfl rfl rfl rfl rfl (by repeat constructor) rfl rfl rfl ?_)
              clear hS
              intro b95 w130 _ hS
              refine SatL.op rfl (OpW.append1 (by assumption) hS (by repeat constructor) rfl rfl (by repeat constructor) rfl rfl rfl rfl rfl rfl rfl rfl (by first | omega | (simp only [List.length_map]; omega) | (simp only [List.length_append, List.length_map, List.length_cons, List.length_nil]; omega)) rfl ?_)
              clear hS
              intro v96 B96 w131 hsl96 hS
              refine SatL.pu (RunV.assign rfl) rfl ?_
              refine SatL.nil (SatE.blk_normal (SatE.thenC ?_))
              refine SatC.region ?_
              refine SatL.pu (RunV.move rfl) rfl ?_
              refine SatL.pu (RunV.add rfl rfl (by first | exact wrapI64 (by omega) | rfl)) rfl ?_
              refine SatL.pu (RunV.assign rfl) rfl ?_
              refine SatL.nil ?_
              first
              | (refine SatE.again (i + 1, acc ++ [⟨key, x, mk, ix⟩], v68, B68, true) ⟨by omega, by rw [List.map_append]; exact hsl68, ?_, by simp only [List.length_append, List.length_cons, List.length_nil]; omega, hS.sel (by repeat constructor)⟩ (by dsimp only; omega) (by repeat constructor)
                 rw [putF_eq (by assumption)] at hacc; simpa using hacc)
              | (refine SatE.again (i + 1, acc ++ [⟨key, x, mk, ix⟩] ++ [y], v96, B96, true) ⟨by omega, by rw [List.map_append, List.map_append]; exact hsl96, ?_, by simp only [List.length_append, List.length_cons, List.length_nil]; omega, hS.sel (by repeat constructor)⟩ (by dsimp only; omega) (by repeat constructor)
                 have el : laid = false := by assumption
                 subst el
                 rw [putF_gt (by assumption) (by assumption)] at hacc; simpa using hacc)
              | (refine SatE.again (i + 1, acc ++ [y], v96, B96, laid) ⟨by omega, by rw [List.map_append]; exact hsl96, ?_, by simp only [List.length_append, List.length_cons, List.length_nil]; omega, hS.sel (by repeat constructor)⟩ (by dsimp only; omega) (by repeat constructor)
                 rw [putF_lt (by assumption) (by first | exact .inl (by assumption) | exact .inr (by assumption))] at hacc; simpa using hacc)
          · (try simp only [cx, ne_eq] at h3)
            try (exfalso; (first | omega | exact h3 trivial | contradiction); done)
            all_goals
            refine SatL.guard_n rfl rfl rfl rfl ?_
            refine SatL.guard_n rfl rfl rfl rfl ?_
            refine SatL.guard_n rfl rfl rfl rfl ?_
            refine SatL.guard_n rfl rfl rfl rfl ?_
            refine SatL.guard_n rfl rfl rfl rfl ?_
            refine SatL.guard_n rfl rfl rfl rfl ?_
            refine SatL.guard_n rfl rfl rfl rfl ?_
            refine SatL.guard_n rfl rfl rfl rfl ?_
            refine SatL.guard_n rfl rfl rfl rfl ?_
            refine SatL.pu (RunV.pick_f rfl rfl) rfl ?_
            refine SatL.nil (SatE.thenC ?_)
            refine SatC.weak (e' := [(0, _), (1, _), (3, _), (8, _), (9, _), (12, _), (13, _), (14, _), (15, _), (82, _)]) (by repeat constructor) ?_
            refine SatC.cond_f rfl ?_
            refine SatC.skip (SatE.thenC ?_)
            refine SatC.region ?_
            refine SatL.pu (RunV.move rfl) rfl ?_
            refine SatL.pu (RunV.move rfl) rfl ?_
            first | refine SatL.pu (RunV.nil_ptr rfl) rfl ?_ | refine SatL.pu (RunV.nil_func rfl) rfl ?_ | refine SatL.pu (RunV.nil_yield rfl) rfl ?_
            first | refine SatL.pu (RunV.fieldAddrL rfl rfl rfl) rfl ?_ | refine SatL.pu (RunV.fieldAddr rfl rfl rfl) rfl ?_
            refine SatL.pu (RunV.load1 hS rfl rfl (by repeat constructor) rfl) rfl ?_
            refine SatL.pu (RunV.move rfl) rfl ?_
            refine SatL.pu (RunV.indexR hv0 rfl rfl rfl (by omega) (by omega) rfl) rfl ?_
            refine SatL.pu (RunV.loadRNz (hsl.rd hS (by repeat constructor)) rfl rfl (map_get hy)) rfl ?_
            refine SatL.op rfl (OpW.buildSlice1 hS rfl rfl rfl rfl rfl (by repeat constructor) rfl rfl rfl ?_)
            clear hS
            intro b95 w130 _ hS
            refine SatL.op rfl (OpW.append1 (by assumption) hS (by repeat constructor) rfl rfl (by repeat constructor) rfl rfl rfl rfl rfl rfl rfl rfl (by first | omega | (simp only [List.length_map]; omega) | (simp only [List.length_append, List.length_map, List.length_cons, List.length_nil]; omega)) rfl ?_)
            clear hS
            intro v96 B96 w131 hsl96 hS
            refine SatL.pu (RunV.assign rfl) rfl ?_
            refine SatL.nil (SatE.blk_normal (SatE.thenC ?_))
            refine SatC.region ?_
            refine SatL.pu (RunV.move rfl) rfl ?_
            refine SatL.pu (RunV.add rfl rfl (by first | exact wrapI64 (by omega) | rfl)) rfl ?_
            refine SatL.pu (RunV.assign rfl) rfl ?_
            refine SatL.nil ?_
            first
            | (refine SatE.again (i + 1, acc ++ [⟨key, x, mk, ix⟩], v68, B68, true) ⟨by omega, by rw [List.map_append]; exact hsl68, ?_, by simp only [List.length_append, List.length_cons, List.length_nil]; omega, hS.sel (by repeat constructor)⟩ (by dsimp only; omega) (by repeat constructor)
               rw [putF_eq (by assumption)] at hacc; simpa using hacc)
            | (refine SatE.again (i + 1, acc ++ [⟨key, x, mk, ix⟩] ++ [y], v96, B96, true) ⟨by omega, by rw [List.map_append, List.map_append]; exact hsl96, ?_, by simp only [List.length_append, List.length_cons, List.length_nil]; omega, hS.sel (by repeat constructor)⟩ (by dsimp only; omega) (by repeat constructor)
               have el : laid = false := by assumption
               subst el
               rw [putF_gt (by assumption) (by assumption)] at hacc; simpa using hacc)
            | (refine SatE.again (i + 1, acc ++ [y], v96, B96, laid) ⟨by omega, by rw [List.map_append]; exact hsl96, ?_, by simp only [List.length_append, List.length_cons, List.length_nil]; omega, hS.sel (by repeat constructor)⟩ (by dsimp only; omega) (by repeat constructor)
               rw [putF_lt (by assumption) (by first | exact .inl (by assumption) | exact .inr (by assumption))] at hacc; simpa using hacc)
      · (try simp only [cx, ne_eq] at h1)
        try (exfalso; (first | omega | exact h1 trivial | contradiction); done)
        all_goals
        refine SatC.exit (SatE.then_exit (SatE.then_exit (SatE.blk_exit (SatE.thenC ?_))))
        refine SatC.merge (G := Value × List (Nat × Obj)) (V := fun ⟨vz, Bz⟩ => [(13, vz)]) (Cn := [(0, _), (3, _), (8, _), (9, _), (12, _)]) (I := fun ⟨vz, Bz⟩ w' => Sl 48 4 vz ((putF ⟨key, x, mk, ix⟩ false l).map tr) Bz ∧ St w X (Bz ++ ((b12, C 48 (tr ⟨key, x, mk, ix⟩)) :: (b8, C 48 (tr zr)) :: (b, C 54 (rt most v last)) :: B)) w') (by repeat constructor) ?_ ?_
        · skip
          refine SatC.seq ?_
          rw [List.drop_of_length_le (by omega)] at hacc
          refine SatC.region ?_
          refine SatL.pu (RunV.move rfl) rfl ?_
          refine SatL.pu (RunV.not rfl) rfl ?_
          refine SatL.nil (SatE.thenC ?_)
          refine SatC.cond rfl (fun h2 => ?_) (fun h2 => ?_)
          · (try simp only [cx, ne_eq] at h2)
            try (exfalso; (first | omega | exact h2 trivial | contradiction); done)
            all_goals
            refine SatC.weak (e' := [(0, _), (3, _), (8, _), (9, _), (12, _), (13, _)]) (by repeat constructor) ?_
            refine SatC.region ?_
            refine SatL.pu (RunV.move rfl) rfl ?_
            refine SatL.pu (RunV.loadN hS rfl rfl (by repeat constructor) (by repeat constructor)) rfl ?_
            refine SatL.op rfl (OpW.buildSlice1 hS rfl rfl rfl rfl rfl (by repeat constructor) rfl rfl rfl ?_)
            clear hS
            intro b101 w130 _ hS
            refine SatL.op rfl (OpW.append1 (by assumption) hS (by repeat constructor) rfl rfl (by repeat constructor) rfl rfl rfl rfl rfl rfl rfl rfl (by first | omega | (simp only [List.length_map]; omega) | (simp only [List.length_append, List.length_map, List.length_cons, List.length_nil]; omega)) rfl ?_)
            clear hS
            intro v102 B102 w131 hsl102 hS
            refine SatL.pu (RunV.assign rfl) rfl ?_
            refine SatL.nil ?_
            refine SatE.met ((v102, B102)) ?_ (by repeat constructor)
            refine ⟨?_, hS.sel (by repeat constructor)⟩
            rw [← hacc, show laid = false from by assumption, show putF ⟨key, x, mk, ix⟩ false [] = [⟨key, x, mk, ix⟩] from rfl, List.map_append]
            exact hsl102
          · (try simp only [cx, ne_eq] at h2)
            try (exfalso; (first | omega | exact h2 trivial | contradiction); done)
            all_goals
            refine SatC.skip ?_
            refine SatE.met ((va, Ba)) ?_ (by repeat constructor)
            refine ⟨?_, hS.sel (by repeat constructor)⟩
            rw [← hacc, show laid = true from by assumption, show putF ⟨key, x, mk, ix⟩ true [] = [] from rfl, List.append_nil]
            exact hsa
        · clear hS
          rintro ⟨vz, Bz⟩ w190 ⟨hsz, hS⟩
          refine SatC.weak (e' := [(0, _), (3, _), (8, _), (9, _), (12, _), (13, _)]) (by repeat constructor) ?_
          refine SatC.seq ?_
          refine SatC.region ?_
          refine SatL.pu (RunV.move rfl) rfl ?_
          refine SatL.pu (RunV.move rfl) rfl ?_
          first | refine SatL.pu (RunV.nil_ptr rfl) rfl ?_ | refine SatL.pu (RunV.nil_func rfl) rfl ?_ | refine SatL.pu (RunV.nil_yield rfl) rfl ?_
          first | refine SatL.pu (RunV.fieldAddrL rfl rfl rfl) rfl ?_ | refine SatL.pu (RunV.fieldAddr rfl rfl rfl) rfl ?_
          refine SatL.op rfl (OpW.storeSv hS rfl rfl (by assumption) (by repeat constructor) (by repeat constructor) rfl ?_)
          clear hS
          intro w191 hS
          refine SatL.nil (SatE.thenC ?_)
          refine SatC.seq ?_
          refine SatC.region ?_
          refine SatL.pu (RunV.move rfl) rfl ?_
          refine SatL.pu (RunV.move rfl) rfl ?_
          refine SatL.op rfl (OpW.enter rfl rfl rfl (rfl) (raise_ref ix (hS.ownT (A := (b, C 54 (rt most vz last)) :: Bz) (by repeat constructor))) ?_)
          rintro r192 w192 ⟨rfl, h⟩
          replace hS := hS.callT (A := (b, C 54 (rt most vz last)) :: Bz) (by repeat constructor) h
          refine SatL.nil (SatE.thenC ?_)
          refine SatC.seq ?_
          refine SatC.region ?_
          refine SatL.pu (RunV.loadN hS rfl rfl (by repeat constructor) (by repeat constructor)) rfl ?_
          refine SatL.op rfl (OpW.store hS rfl rfl (by repeat constructor) (by repeat constructor) (by repeat constructor) rfl rfl ?_)
          clear hS
          intro w193 hS
          refine SatL.pu (RunV.assign rfl) rfl ?_
          refine SatL.nil (SatE.thenC ?_)
          refine SatC.ret ?_
          refine SatE.retG2 hS rfl (.cellN rfl rfl (by repeat constructor) (by repeat constructor)) (.tmp rfl) ?_
          first
          | (rw [if_pos ⟨by assumption, by omega⟩] at hA
             subst hA
             exact ⟨rfl, v, B, hsl, hS.sel (by repeat constructor)⟩)
          | exact ⟨rfl, vz, Bz, hsz, hS.sel (by repeat constructor)⟩
theorem dropF_next {key : List UInt8} {i : Nat} {y : Tr} (hy : l[i]? = some y) : dropF key (l.take (i + 1)) = dropF key (l.take i) ++ (if y.k = key then [] else [y]) := by
  rw [List.take_add_one, hy, Option.toList_some, dropF_app]
  congr 1
  unfold dropF
  by_cases e : y.k = key
  · rw [if_pos e, List.filter_cons_of_neg (by simpa using e)]; rfl
  · rw [if_neg e, List.filter_cons_of_pos (by simpa using e)]; rfl
theorem drop_ref (key : List UInt8) (ix : Int) (hown : Own w ((b, C 54 (rt most v last)) :: B)) (hsl : Sl 48 4 v (l.map tr) B) (hl : l.length ≤ 100) :
    Ret Try.prog 28 #[.pointer (some ⟨b, 0, none⟩), str key, .int .u64 ix] w fun u w' => u = .bool (dropS last l key ix).1 ∧
      ∃ v' B', Sl 48 4 v' ((dropS last l key ix).2.1.map tr) B' ∧ St w (b :: B.map Prod.fst) ((b, C 54 (rt most v' (dropS last l key ix).2.2)) :: B') w' := by
  have hS := St.init hown
  obtain ⟨c0, hv0⟩ := hsl.slv
  simp only [List.length_map] at hv0
  rw [List.map_cons] at hS
  generalize hX : b :: B.map Prod.fst = X at hS ⊢
  refine Ret.enter Try.func28 Try.ntmps28 rfl rfl ?_
  simp only [argEnv, Nat.reduceAdd]
  generalize hA : dropS last l key ix = A
  unfold dropS at hA
  generalize hg : getF l key = F at hA
  refine SatC.seq ?_
  refine SatC.region ?_
  refine SatL.pu (RunV.assign rfl) rfl ?_
  refine SatL.nil (SatE.thenC ?_)
  refine SatC.seq ?_
  refine SatC.region ?_
  refine SatL.pu (RunV.move rfl) rfl ?_
  refine SatL.pu (RunV.move rfl) rfl ?_
  refine SatL.op rfl (OpW.enter rfl rfl rfl (rfl) (get_ref key (hS.ownT (A := (b, C 54 (rt most v last)) :: B) (by repeat constructor)) hsl (by omega)) ?_)
  rintro r1 w1 ⟨rfl, h⟩
  replace hS := St.callN hS h
  rw [hg]
  refine SatL.pu (RunV.move rfl) rfl ?_
  refine SatL.pu (RunV.extract rfl rfl) rfl ?_
  refine SatL.pu (RunV.extract rfl rfl) rfl ?_
  refine SatL.op rfl (OpW.alloc hS rfl rfl (by repeat constructor) ?_)
  clear hS
  intro b7 w2 _ hS
  refine SatL.op rfl (OpW.store hS rfl rfl (by repeat constructor) (by repeat constructor) (by repeat constructor) rfl rfl ?_)
  clear hS
  intro w3 hS
  refine SatL.pu (RunV.assign rfl) rfl ?_
  refine SatL.nil (SatE.thenC ?_)
  refine SatC.seq ?_
  refine SatC.seq ?_
  refine SatC.region ?_
  refine SatL.pu (RunV.move rfl) rfl ?_
  refine SatL.pu (RunV.not rfl) rfl ?_
  refine SatL.nil (SatE.thenC ?_)
  refine SatC.cond rfl (fun h1 => ?_) (fun h1 => ?_)
  · (try simp only [cx, ne_eq] at h1)
    try (exfalso; (first | omega | exact h1 trivial | contradiction); done)
    all_goals
    refine SatC.seq ?_
    refine SatC.weak (e' := [(6, _)]) (by repeat constructor) ?_
    refine SatC.region ?_
    refine SatL.pu (RunV.assign rfl) rfl ?_
    refine SatL.nil (SatE.thenC ?_)
    refine SatC.ret (SatE.then_ret ?_)
    refine SatE.ret1 rfl rfl ?_
    first
    | (rw [if_pos (by assumption)] at hA
       subst hA
       exact ⟨rfl, v, B, hsl, hS.sel (by repeat constructor)⟩)
    | (rw [if_neg (by simp_all)] at hA
       subst hA
       exact ⟨rfl, va, Ba, hsa, hS.sel (by repeat constructor)⟩)
  · (try simp only [cx, ne_eq] at h1)
    try (exfalso; (first | omega | exact h1 trivial | contradiction); done)
    all_goals
    refine SatC.skip (SatE.thenC ?_)
    refine SatC.seq ?_
    refine SatC.region ?_
    refine SatL.pu (RunV.assign rfl) rfl ?_
    refine SatL.nil (SatE.thenC ?_)
    refine SatC.seq ?_
    refine SatC.seq ?_
    refine SatC.region ?_
    refine SatL.pu (RunV.assign rfl) rfl ?_
    refine SatL.nil (SatE.thenC ?_)
    refine SatC.block ?_
    refine SatC.loopK (G := Nat × Value × List (Nat × Obj)) (V := fun ⟨i, va, Ba⟩ => [(9, va), (10, .int .i64 (i : Int))]) (Cn := [(0, _), (1, _), (2, _), (6, _)]) (I := fun ⟨i, va, Ba⟩ w' => i ≤ l.length ∧ Sl 48 4 va ((dropF key (l.take i)).map tr) Ba ∧ St w X (Ba ++ ((b7, C 48 (tr F.1)) :: (b, C 54 (rt most v last)) :: B)) w') (μ := fun ⟨i, va, Ba⟩ => l.length - i) (0, .slice none 0 0, []) ?_ (by repeat constructor) ?_
    · exact ⟨Nat.zero_le _, .nil, hS⟩
    clear hS
    rintro ⟨i, va, Ba⟩ w4 ⟨hi, hsa, hS⟩
    refine SatC.weak (e' := [(0, _), (1, _), (2, _), (6, _), (9, _), (10, _)]) (by repeat constructor) ?_
    refine SatC.seq ?_
    refine SatC.seq ?_
    refine SatC.region ?_
    refine SatL.pu (RunV.move rfl) rfl ?_
    refine SatL.pu (RunV.move rfl) rfl ?_
    first | refine SatL.pu (RunV.nil_ptr rfl) rfl ?_ | refine SatL.pu (RunV.nil_func rfl) rfl ?_ | refine SatL.pu (RunV.nil_yield rfl) rfl ?_
    first | refine SatL.pu (RunV.fieldAddrL rfl rfl rfl) rfl ?_ | refine SatL.pu (RunV.fieldAddr rfl rfl rfl) rfl ?_
    refine SatL.pu (RunV.load1 hS rfl rfl (by repeat constructor) rfl) rfl ?_
    refine SatL.pu (RunV.lenR hv0 rfl rfl) rfl ?_
    refine SatL.pu (RunV.lss rfl rfl) rfl ?_
    refine SatL.nil (SatE.thenC ?_)
    refine SatC.cond rfl (fun h2 => ?_) (fun h2 => ?_)
    · (try simp only [cx, ne_eq] at h2)
      try (exfalso; (first | omega | exact h2 trivial | contradiction); done)
      all_goals
      refine SatC.skip (SatE.thenC ?_)
      refine SatC.seq ?_
      refine SatC.block ?_
      refine SatC.seq ?_
      obtain ⟨y, hy⟩ := get_some l i (by omega)
      have hln : (dropF key (l.take i)).length ≤ l.length := Nat.le_trans (List.length_filter_le ..) (by rw [List.length_take]; omega)
      refine SatC.region ?_
      refine SatL.pu (RunV.move rfl) rfl ?_
      first | refine SatL.pu (RunV.nil_ptr rfl) rfl ?_ | refine SatL.pu (RunV.nil_func rfl) rfl ?_ | refine SatL.pu (RunV.nil_yield rfl) rfl ?_
      first | refine SatL.pu (RunV.fieldAddrL rfl rfl rfl) rfl ?_ | refine SatL.pu (RunV.fieldAddr rfl rfl rfl) rfl ?_
      refine SatL.pu (RunV.load1 hS rfl rfl (by repeat constructor) rfl) rfl ?_
      refine SatL.pu (RunV.move rfl) rfl ?_
      refine SatL.pu (RunV.indexR hv0 rfl rfl rfl (by omega) (by omega) rfl) rfl ?_
      first | refine SatL.pu (RunV.fieldAddrL rfl rfl rfl) rfl ?_ | refine SatL.pu (RunV.fieldAddr rfl rfl rfl) rfl ?_
      refine SatL.pu (RunV.loadR1f (hsl.rd hS (by repeat constructor)) rfl rfl (map_get hy) rfl) rfl ?_
      refine SatL.pu (RunV.move rfl) rfl ?_
      refine SatL.pu (RunV.sneq rfl rfl) rfl ?_
      refine SatL.nil (SatE.thenC ?_)
      refine SatC.weak (e' := [(0, _), (1, _), (2, _), (6, _), (9, _), (10, _), (37, _)]) (by repeat constructor) ?_
      refine SatC.cond rfl (fun h3 => ?_) (fun h3 => ?_)
      · (try simp only [cx, ne_eq] at h3)
        try (exfalso; (first | omega | exact h3 trivial | contradiction); done)
        all_goals
        refine SatC.region ?_
        refine SatL.pu (RunV.move rfl) rfl ?_
        refine SatL.pu (RunV.move rfl) rfl ?_
        first | refine SatL.pu (RunV.nil_ptr rfl) rfl ?_ | refine SatL.pu (RunV.nil_func rfl) rfl ?_ | refine SatL.pu (RunV.nil_yield rfl) rfl ?_
        first | refine SatL.pu (RunV.fieldAddrL rfl rfl rfl) rfl ?_ | refine SatL.pu (RunV.fieldAddr rfl rfl rfl) rfl ?_
        refine SatL.pu (RunV.load1 hS rfl rfl (by repeat constructor) rfl) rfl ?_
        refine SatL.pu (RunV.move rfl) rfl ?_
        refine SatL.pu (RunV.indexR hv0 rfl rfl rfl (by omega) (by omega) rfl) rfl ?_
        refine SatL.pu (RunV.loadRNz (hsl.rd hS (by repeat constructor)) rfl rfl (map_get hy)) rfl ?_
        refine SatL.op rfl (OpW.buildSlice1 hS rfl rfl rfl rfl rfl (by repeat constructor) rfl rfl rfl ?_)
        clear hS
        intro b46 w5 _ hS
        refine SatL.op rfl (OpW.append1 (by assumption) hS (by repeat constructor) rfl rfl (by repeat constructor) rfl rfl rfl rfl rfl rfl rfl rfl (by first | omega | (simp only [List.length_map]; omega) | (simp only [List.length_append, List.length_map, List.length_cons, List.length_nil]; omega)) rfl ?_)
        clear hS
        intro v47 B47 w6 hsl47 hS
        refine SatL.pu (RunV.assign rfl) rfl ?_
        refine SatL.nil (SatE.blk_normal (SatE.thenC ?_))
        refine SatC.region ?_
        refine SatL.pu (RunV.move rfl) rfl ?_
        refine SatL.pu (RunV.add rfl rfl (by first | exact wrapI64 (by omega) | rfl)) rfl ?_
        refine SatL.pu (RunV.assign rfl) rfl ?_
        refine SatL.nil ?_
        first
        | (refine SatE.again (i + 1, v47, B47) ⟨by omega, ?_, hS.sel (by repeat constructor)⟩ (by dsimp only; omega) (by repeat constructor)
           rw [dropF_next hy, if_neg (by assumption), List.map_append]; exact hsl47)
        | (refine SatE.again (i + 1, va, Ba) ⟨by omega, ?_, hS.sel (by repeat constructor)⟩ (by dsimp only; omega) (by repeat constructor)
           rw [dropF_next hy, if_pos (by assumption), List.append_nil]; exact hsa)
      · (try simp only [cx, ne_eq] at h3)
        try (exfalso; (first | omega | exact h3 trivial | contradiction); done)
        all_goals
        refine SatC.skip (SatE.blk_normal (SatE.thenC ?_))
        refine SatC.region ?_
        refine SatL.pu (RunV.move rfl) rfl ?_
        refine SatL.pu (RunV.add rfl rfl (by first | exact wrapI64 (by omega) | rfl)) rfl ?_
        refine SatL.pu (RunV.assign rfl) rfl ?_
        refine SatL.nil ?_
        first
        | (refine SatE.again (i + 1, v47, B47) ⟨by omega, ?_, hS.sel (by repeat constructor)⟩ (by dsimp only; omega) (by repeat constructor)
           rw [dropF_next hy, if_neg (by assumption), List.map_append]; exact hsl47)
        | (refine SatE.again (i + 1, va, Ba) ⟨by omega, ?_, hS.sel (by repeat constructor)⟩ (by dsimp only; omega) (by repeat constructor)
           rw [dropF_next hy, if_pos (by assumption), List.append_nil]; exact hsa)
    · (try simp only [cx, ne_eq] at h2)
      try (exfalso; (first | omega | exact h2 trivial | contradiction); done)
      all_goals
      refine SatC.exit (SatE.then_exit (SatE.then_exit (SatE.blk_exit (SatE.thenC ?_))))
      refine SatC.seq ?_
      rw [List.take_of_length_le (by omega)] at hsa
      refine SatC.region ?_
      refine SatL.pu (RunV.move rfl) rfl ?_
      refine SatL.pu (RunV.move rfl) rfl ?_
      first | refine SatL.pu (RunV.nil_ptr rfl) rfl ?_ | refine SatL.pu (RunV.nil_func rfl) rfl ?_ | refine SatL.pu (RunV.nil_yield rfl) rfl ?_
      first | refine SatL.pu (RunV.fieldAddrL rfl rfl rfl) rfl ?_ | refine SatL.pu (RunV.fieldAddr rfl rfl rfl) rfl ?_
      refine SatL.op rfl (OpW.storeSv hS rfl rfl (by assumption) (by repeat constructor) (by repeat constructor) rfl ?_)
      clear hS
      intro w5 hS
      refine SatL.nil (SatE.thenC ?_)
      refine SatC.seq ?_
      refine SatC.weak (e' := [(0, _), (2, _), (6, _)]) (by repeat constructor) ?_
      refine SatC.region ?_
      refine SatL.pu (RunV.move rfl) rfl ?_
      refine SatL.pu (RunV.move rfl) rfl ?_
      refine SatL.op rfl (OpW.enter rfl rfl rfl (rfl) (raise_ref ix (hS.ownT (A := (b, C 54 (rt most va last)) :: Ba) (by repeat constructor))) ?_)
      rintro r6 w6 ⟨rfl, h⟩
      replace hS := hS.callT (A := (b, C 54 (rt most va last)) :: Ba) (by repeat constructor) h
      refine SatL.nil (SatE.thenC ?_)
      refine SatC.seq ?_
      refine SatC.region ?_
      refine SatL.pu (RunV.assign rfl) rfl ?_
      refine SatL.nil (SatE.thenC ?_)
      refine SatC.ret ?_
      refine SatE.ret1 rfl rfl ?_
      first
      | (rw [if_pos (by assumption)] at hA
         subst hA
         exact ⟨rfl, v, B, hsl, hS.sel (by repeat constructor)⟩)
      | (rw [if_neg (by simp_all)] at hA
         subst hA
         exact ⟨rfl, va, Ba, hsa, hS.sel (by repeat constructor)⟩)
def undF (p : List UInt8) (rows : List Tr) : List Tr := rows.filter fun r => under r.k p
theorem undF_next {p : List UInt8} {i : Nat} {y : Tr} (hy : l[i]? = some y) : undF p (l.take (i + 1)) = undF p (l.take i) ++ (if under y.k p = true then [y] else []) := by
  rw [List.take_add_one, hy, Option.toList_some]
  unfold undF
  rw [List.filter_append]
  congr 1
  by_cases e : under y.k p = true
  · rw [if_pos e, List.filter_cons_of_pos (p := fun (r : Tr) => under r.k p) e]; rfl
  · rw [if_neg e, List.filter_cons_of_neg (p := fun (r : Tr) => under r.k p) e]; rfl
theorem under_reft (p : List UInt8) (hp : p.length ≤ 9223372036854775807) (hk : KeyB l) (hown : Own w ((b, C 54 (rt most v last)) :: B)) (hsl : Sl 48 4 v (l.map tr) B) (hl : l.length ≤ 100) :
    Ret Try.prog 30 #[.pointer (some ⟨b, 0, none⟩), str p] w fun u w' => ∃ B', Sl 48 4 u ((undF p l).map tr) B' ∧ St w [] B' w' := by
  have hS := St.init hown
  obtain ⟨c0, hv0⟩ := hsl.slv
  simp only [List.length_map] at hv0
  generalize hX : ((b, C 54 (rt most v last)) :: B).map Prod.fst = X at hS
  have hro : ∀ {L w'}, St w X (L ++ ((b, C 54 (rt most v last)) :: B)) w' → St w [] L w' := fun h => St.roL hown (by rw [hX]; exact h.perm List.perm_append_comm) .here
  refine Ret.enter Try.func30 Try.ntmps30 rfl rfl ?_
  simp only [argEnv, Nat.reduceAdd]
  refine SatC.seq ?_
  refine SatC.region ?_
  refine SatL.pu (RunV.assign rfl) rfl ?_
  refine SatL.nil (SatE.thenC ?_)
  refine SatC.seq ?_
  refine SatC.region ?_
  refine SatL.pu (RunV.assign rfl) rfl ?_
  refine SatL.nil (SatE.thenC ?_)
  refine SatC.seq ?_
  refine SatC.seq ?_
  refine SatC.region ?_
  refine SatL.pu (RunV.assign rfl) rfl ?_
  refine SatL.nil (SatE.thenC ?_)
  refine SatC.block ?_
  refine SatC.loopK (G := Nat × Value × List (Nat × Obj)) (V := fun ⟨i, va, Ba⟩ => [(5, va), (6, .int .i64 (i : Int))]) (Cn := [(0, _), (1, _), (4, _)]) (I := fun ⟨i, va, Ba⟩ w' => i ≤ l.length ∧ Sl 48 4 va ((undF p (l.take i)).map tr) Ba ∧ St w X (Ba ++ ((b, C 54 (rt most v last)) :: B)) w') (μ := fun ⟨i, va, Ba⟩ => l.length - i) (0, .slice none 0 0, []) ?_ (by repeat constructor) ?_
  · exact ⟨Nat.zero_le _, .nil, hS⟩
  clear hS
  rintro ⟨i, va, Ba⟩ w1 ⟨hi, hsa, hS⟩
  refine SatC.weak (e' := [(0, _), (1, _), (4, _), (5, _), (6, _)]) (by repeat constructor) ?_
  refine SatC.seq ?_
  refine SatC.seq ?_
  refine SatC.region ?_
  refine SatL.pu (RunV.move rfl) rfl ?_
  refine SatL.pu (RunV.move rfl) rfl ?_
  first | refine SatL.pu (RunV.nil_ptr rfl) rfl ?_ | refine SatL.pu (RunV.nil_func rfl) rfl ?_ | refine SatL.pu (RunV.nil_yield rfl) rfl ?_
  first | refine SatL.pu (RunV.fieldAddrL rfl rfl rfl) rfl ?_ | refine SatL.pu (RunV.fieldAddr rfl rfl rfl) rfl ?_
  refine SatL.pu (RunV.load1 hS rfl rfl (by repeat constructor) rfl) rfl ?_
  refine SatL.pu (RunV.lenR hv0 rfl rfl) rfl ?_
  refine SatL.pu (RunV.lss rfl rfl) rfl ?_
  refine SatL.nil (SatE.thenC ?_)
  refine SatC.cond rfl (fun h1 => ?_) (fun h1 => ?_)
  · (try simp only [cx, ne_eq] at h1)
    try (exfalso; (first | omega | exact h1 trivial | contradiction); done)
    all_goals
    refine SatC.skip (SatE.thenC ?_)
    refine SatC.seq ?_
    refine SatC.block ?_
    refine SatC.seq ?_
    obtain ⟨y, hy⟩ := get_some l i (by omega)
    have hyk := hk y (List.mem_of_getElem? hy)
    have hln : (undF p (l.take i)).length ≤ l.length := Nat.le_trans (List.length_filter_le ..) (by rw [List.length_take]; omega)
    refine SatC.region ?_
    refine SatL.pu (RunV.move rfl) rfl ?_
    first | refine SatL.pu (RunV.nil_ptr rfl) rfl ?_ | refine SatL.pu (RunV.nil_func rfl) rfl ?_ | refine SatL.pu (RunV.nil_yield rfl) rfl ?_
    first | refine SatL.pu (RunV.fieldAddrL rfl rfl rfl) rfl ?_ | refine SatL.pu (RunV.fieldAddr rfl rfl rfl) rfl ?_
    refine SatL.pu (RunV.load1 hS rfl rfl (by repeat constructor) rfl) rfl ?_
    refine SatL.pu (RunV.move rfl) rfl ?_
    refine SatL.pu (RunV.indexR hv0 rfl rfl rfl (by omega) (by omega) rfl) rfl ?_
    first | refine SatL.pu (RunV.fieldAddrL rfl rfl rfl) rfl ?_ | refine SatL.pu (RunV.fieldAddr rfl rfl rfl) rfl ?_
    refine SatL.pu (RunV.loadR1f (hsl.rd hS (by repeat constructor)) rfl rfl (map_get hy) rfl) rfl ?_
    refine SatL.pu (RunV.move rfl) rfl ?_
    refine SatL.op rfl (OpW.enter rfl rfl rfl (rfl) (under_ref y.k p _ hyk hp) ?_)
    rintro r2 w2 ⟨rfl, h⟩
    replace hS := St.callN hS h
    refine SatL.nil (SatE.thenC ?_)
    refine SatC.weak (e' := [(0, _), (1, _), (4, _), (5, _), (6, _), (25, _)]) (by repeat constructor) ?_
    refine SatC.cond rfl (fun h2 => ?_) (fun h2 => ?_)
    · (try simp only [cx, ne_eq] at h2)
      try (exfalso; (first | omega | exact h2 trivial | contradiction); done)
      all_goals
      refine SatC.region ?_
      refine SatL.pu (RunV.move rfl) rfl ?_
      refine SatL.pu (RunV.move rfl) rfl ?_
      first | refine SatL.pu (RunV.nil_ptr rfl) rfl ?_ | refine SatL.pu (RunV.nil_func rfl) rfl ?_ | refine SatL.pu (RunV.nil_yield rfl) rfl ?_
      first | refine SatL.pu (RunV.fieldAddrL rfl rfl rfl) rfl ?_ | refine SatL.pu (RunV.fieldAddr rfl rfl rfl) rfl ?_
      refine SatL.pu (RunV.load1 hS rfl rfl (by repeat constructor) rfl) rfl ?_
      refine SatL.pu (RunV.move rfl) rfl ?_
      refine SatL.pu (RunV.indexR hv0 rfl rfl rfl (by omega) (by omega) rfl) rfl ?_
      refine SatL.pu (RunV.loadRNz (hsl.rd hS (by repeat constructor)) rfl rfl (map_get hy)) rfl ?_
      refine SatL.op rfl (OpW.buildSlice1 hS rfl rfl rfl rfl rfl (by repeat constructor) rfl rfl rfl ?_)
      clear hS
      intro b34 w3 _ hS
      refine SatL.op rfl (OpW.append1 (by assumption) hS (by repeat constructor) rfl rfl (by repeat constructor) rfl rfl rfl rfl rfl rfl rfl rfl (by first | omega | (simp only [List.length_map]; omega) | (simp only [List.length_append, List.length_map, List.length_cons, List.length_nil]; omega)) rfl ?_)
      clear hS
      intro v35 B35 w4 hsl35 hS
      refine SatL.pu (RunV.assign rfl) rfl ?_
      refine SatL.nil (SatE.blk_normal (SatE.thenC ?_))
      refine SatC.region ?_
      refine SatL.pu (RunV.move rfl) rfl ?_
      refine SatL.pu (RunV.add rfl rfl (by first | exact wrapI64 (by omega) | rfl)) rfl ?_
      refine SatL.pu (RunV.assign rfl) rfl ?_
      refine SatL.nil ?_
      first
      | (refine SatE.again (i + 1, v35, B35) ⟨by omega, ?_, hS.sel (by repeat constructor)⟩ (by dsimp only; omega) (by repeat constructor)
         rw [undF_next hy, if_pos (by assumption), List.map_append]; exact hsl35)
      | (refine SatE.again (i + 1, va, Ba) ⟨by omega, ?_, hS.sel (by repeat constructor)⟩ (by dsimp only; omega) (by repeat constructor)
         rw [undF_next hy, if_neg (by simp_all), List.append_nil]; exact hsa)
    · (try simp only [cx, ne_eq] at h2)
      try (exfalso; (first | omega | exact h2 trivial | contradiction); done)
      all_goals
      refine SatC.skip (SatE.blk_normal (SatE.thenC ?_))
      refine SatC.region ?_
      refine SatL.pu (RunV.move rfl) rfl ?_
      refine SatL.pu (RunV.add rfl rfl (by first | exact wrapI64 (by omega) | rfl)) rfl ?_
      refine SatL.pu (RunV.assign rfl) rfl ?_
      refine SatL.nil ?_
      first
      | (refine SatE.again (i + 1, v35, B35) ⟨by omega, ?_, hS.sel (by repeat constructor)⟩ (by dsimp only; omega) (by repeat constructor)
         rw [undF_next hy, if_pos (by assumption), List.map_append]; exact hsl35)
      | (refine SatE.again (i + 1, va, Ba) ⟨by omega, ?_, hS.sel (by repeat constructor)⟩ (by dsimp only; omega) (by repeat constructor)
         rw [undF_next hy, if_neg (by simp_all), List.append_nil]; exact hsa)
  · (try simp only [cx, ne_eq] at h1)
    try (exfalso; (first | omega | exact h1 trivial | contradiction); done)
    all_goals
    refine SatC.exit (SatE.then_exit (SatE.then_exit (SatE.blk_exit (SatE.thenC ?_))))
    refine SatC.seq ?_
    refine SatC.region ?_
    refine SatL.pu (RunV.move rfl) rfl ?_
    refine SatL.pu (RunV.assign rfl) rfl ?_
    refine SatL.nil (SatE.thenC ?_)
    refine SatC.ret ?_
    refine SatE.ret1 rfl rfl ?_
    rw [List.take_of_length_le (by omega)] at hsa; exact ⟨_, hsa, hro hS⟩
end
end Go.Proofs.Ytdoinfpkfbfjaaa
