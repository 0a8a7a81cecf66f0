/- Contracts of chapter 08's functions over lists: the cut, the finding, the comparison. -/
import Derived.Test.YtnjegigoifkikaaA
import Derived.Test.YtnjegigoifkikaaK8
set_option linter.unusedSimpArgs false
set_option linter.unusedVariables false
set_option maxRecDepth 100000
set_option maxHeartbeats 1000000
namespace Go.Proofs.Ytnjegigoifkikaa
open Go.RowKit
theorem cut_any (W0 : World) (v : Value) (ys : List Upd) (w : World) (hr : RdRow W0 v 3 (ys.map ud)) :
    Ret Try.prog 18 #[v] w fun v' w' => RdRow W0 v' 3 ((ys.take 60).map ud) ∧ St w [] [] w' := by
  have hS := St.init0 w
  obtain ⟨b, o, c, hv, hmax, hc, hlt⟩ := hr.open
  simp only [List.length_map] at hv hmax hlt
  refine Ret.enter Try.func18 Try.ntmps18 rfl rfl ?_
  simp only [argEnv, Nat.reduceAdd]
  refine SatC.seq ?_
  refine SatC.region ?_
  refine SatL.pu (RunV.assign rfl) rfl ?_
  refine SatL.nil (SatE.thenC ?_)
  refine SatC.seq ?_
  refine SatC.seq ?_
  refine SatC.region ?_
  refine SatL.pu (RunV.move rfl) rfl ?_
  first | refine SatL.pu (RunV.lenR (by assumption) rfl rfl) rfl ?_ | refine SatL.pu (RunV.lenS rfl rfl) rfl ?_
  refine SatL.pu (RunV.gtr rfl rfl) rfl ?_
  refine SatL.nil (SatE.thenC ?_)
  refine SatC.cond rfl (fun h1 => ?_) (fun h1 => ?_)
  · (try simp only [cx, ne_eq] at h1)
    try (exfalso; first | omega | exact h1 trivial)
    all_goals
    refine SatC.seq ?_
    refine SatC.region ?_
    refine SatL.pu (RunV.move rfl) rfl ?_
    refine SatL.op rfl (OpW.cutH (by assumption) rfl rfl rfl rfl (by omega) (by omega) rfl ?_)
    intro v7 hv7
    refine SatL.pu (RunV.assign rfl) rfl ?_
    refine SatL.nil (SatE.thenC ?_)
    refine SatC.ret (SatE.then_ret ?_)
    refine SatE.ret1 rfl rfl ?_
    refine ⟨RdRow.of hv7 (by simp; omega) (by simp; omega) ?_ (by decide), hS⟩
    rw [List.map_take]
    exact hc.take
  · (try simp only [cx, ne_eq] at h1)
    try (exfalso; first | omega | exact h1 trivial)
    all_goals
    refine SatC.skip (SatE.thenC ?_)
    refine SatC.seq ?_
    refine SatC.region ?_
    refine SatL.pu (RunV.move rfl) rfl ?_
    refine SatL.pu (RunV.assign rfl) rfl ?_
    refine SatL.nil (SatE.thenC ?_)
    refine SatC.ret ?_
    refine SatE.ret1 rfl rfl ?_
    refine ⟨?_, hS⟩
    rw [List.take_of_length_le (by omega)]
    exact hr
def find (ys : List Upd) (n : Int) : Upd × Bool := match ys.find? (fun u => decide (u.n = n)) with
  | some u => (u, true)
  | none => (⟨0, 0, 0⟩, false)
theorem drop_get {α : Type} {ys : List α} {i : Nat} {y : α} (h : ys[i]? = some y) : ys.drop i = y :: ys.drop (i + 1) := by
  obtain ⟨hi, rfl⟩ := List.getElem?_eq_some_iff.1 h
  exact List.drop_eq_getElem_cons hi
theorem find_step {ys : List Upd} {i : Nat} {y : Upd} (h : ys[i]? = some y) (n : Int) : find (ys.drop i) n = if y.n = n then (y, true) else find (ys.drop (i + 1)) n := by
  rw [drop_get h]
  by_cases e : y.n = n <;> simp [find, e]
theorem find_any (v : Value) (ys : List Upd) (n : Int) (w : World) (hr : RdRow w v 3 (ys.map ud)) :
    Ret Try.prog 21 #[v, .int .i64 n] w fun v' w' => v' = .tuple #[.agg (ud (find ys n).1).toArray, .bool (find ys n).2] ∧ St w [] [] w' := by
  have hS := St.init0 w
  obtain ⟨b, o, c, hv, hmax, hc, hlt⟩ := hr.open
  simp only [List.length_map] at hv hmax hlt
  refine Ret.enter Try.func21 Try.ntmps21 rfl rfl ?_
  simp only [argEnv, Nat.reduceAdd]
  refine SatC.seq ?_
  refine SatC.region ?_
  refine SatL.op rfl (OpW.alloc hS rfl rfl (by repeat constructor) ?_)
  clear hS
  intro b4 w1 _ hS
  refine SatL.pu (RunV.assign rfl) rfl ?_
  refine SatL.nil (SatE.thenC ?_)
  refine SatC.seq ?_
  refine SatC.seq ?_
  refine SatC.region ?_
  refine SatL.pu (RunV.move rfl) rfl ?_
  first | refine SatL.pu (RunV.lenR (by assumption) rfl rfl) rfl ?_ | refine SatL.pu (RunV.lenS rfl rfl) rfl ?_
  refine SatL.pu (RunV.move rfl) rfl ?_
  refine SatL.nil (SatE.thenC ?_)
  refine SatC.block ?_
  refine SatC.loopK (G := Nat) (V := fun i => [(10, .int .i64 (i : Int))]) (Cn := [(1, _), (4, _), (8, _), (9, _), (5, _)]) (I := fun i w' => i ≤ ys.length ∧ find (ys.drop i) n = find ys n ∧ St w [] [(b4, C 24 [.int .i64 0, .int .u32 0, .int .i64 0])] w') (μ := fun i => ys.length - i) 0 ?_ (by repeat constructor) ?_
  · exact ⟨Nat.zero_le _, rfl, hS⟩
  clear hS
  rintro i w2 ⟨hi, hf, hS⟩
  refine SatC.weak (e' := [(1, _), (4, _), (5, _), (8, _), (9, _), (10, _)]) (by repeat constructor) ?_
  refine SatC.seq ?_
  refine SatC.region ?_
  refine SatL.pu (RunV.lss rfl rfl) rfl ?_
  refine SatL.nil (SatE.thenC ?_)
  refine SatC.seq ?_
  refine SatC.cond rfl (fun h1 => ?_) (fun h1 => ?_)
  · (try simp only [cx, ne_eq] at h1)
    try (exfalso; first | omega | exact h1 trivial)
    all_goals
    refine SatC.skip (SatE.thenC ?_)
    refine SatC.seq ?_
    refine SatC.block ?_
    refine SatC.seq ?_
    obtain ⟨y, hy⟩ := get_some ys i (by omega)
    have hst := find_step hy n
    refine SatC.region ?_
    first | refine SatL.pu (RunV.indexR (by assumption) rfl rfl rfl (by omega) (by omega) rfl) rfl ?_ | refine SatL.pu (RunV.indexS rfl rfl rfl (by omega) (by omega) rfl) rfl ?_
    first | refine SatL.pu (RunV.loadRNz (RdC.st (by assumption) hS List.not_mem_nil) rfl rfl (by first | assumption | exact map_get (by assumption))) rfl ?_ | refine SatL.pu (RunV.loadRNz (Sl.rd (by assumption) hS (by repeat constructor)) rfl rfl (by first | assumption | exact map_get (by assumption))) rfl ?_
    refine SatL.op rfl (OpW.alloc hS rfl rfl (by repeat constructor) ?_)
    clear hS
    intro b7 w3 _ hS
    refine SatL.op rfl (OpW.store hS rfl rfl (by repeat constructor) (by repeat constructor) (by repeat constructor) rfl rfl ?_)
    clear hS
    intro w4 hS
    refine SatL.nil (SatE.thenC ?_)
    refine SatC.seq ?_
    refine SatC.region ?_
    first | refine SatL.pu (RunV.fieldAddrL rfl rfl rfl) rfl ?_ | refine SatL.pu (RunV.fieldAddr rfl rfl rfl) rfl ?_
    refine SatL.pu (RunV.load1 hS rfl rfl (by repeat constructor) rfl) rfl ?_
    refine SatL.pu (RunV.move rfl) rfl ?_
    refine SatL.pu (RunV.eql rfl rfl) rfl ?_
    refine SatL.nil (SatE.thenC ?_)
    refine SatC.cond rfl (fun h2 => ?_) (fun h2 => ?_)
    · (try simp only [cx, ne_eq] at h2)
      try (exfalso; first | omega | exact h2 trivial)
      all_goals
      refine SatC.seq ?_
      refine SatC.region ?_
      refine SatL.pu (RunV.loadN hS rfl rfl (by repeat constructor) (by repeat constructor)) rfl ?_
      refine SatL.op rfl (OpW.store hS rfl rfl (by repeat constructor) (by repeat constructor) (by repeat constructor) rfl rfl ?_)
      clear hS
      intro w5 hS
      refine SatL.pu (RunV.assign rfl) rfl ?_
      refine SatL.nil (SatE.thenC ?_)
      refine SatC.ret (SatE.blk_ret (SatE.then_ret (SatE.then_ret (SatE.blk_ret (SatE.then_ret ?_)))))
      refine SatE.retG2 hS rfl (.cellN rfl rfl (by repeat constructor) (by repeat constructor)) (.tmp rfl) ?_
      exact ⟨by rw [← hf, hst, if_pos (by assumption)], hS.sb (by repeat constructor)⟩
    · (try simp only [cx, ne_eq] at h2)
      try (exfalso; first | omega | exact h2 trivial)
      all_goals
      refine SatC.skip (SatE.blk_normal (SatE.thenC ?_))
      refine SatC.region ?_
      refine SatL.pu (RunV.add rfl rfl (by first | exact wrapI64 (by omega) | rfl)) rfl ?_
      refine SatL.pu (RunV.move rfl) rfl ?_
      refine SatL.nil ?_
      refine SatE.again (i + 1) ?_ (by first | omega | (dsimp only; omega)) (by repeat constructor)
      exact ⟨by omega, by rw [← hf, hst, if_neg (by assumption)], hS.sb (by repeat constructor)⟩
  · (try simp only [cx, ne_eq] at h1)
    try (exfalso; first | omega | exact h1 trivial)
    all_goals
    refine SatC.exit (SatE.then_exit (SatE.then_exit (SatE.blk_exit (SatE.thenC ?_))))
    refine SatC.seq ?_
    refine SatC.region ?_
    refine SatL.pu (RunV.build rfl (by simp [go_sem]; try rfl)) rfl ?_
    refine SatL.op rfl (OpW.store hS rfl rfl (by repeat constructor) (by repeat constructor) (by repeat constructor) rfl rfl ?_)
    clear hS
    intro w3 hS
    refine SatL.pu (RunV.assign rfl) rfl ?_
    refine SatL.nil (SatE.thenC ?_)
    refine SatC.ret ?_
    refine SatE.retG2 hS rfl (.cellN rfl rfl (by repeat constructor) (by repeat constructor)) (.tmp rfl) ?_
    exact ⟨by rw [← hf, show i = ys.length by omega, List.drop_length]; rfl, hS.sb (by repeat constructor)⟩
theorem find_ref (v : Value) (ys : List Upd) (n : Int) (w : World) (hr : RdRow w v 3 (ys.map ud)) :
    Ret Try.prog 22 #[v, .int .i64 n] w fun v' w' => v' = .tuple #[.agg (ud (find ys n).1).toArray, .bool (find ys n).2] ∧ St w [] [] w' := by
  have hS := St.init0 w
  obtain ⟨b, o, c, hv, hmax, hc, hlt⟩ := hr.open
  simp only [List.length_map] at hv hmax hlt
  refine Ret.enter Try.func22 Try.ntmps22 rfl rfl ?_
  simp only [argEnv, Nat.reduceAdd]
  refine SatC.seq ?_
  refine SatC.region ?_
  refine SatL.op rfl (OpW.alloc hS rfl rfl (by repeat constructor) ?_)
  clear hS
  intro b4 w1 _ hS
  refine SatL.pu (RunV.assign rfl) rfl ?_
  refine SatL.nil (SatE.thenC ?_)
  refine SatC.seq ?_
  refine SatC.seq ?_
  refine SatC.region ?_
  refine SatL.pu (RunV.assign rfl) rfl ?_
  refine SatL.nil (SatE.thenC ?_)
  refine SatC.block ?_
  refine SatC.loopK (G := Nat) (V := fun i => [(6, .int .i64 (i : Int))]) (Cn := [(0, _), (1, _), (4, _), (5, _)]) (I := fun i w' => i ≤ ys.length ∧ find (ys.drop i) n = find ys n ∧ St w [] [(b4, C 24 [.int .i64 0, .int .u32 0, .int .i64 0])] w') (μ := fun i => ys.length - i) 0 ?_ (by repeat constructor) ?_
  · exact ⟨Nat.zero_le _, rfl, hS⟩
  clear hS
  rintro i w2 ⟨hi, hf, hS⟩
  refine SatC.weak (e' := [(0, _), (1, _), (4, _), (5, _), (6, _)]) (by repeat constructor) ?_
  refine SatC.seq ?_
  refine SatC.seq ?_
  refine SatC.region ?_
  refine SatL.pu (RunV.move rfl) rfl ?_
  refine SatL.pu (RunV.move rfl) rfl ?_
  first | refine SatL.pu (RunV.lenR (by assumption) rfl rfl) rfl ?_ | refine SatL.pu (RunV.lenS rfl rfl) rfl ?_
  refine SatL.pu (RunV.lss rfl rfl) rfl ?_
  refine SatL.nil (SatE.thenC ?_)
  refine SatC.cond rfl (fun h1 => ?_) (fun h1 => ?_)
  · (try simp only [cx, ne_eq] at h1)
    try (exfalso; first | omega | exact h1 trivial)
    all_goals
    refine SatC.skip (SatE.thenC ?_)
    refine SatC.seq ?_
    refine SatC.block ?_
    refine SatC.seq ?_
    obtain ⟨y, hy⟩ := get_some ys i (by omega)
    have hst := find_step hy n
    refine SatC.region ?_
    refine SatL.pu (RunV.move rfl) rfl ?_
    refine SatL.pu (RunV.move rfl) rfl ?_
    first | refine SatL.pu (RunV.indexR (by assumption) rfl rfl rfl (by omega) (by omega) rfl) rfl ?_ | refine SatL.pu (RunV.indexS rfl rfl rfl (by omega) (by omega) rfl) rfl ?_
    first | refine SatL.pu (RunV.fieldAddrL rfl rfl rfl) rfl ?_ | refine SatL.pu (RunV.fieldAddr rfl rfl rfl) rfl ?_
    first | refine SatL.pu (RunV.loadR1f (RdC.st (by assumption) hS List.not_mem_nil) rfl rfl (by first | assumption | exact map_get (by assumption)) rfl) rfl ?_ | refine SatL.pu (RunV.loadR1f (Sl.rd (by assumption) hS (by repeat constructor)) rfl rfl (by first | assumption | exact map_get (by assumption)) rfl) rfl ?_
    refine SatL.pu (RunV.move rfl) rfl ?_
    refine SatL.pu (RunV.eql rfl rfl) rfl ?_
    refine SatL.nil (SatE.thenC ?_)
    refine SatC.cond rfl (fun h2 => ?_) (fun h2 => ?_)
    · (try simp only [cx, ne_eq] at h2)
      try (exfalso; first | omega | exact h2 trivial)
      all_goals
      refine SatC.seq ?_
      refine SatC.region ?_
      refine SatL.pu (RunV.move rfl) rfl ?_
      refine SatL.pu (RunV.move rfl) rfl ?_
      first | refine SatL.pu (RunV.indexR (by assumption) rfl rfl rfl (by omega) (by omega) rfl) rfl ?_ | refine SatL.pu (RunV.indexS rfl rfl rfl (by omega) (by omega) rfl) rfl ?_
      first | refine SatL.pu (RunV.loadRNz (RdC.st (by assumption) hS List.not_mem_nil) rfl rfl (by first | assumption | exact map_get (by assumption))) rfl ?_ | refine SatL.pu (RunV.loadRNz (Sl.rd (by assumption) hS (by repeat constructor)) rfl rfl (by first | assumption | exact map_get (by assumption))) rfl ?_
      refine SatL.op rfl (OpW.store hS rfl rfl (by repeat constructor) (by repeat constructor) (by repeat constructor) rfl rfl ?_)
      clear hS
      intro w3 hS
      refine SatL.pu (RunV.assign rfl) rfl ?_
      refine SatL.nil (SatE.thenC ?_)
      refine SatC.ret (SatE.blk_ret (SatE.then_ret (SatE.then_ret (SatE.blk_ret (SatE.then_ret ?_)))))
      refine SatE.retG2 hS rfl (.cellN rfl rfl (by repeat constructor) (by repeat constructor)) (.tmp rfl) ?_
      exact ⟨by rw [← hf, hst, if_pos (by assumption)], hS.sb (by repeat constructor)⟩
    · (try simp only [cx, ne_eq] at h2)
      try (exfalso; first | omega | exact h2 trivial)
      all_goals
      refine SatC.skip (SatE.blk_normal (SatE.thenC ?_))
      refine SatC.region ?_
      refine SatL.pu (RunV.move rfl) rfl ?_
      refine SatL.pu (RunV.add rfl rfl (by first | exact wrapI64 (by omega) | rfl)) rfl ?_
      refine SatL.pu (RunV.assign rfl) rfl ?_
      refine SatL.nil ?_
      refine SatE.again (i + 1) ?_ (by first | omega | (dsimp only; omega)) (by repeat constructor)
      exact ⟨by omega, by rw [← hf, hst, if_neg (by assumption)], hS.sb (by repeat constructor)⟩
  · (try simp only [cx, ne_eq] at h1)
    try (exfalso; first | omega | exact h1 trivial)
    all_goals
    refine SatC.exit (SatE.then_exit (SatE.then_exit (SatE.blk_exit (SatE.thenC ?_))))
    refine SatC.seq ?_
    refine SatC.region ?_
    refine SatL.pu (RunV.build rfl (by simp [go_sem]; try rfl)) rfl ?_
    refine SatL.op rfl (OpW.store hS rfl rfl (by repeat constructor) (by repeat constructor) (by repeat constructor) rfl rfl ?_)
    clear hS
    intro w3 hS
    refine SatL.pu (RunV.assign rfl) rfl ?_
    refine SatL.nil (SatE.thenC ?_)
    refine SatC.ret ?_
    refine SatE.retG2 hS rfl (.cellN rfl rfl (by repeat constructor) (by repeat constructor)) (.tmp rfl) ?_
    exact ⟨by rw [← hf, show i = ys.length by omega, List.drop_length]; rfl, hS.sb (by repeat constructor)⟩
end Go.Proofs.Ytnjegigoifkikaa
