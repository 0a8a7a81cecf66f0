/- sort.Search: where a question that was no becomes yes. -/
import Derived.Test.YtdoinfpkfbfjaaaProg
import Derived.Test.YtdoinfpkfbfjaaaK15
import Derived.Test.YtdoinfpkfbfjaaaK17
set_option linter.unusedSimpArgs false
set_option linter.unusedVariables false
set_option maxRecDepth 100000
set_option maxHeartbeats 1000000
namespace Go.Proofs.Ytdoinfpkfbfjaaa
open Go.RowKit
/-- Where a search that asks p ends. -/
def SrAt (p : Nat → Bool) (n k : Nat) : Prop := k ≤ n ∧ (0 < k → p (k - 1) = false) ∧ (k < n → p k = true)
theorem search_any {f : FuncId} {cap : List Value} (A : List (Nat × Obj)) (p : Nat → Bool) (n : Nat) {w : World} (hn : n ≤ 1000000) (hown : Own w A) (hf : enters Try.prog f = true)
    (hy : ∀ k w1, k < n → St w (A.map Prod.fst) A w1 → Ret Try.prog f (([] ++ [.int .i64 (k : Int)] ++ cap : List Value)).toArray w1 fun v w' => v = .bool (p k) ∧ St w1 [] [] w') :
    Ret Try.prog 32 #[.int .i64 n, .func (.func f) #[] cap.toArray] w fun v w' => ∃ k : Nat, SrAt p n k ∧ v = .int .i64 k ∧ St w [] [] w' := by
  have hS := St.init hown
  refine Ret.enter Try.func32 Try.ntmps32 rfl rfl ?_
  simp only [argEnv, Nat.reduceAdd]
  refine SatC.seq ?_
  refine SatC.region ?_
  refine SatL.pu (RunV.assign rfl) rfl ?_
  refine SatL.nil (SatE.thenC ?_)
  refine SatC.seq ?_
  refine SatC.region ?_
  refine SatL.pu (RunV.move rfl) rfl ?_
  refine SatL.pu (RunV.assign rfl) rfl ?_
  refine SatL.pu (RunV.assign rfl) rfl ?_
  refine SatL.nil (SatE.thenC ?_)
  refine SatC.seq ?_
  refine SatC.block ?_
  refine SatC.loopK (G := Nat × Nat) (V := fun ⟨i, j⟩ => [(5, .int .i64 (i : Int)), (6, .int .i64 (j : Int))]) (Cn := [(1, _), (4, _)]) (I := fun ⟨i, j⟩ w' => i ≤ j ∧ j ≤ n ∧ (0 < i → p (i - 1) = false) ∧ (j < n → p j = true) ∧ St w (A.map Prod.fst) A w') (μ := fun ⟨i, j⟩ => j - i) (0, n) ?_ (by repeat constructor) ?_
  · exact ⟨Nat.zero_le _, Nat.le_refl _, fun h => by omega, fun h => by omega, hS⟩
  clear hS
  rintro ⟨i, j⟩ w1 ⟨hij, hjn, hpi, hpj, hS⟩
  refine SatC.weak (e' := [(1, _), (4, _), (5, _), (6, _)]) (by repeat constructor) ?_
  refine SatC.seq ?_
  refine SatC.seq ?_
  refine SatC.region ?_
  refine SatL.pu (RunV.move rfl) rfl ?_
  refine SatL.pu (RunV.move rfl) rfl ?_
  refine SatL.pu (RunV.lss rfl rfl) rfl ?_
  refine SatL.nil (SatE.thenC ?_)
  refine SatC.cond rfl (fun h1 => ?_) (fun h1 => ?_)
  · (try simp only [cx, ne_eq] at h1)
    try (exfalso; (first | omega | exact h1 trivial | contradiction); done)
    all_goals
    refine SatC.skip (SatE.thenC ?_)
    refine SatC.block ?_
    refine SatC.seq ?_
    refine SatC.region ?_
    refine SatL.pu (RunV.move rfl) rfl ?_
    refine SatL.pu (RunV.move rfl) rfl ?_
    refine SatL.pu (RunV.add rfl rfl (by first | exact wrapI64 (by omega) | rfl)) rfl ?_
    refine SatL.pu (RunV.conv rfl rfl rfl (by first | exact wrapU64 (by omega))) rfl ?_
    refine SatL.pu (RunV.half64 rfl rfl (by omega)) rfl ?_
    refine SatL.pu (RunV.conv rfl rfl rfl (by first | exact wrapI64 (by omega) | rfl)) rfl ?_
    refine SatL.pu (RunV.assign rfl) rfl ?_
    refine SatL.nil (SatE.thenC ?_)
    refine SatC.seq ?_
    rw [show ((i : Int) + (j : Int)) / 2 = (((i + j) / 2 : Nat) : Int) by omega]
    have hcall := hy ((i + j) / 2) _ (by omega) hS
    generalize hmid : (i + j) / 2 = mid at *
    refine SatC.region ?_
    refine SatL.pu (RunV.move rfl) rfl ?_
    refine SatL.pu (RunV.move rfl) rfl ?_
    refine SatL.op rfl (OpW.enterF (fs := []) (cap := cap) rfl rfl rfl (hf) (hcall) ?_)
    rintro r2 w2 ⟨rfl, h⟩
    replace hS := St.callN hS h
    refine SatL.pu (RunV.not rfl) rfl ?_
    refine SatL.nil (SatE.thenC ?_)
    refine SatC.weak (e' := [(1, _), (4, _), (5, _), (6, _), (7, _), (21, _)]) (by repeat constructor) ?_
    refine SatC.cond rfl (fun h2 => ?_) (fun h2 => ?_)
    · (try simp only [cx, ne_eq] at h2)
      try (exfalso; (first | omega | exact h2 trivial | contradiction); done)
      all_goals
      refine SatC.region ?_
      refine SatL.pu (RunV.move rfl) rfl ?_
      refine SatL.pu (RunV.add rfl rfl (by first | exact wrapI64 (by omega) | rfl)) rfl ?_
      refine SatL.pu (RunV.assign rfl) rfl ?_
      refine SatL.nil (SatE.blk_normal ?_)
      refine SatE.again ((mid + 1, j)) ?_ (by first | omega | (dsimp only; omega)) (by repeat constructor)
      exact ⟨by omega, by omega, fun _ => by rw [Nat.add_sub_cancel]; exact h2, hpj, hS⟩
    · (try simp only [cx, ne_eq] at h2)
      try (exfalso; (first | omega | exact h2 trivial | contradiction); done)
      all_goals
      refine SatC.region ?_
      refine SatL.pu (RunV.move rfl) rfl ?_
      refine SatL.pu (RunV.assign rfl) rfl ?_
      refine SatL.nil (SatE.blk_normal ?_)
      refine SatE.again ((i, mid)) ?_ (by first | omega | (dsimp only; omega)) (by repeat constructor)
      exact ⟨by omega, by omega, hpi, fun _ => h2, hS⟩
  · (try simp only [cx, ne_eq] at h1)
    try (exfalso; (first | omega | exact h1 trivial | contradiction); done)
    all_goals
    refine SatC.exit (SatE.then_exit (SatE.then_exit (SatE.blk_exit (SatE.thenC ?_))))
    refine SatC.seq ?_
    refine SatC.region ?_
    refine SatL.pu (RunV.move rfl) rfl ?_
    refine SatL.pu (RunV.assign rfl) rfl ?_
    refine SatL.nil (SatE.thenC ?_)
    refine SatC.ret ?_
    refine SatE.ret1 rfl rfl ?_
    exact ⟨i, ⟨by omega, hpi, fun h => by rw [show i = j by omega] at h ⊢; exact hpj h⟩, rfl, St.ro hown hS .all⟩
end Go.Proofs.Ytdoinfpkfbfjaaa
