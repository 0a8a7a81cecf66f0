/- DoubtWaits: with any numbers a doubt lasts as long as the document says: true at every input, with no condition. -/
import Derived.Test.YthkgcdkkdmogpaaA
import Derived.Test.YthkgcdkkdmogpaaK7
import Derived.Test.YthkgcdkkdmogpaaRows
set_option linter.unusedSimpArgs false
set_option linter.unusedVariables false
set_option maxRecDepth 100000
set_option maxHeartbeats 1000000
namespace Go.Proofs.Ythkgcdkkdmogpaa
open Go.RowKit Go.ChangeShapes Go.WideShapes Go.ChangeAt
theorem waits_any (l m k f q : Int) (w : World) : Ret Try.prog 3 #[.agg #[.int .i64 l, .int .i64 m, .int .i64 k, .int .i64 f], .int .i64 q] w fun v w' => v = .bool true ∧ St w [] [] w' := by
  have hS := St.init0 w
  refine Ret.enter Try.func3 Try.ntmps3 rfl rfl ?_
  simp only [argEnv, Nat.reduceAdd]
  refine SatC.seq ?_
  refine SatC.region ?_
  refine SatL.op rfl (OpW.box hS rfl rfl (by repeat constructor) ?_)
  clear hS
  intro b2 w1 _ hS
  refine SatL.pu (RunV.assign rfl) rfl ?_
  refine SatL.nil (SatE.thenC ?_)
  refine SatC.seq ?_
  refine SatC.drawnS 21 (hS) (by kernel_rfl) ?_
  clear hS
  intro w2 _ hS hD
  first | refine SatD.take 0 rfl [] (by kernel_rfl) (fun _ _ _ h => h) rfl rfl hD (fun _ hw => RunV.fieldAddrL rfl rfl rfl) ?_ | refine SatD.take 0 rfl [] (by kernel_rfl) (fun _ _ _ h => h) rfl rfl hD (fun _ hw => RunV.fieldAddr rfl rfl rfl) ?_
  refine SatD.take 1 rfl [] (by kernel_rfl) (fun _ _ _ h => h) rfl rfl hD (fun _ hw => RunV.load1 hw rfl rfl (by repeat constructor) rfl) ?_
  first | refine SatD.take 2 rfl [] (by kernel_rfl) (fun _ _ _ h => h) rfl rfl hD (fun _ hw => RunV.fieldAddrL rfl rfl rfl) ?_ | refine SatD.take 2 rfl [] (by kernel_rfl) (fun _ _ _ h => h) rfl rfl hD (fun _ hw => RunV.fieldAddr rfl rfl rfl) ?_
  refine SatD.take 3 rfl [] (by kernel_rfl) (fun _ _ _ h => h) rfl rfl hD (fun _ hw => RunV.load1 hw rfl rfl (by repeat constructor) rfl) ?_
  first | refine SatD.take 4 rfl [] (by kernel_rfl) (fun _ _ _ h => h) rfl rfl hD (fun _ hw => RunV.fieldAddrL rfl rfl rfl) ?_ | refine SatD.take 4 rfl [] (by kernel_rfl) (fun _ _ _ h => h) rfl rfl hD (fun _ hw => RunV.fieldAddr rfl rfl rfl) ?_
  refine SatD.take 5 rfl [] (by kernel_rfl) (fun _ _ _ h => h) rfl rfl hD (fun _ hw => RunV.load1 hw rfl rfl (by repeat constructor) rfl) ?_
  refine SatD.take 6 rfl [] (by kernel_rfl) (fun _ _ _ h => h) rfl rfl hD (fun _ hw => RunV.move rfl) ?_
  first | refine SatD.take 8 rfl [] (by kernel_rfl) (fun _ _ _ h => h) rfl rfl hD (fun _ hw => RunV.fieldAddrL rfl rfl rfl) ?_ | refine SatD.take 8 rfl [] (by kernel_rfl) (fun _ _ _ h => h) rfl rfl hD (fun _ hw => RunV.fieldAddr rfl rfl rfl) ?_
  refine SatD.take 9 rfl [] (by kernel_rfl) (fun _ _ _ h => h) rfl rfl hD (fun _ hw => RunV.load1 hw rfl rfl (by repeat constructor) rfl) ?_
  first | refine SatD.take 10 rfl [] (by kernel_rfl) (fun _ _ _ h => h) rfl rfl hD (fun _ hw => RunV.fieldAddrL rfl rfl rfl) ?_ | refine SatD.take 10 rfl [] (by kernel_rfl) (fun _ _ _ h => h) rfl rfl hD (fun _ hw => RunV.fieldAddr rfl rfl rfl) ?_
  refine SatD.take 11 rfl [] (by kernel_rfl) (fun _ _ _ h => h) rfl rfl hD (fun _ hw => RunV.load1 hw rfl rfl (by repeat constructor) rfl) ?_
  first | refine SatD.take 12 rfl [] (by kernel_rfl) (fun _ _ _ h => h) rfl rfl hD (fun _ hw => RunV.fieldAddrL rfl rfl rfl) ?_ | refine SatD.take 12 rfl [] (by kernel_rfl) (fun _ _ _ h => h) rfl rfl hD (fun _ hw => RunV.fieldAddr rfl rfl rfl) ?_
  refine SatD.take 13 rfl [] (by kernel_rfl) (fun _ _ _ h => h) rfl rfl hD (fun _ hw => RunV.load1 hw rfl rfl (by repeat constructor) rfl) ?_
  refine SatD.take 14 rfl [] (by kernel_rfl) (fun _ _ _ h => h) rfl rfl hD (fun _ hw => RunV.move rfl) ?_
  refine SatD.eff 7 (by kernel_rfl) rfl rfl (OpW.enter rfl rfl rfl rfl (wait_any _ _ _ _ _) ?_)
  rintro r3 w3 ⟨rfl, h⟩
  replace hS := St.callN hS h
  refine keepS (hS.sb (by repeat constructor)) (fun hD => ?_)
  refine SatD.eff 15 (by kernel_rfl) rfl rfl (OpW.enter rfl rfl rfl rfl (wait_ref _ _ _ _ _) ?_)
  rintro r4 w4 ⟨rfl, h⟩
  replace hS := St.callN hS h
  refine keepS (hS.sb (by repeat constructor)) (fun hD => ?_)
  refine SatD.take 16 rfl [] (by kernel_rfl) (fun _ _ _ h => h) rfl rfl hD (fun _ hw => RunV.eql rfl rfl) ?_
  refine SatD.take 17 rfl [] (by kernel_rfl) (fun _ _ _ h => h) rfl rfl hD (fun _ hw => RunV.move rfl) ?_
  refine SatD.ways 22 rfl (fun h1 => ?_) (fun h1 => ?_)
  · (try simp only [cx, ne_eq] at h1)
    try (exfalso; (first | omega | exact h1 trivial | exact h1 rfl); done)
    all_goals
    refine SatD.eff 18 (by kernel_rfl) rfl rfl (OpW.enter rfl rfl rfl rfl (works_any _) ?_)
    rintro r5 w5 ⟨rfl, h⟩
    replace hS := St.callN hS h
    refine keepS (hS.sb (by repeat constructor)) (fun hD => ?_)
    refine SatD.take 19 rfl [] (by kernel_rfl) (fun _ _ _ h => h) rfl rfl hD (fun _ hw => RunV.pick_t rfl rfl) ?_
    refine SatD.take 20 rfl [] (by kernel_rfl) (fun _ _ _ h => h) rfl rfl hD (fun _ hw => RunV.assign rfl) ?_
    refine SatD.done 0 (by kernel_rfl) (SatE.thenC ?_)
    clear hD
    refine SatC.ret ?_
    refine SatE.ret1 rfl rfl ?_
    exact ⟨by first | rfl | simp, hS.sub (List.nil_sublist _)⟩
  · (try simp only [cx, ne_eq] at h1)
    try (exfalso; (first | omega | exact h1 trivial | exact h1 rfl); done)
    all_goals
    refine SatD.skip 18 rfl [] (by kernel_rfl) (fun _ _ _ h => h) rfl rfl hD ?_
    refine SatD.take 19 rfl [] (by kernel_rfl) (fun _ _ _ h => h) rfl rfl hD (fun _ hw => RunV.pick_f rfl rfl) ?_
    refine SatD.take 20 rfl [] (by kernel_rfl) (fun _ _ _ h => h) rfl rfl hD (fun _ hw => RunV.assign rfl) ?_
    refine SatD.done 0 (by kernel_rfl) (SatE.thenC ?_)
    clear hD
    refine SatC.ret ?_
    refine SatE.ret1 rfl rfl ?_
    exact ⟨by first | rfl | simp, hS.sub (List.nil_sublist _)⟩
theorem doubtWaits_lifted (os : Os) (started : os.Started) (H : Type) (enc : TypeId × Value → H) :
    ReturnsInHanded {} Try.checked os 3 .any (Rows.doubtWaitsSpec.pre6 enc Try.prog Try.f3 Rows.doubtWaitsRow.domain false) (Rows.doubtWaitsSpec.post enc Try.prog Try.f3 false true false false) := by
  refine law_returns (C := Try.checked) (b := 4) (by kernel_rfl) started (by kernel_rfl) Try.func3
    (ChangeSpec.witness6 (enc := enc) (C := Try.checked) false ⟨#[], #[.agg #[.int .i64 0, .int .i64 0, .int .i64 0, .int .i64 0], .int .i64 0], []⟩ 8 (by kernel_rfl) (by kernel_rfl) (by kernel_rfl) (by kernel_rfl))
    rfl rfl (by kernel_rfl) (by kernel_rfl) (by kernel_rfl) (fun ds h => ?_) ?_
  · rw [Try.params3] at h
    match ds, h with
    | [_, _], _ => rfl
  intro W base args ds ps hval hA hsz
  rw [Try.params3] at hA hval
  obtain ⟨v0, v1, d0, d1, q0, q1, hargs, rfl, rfl, h0, h1⟩ := trodAll_two hA
  subst hargs
  obtain ⟨c0, rfl, l0⟩ := open_struct (l := [3, 3, 3, 3]) 6 Try.underlying23 (by kernel_rfl) (hval 0 23 v0 rfl rfl) h0
  obtain ⟨a0_0, a0_1, a0_2, a0_3, rfl, l0_0, l0_1, l0_2, l0_3⟩ := allLeaf_list4 l0
  obtain ⟨a0_0, rfl, ba0_0⟩ := leaf_int Try.underlying3 l0_0
  replace ba0_0 := bnd_i64 ba0_0
  obtain ⟨a0_1, rfl, ba0_1⟩ := leaf_int Try.underlying3 l0_1
  replace ba0_1 := bnd_i64 ba0_1
  obtain ⟨a0_2, rfl, ba0_2⟩ := leaf_int Try.underlying3 l0_2
  replace ba0_2 := bnd_i64 ba0_2
  obtain ⟨a0_3, rfl, ba0_3⟩ := leaf_int Try.underlying3 l0_3
  replace ba0_3 := bnd_i64 ba0_3
  obtain ⟨a1, rfl, rfl, rfl, b1⟩ := open_int Try.underlying3 (hval 1 3 v1 rfl rfl) h1
  replace b1 := bnd_i64 b1
  exact law_done (waits_any _ _ _ _ _ W)
theorem doubtWaits_holds : Rows.DoubtWaitsSaid :=
  OpenClaim.holds_of_wide 3 Try.f3 rfl rfl rfl rfl rfl rfl rfl ⟨rfl, rfl, rfl, rfl, rfl⟩ rfl rfl rfl rfl rfl (by kernel_rfl) Try.func3 (by kernel_rfl)
    (of_decide_eq_true (by kernel_rfl)) (by unfold Func.isWrapper; first | (rw [if_pos (by decide +kernel)]; kernel_rfl) | (rw [if_neg (by decide +kernel)]; exact ⟨rfl, rfl⟩))
    (fun os started H enc _ => doubtWaits_lifted os started H enc)
end Go.Proofs.Ythkgcdkkdmogpaa
