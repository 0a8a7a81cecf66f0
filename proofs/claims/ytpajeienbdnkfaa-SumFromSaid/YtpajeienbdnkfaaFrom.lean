/- SumFrom: from any sum any bytes go on as the document says: true at every input, with no condition. -/
import Derived.Test.YtpajeienbdnkfaaC
import Derived.Test.YtpajeienbdnkfaaK7
import Derived.Test.YtpajeienbdnkfaaRows
set_option linter.unusedSimpArgs false
set_option linter.unusedVariables false
set_option maxRecDepth 100000
set_option maxHeartbeats 1000000
namespace Go.Proofs.Ytpajeienbdnkfaa
open Go.RowKit Go.ChangeShapes Go.WideShapes Go.ChangeAt
theorem crc_nil (s : BitVec 32) : crc s [] = s := by simp [crc]
theorem toU32 {n : Int} (h : 0 ≤ n ∧ n ≤ 4294967295) : ∃ a : BitVec 32, n = (a.toNat : Int) := ⟨BitVec.ofNat 32 n.toNat, by rw [BitVec.toNat_ofNat]; omega⟩
theorem toU8 {n : Int} (h : 0 ≤ n ∧ n ≤ 255) : ∃ a : BitVec 8, n = (a.toNat : Int) := ⟨BitVec.ofNat 8 n.toNat, by rw [BitVec.toNat_ofNat]; omega⟩
theorem sfrom_any (s : BitVec 32) (v : Value) (bs : List (BitVec 8)) (w : World) (hr : RdRow w v 1 (bs.map by1)) : Ret Try.prog 4 #[u32 s, v] w fun u w' => u = .bool true ∧ St w [] [] w' := by
  have hS := St.init0 w
  refine Ret.enter Try.func4 Try.ntmps4 rfl rfl ?_
  simp only [argEnv, Nat.reduceAdd]
  refine SatC.seq ?_
  refine SatC.region ?_
  refine SatL.pu (RunV.assign rfl) rfl ?_
  refine SatL.nil (SatE.thenC ?_)
  refine SatC.seq ?_
  refine SatC.region ?_
  refine SatL.pu (RunV.move rfl) rfl ?_
  refine SatL.pu (RunV.move rfl) rfl ?_
  refine SatL.op rfl (OpW.enter rfl rfl rfl rfl (from_any _ _ _ _ (by first | assumption | exact RdRow.st (by assumption) hS | exact Sl.row (by assumption) hS (by repeat constructor) (by first | omega | (simp only [List.length_map, List.length_append, List.length_take]; omega)) | exact RdRow.nil)) ?_)
  rintro r1 w1 ⟨rfl, h⟩
  replace hS := St.callN hS h
  refine SatL.pu (RunV.move rfl) rfl ?_
  refine SatL.pu (RunV.move rfl) rfl ?_
  refine SatL.op rfl (OpW.enter rfl rfl rfl rfl (from_ref _ _ _ _ (by first | assumption | exact RdRow.st (by assumption) hS | exact Sl.row (by assumption) hS (by repeat constructor) (by first | omega | (simp only [List.length_map, List.length_append, List.length_take]; omega)) | exact RdRow.nil)) ?_)
  rintro r2 w2 ⟨rfl, h⟩
  replace hS := St.callN hS h
  refine SatL.pu (RunV.eql rfl rfl) rfl ?_
  refine SatL.pu (RunV.move rfl) rfl ?_
  refine SatL.guard rfl rfl rfl (fun h1 => ?_) (fun h1 => ?_)
  · (try simp only [cx, ne_eq] at h1)
    try (exfalso; (first | omega | exact h1 trivial | contradiction | exact h1 rfl | exact h1 (congrArg (fun a : BitVec 32 => (a.toNat : Int)) (crc_nil s))); done)
    all_goals
    refine SatL.pu (RunV.move rfl) rfl ?_
    refine SatL.guard_y rfl rfl ?_
    refine SatL.op rfl (OpW.enter rfl rfl rfl rfl (from_any _ _ _ _ (by first | assumption | exact RdRow.st (by assumption) hS | exact Sl.row (by assumption) hS (by repeat constructor) (by first | omega | (simp only [List.length_map, List.length_append, List.length_take]; omega)) | exact RdRow.nil)) ?_)
    rintro r3 w3 ⟨rfl, h⟩
    replace hS := St.callN hS h
    refine SatL.guard_y rfl rfl ?_
    refine SatL.pu (RunV.move rfl) rfl ?_
    refine SatL.guard_y rfl rfl ?_
    refine SatL.pu (RunV.eql rfl rfl) rfl ?_
    refine SatL.pu (RunV.pick_t rfl rfl) rfl ?_
    refine SatL.pu (RunV.move rfl) rfl ?_
    refine SatL.guard rfl rfl rfl (fun h2 => ?_) (fun h2 => ?_)
    · (try simp only [cx, ne_eq] at h2)
      try (exfalso; (first | omega | exact h2 trivial | contradiction | exact h2 rfl | exact h2 (congrArg (fun a : BitVec 32 => (a.toNat : Int)) (crc_nil s))); done)
      all_goals
      refine SatL.op rfl (OpW.enter rfl rfl rfl rfl (works_any _) ?_)
      rintro r4 w4 ⟨rfl, h⟩
      replace hS := St.callN hS h
      refine SatL.pu (RunV.pick_t rfl rfl) rfl ?_
      refine SatL.pu (RunV.assign rfl) rfl ?_
      refine SatL.nil (SatE.thenC ?_)
      refine SatC.ret ?_
      refine SatE.ret1 rfl rfl ?_
      exact ⟨by first | rfl | simp, hS⟩
    · (try simp only [cx, ne_eq] at h2)
      try (exfalso; (first | omega | exact h2 trivial | contradiction | exact h2 rfl | exact h2 (congrArg (fun a : BitVec 32 => (a.toNat : Int)) (crc_nil s))); done)
      all_goals
      refine SatL.pu (RunV.pick_f rfl rfl) rfl ?_
      refine SatL.pu (RunV.assign rfl) rfl ?_
      refine SatL.nil (SatE.thenC ?_)
      refine SatC.ret ?_
      refine SatE.ret1 rfl rfl ?_
      exact ⟨by first | rfl | simp, hS⟩
  · (try simp only [cx, ne_eq] at h1)
    try (exfalso; (first | omega | exact h1 trivial | contradiction | exact h1 rfl | exact h1 (congrArg (fun a : BitVec 32 => (a.toNat : Int)) (crc_nil s))); done)
    all_goals
    refine SatL.guard_n rfl rfl rfl rfl ?_
    refine SatL.guard_n rfl rfl rfl rfl ?_
    refine SatL.guard_n rfl rfl rfl rfl ?_
    refine SatL.pu (RunV.pick_f rfl rfl) rfl ?_
    refine SatL.pu (RunV.move rfl) rfl ?_
    refine SatL.guard_n rfl rfl rfl rfl ?_
    refine SatL.pu (RunV.pick_f rfl rfl) rfl ?_
    refine SatL.pu (RunV.assign rfl) rfl ?_
    refine SatL.nil (SatE.thenC ?_)
    refine SatC.ret ?_
    refine SatE.ret1 rfl rfl ?_
    exact ⟨by first | rfl | simp, hS⟩
theorem sumFrom_lifted (os : Os) (started : os.Started) (H : Type) (enc : TypeId × Value → H) :
    ReturnsInHanded {} Try.checked os 4 .any (Rows.sumFromSpec.pre6 enc Try.prog Try.f4 Rows.sumFromRow.domain false) (Rows.sumFromSpec.post enc Try.prog Try.f4 false true false false) := by
  refine law_returns (C := Try.checked) (b := 4) (by kernel_rfl) started (by kernel_rfl) Try.func4
    (ChangeSpec.witness6 (enc := enc) (C := Try.checked) false ⟨#[], #[.int .u32 0, .slice none 0 0], []⟩ 8 (by kernel_rfl) (by kernel_rfl) (by kernel_rfl) (by kernel_rfl))
    rfl rfl (by kernel_rfl) (by kernel_rfl) (by kernel_rfl) (fun ds h => ?_) ?_
  · rw [Try.params4] at h
    match ds, h with
    | [_, _], _ => rfl
  intro W base args ds ps hval hA hsz
  rw [Try.params4] at hA hval
  obtain ⟨v0, v1, d0, d1, q0, q1, hargs, rfl, rfl, h0, h1⟩ := trodAll_two hA
  subst hargs
  obtain ⟨a0, rfl, rfl, rfl, b0⟩ := open_int Try.underlying23 (hval 0 23 v0 rfl rfl) h0
  replace b0 := bnd_u32 b0
  obtain ⟨xs1, hr1, hx1⟩ := open_rows (l := [5]) 6 Try.underlying22 (by kernel_rfl) (by kernel_rfl) (by decide) (hval 1 22 v1 rfl rfl) h1
  obtain ⟨ys1, rfl, hy1⟩ := rows_map (enc' := by1) (q := fun _ => True) (fun r hr => by
    obtain ⟨u0, rfl, l0⟩ := allLeaf_list1 hr
    obtain ⟨n0, rfl, e0⟩ := leaf_int Try.underlying5 l0
    obtain ⟨a, rfl⟩ := toU8 (bnd_u8 e0); exact ⟨a, rfl, trivial⟩) xs1 hx1
  obtain ⟨s, rfl⟩ := toU32 b0
  exact law_done (sfrom_any s _ ys1 W hr1)
theorem sumFrom_holds : Rows.SumFromSaid :=
  OpenClaim.holds_of_wide 4 Try.f4 rfl rfl rfl rfl rfl rfl rfl ⟨rfl, rfl, rfl, rfl, rfl⟩ rfl rfl rfl rfl rfl (by kernel_rfl) Try.func4 (by kernel_rfl)
    (of_decide_eq_true (by kernel_rfl)) (by unfold Func.isWrapper; first | (rw [if_pos (by decide +kernel)]; kernel_rfl) | (rw [if_neg (by decide +kernel)]; exact ⟨rfl, rfl⟩))
    (fun os started H enc _ => sumFrom_lifted os started H enc)
end Go.Proofs.Ytpajeienbdnkfaa
