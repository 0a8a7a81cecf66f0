/- The works of chapter 10's laws. -/
import Derived.Test.YtfkalbbdmlinlaaQd
set_option linter.unusedSimpArgs false
set_option linter.unusedVariables false
set_option maxRecDepth 100000
set_option maxHeartbeats 4000000
namespace Go.Proofs.Ytfkalbbdmlinlaa
open Go.RowKit
def nT : Tab := fun _ => none
def tW : Tab := setT nT 1 (some ⟨1, 3, 0, 0, 1⟩)
theorem wk1 : pushQ nT 0 ⟨1, 3, 0⟩ = (true, tW, 1) := rfl
theorem wk2 : hasQ tW ⟨1, 3, 0⟩ = true := by decide
theorem wk3 : coll tW 8 = [⟨1, 3, 0, 0, 1⟩] := by decide
theorem wk4 : coll (takeF (1 * dg (max 1 1)) tW ⟨1, 3, 0, 0, 1⟩) 8 = [] := by decide
theorem tW_b : TabB tW := by
  intro k x h
  unfold tW setT at h
  split at h
  · cases h; decide
  · cases h
theorem works_any (w : World) : Ret Try.prog 11 #[] w fun v w' => v = .bool true ∧ St w [] [] w' := by
  have hS := St.init0 w
  refine Ret.enter Try.func11 Try.ntmps11 rfl rfl ?_
  simp only [argEnv, Nat.reduceAdd]
  refine SatC.seq ?_
  refine SatC.region ?_
  refine SatL.pu (RunV.assign rfl) rfl ?_
  refine SatL.nil (SatE.thenC ?_)
  refine SatC.seq ?_
  refine SatC.region ?_
  refine SatL.op rfl (OpW.enter rfl rfl rfl (rfl) (qnew_any 1 _) ?_)
  rintro r1 w1 ⟨b, mb, o, rfl, ho, h⟩
  replace hS := hS.call0 h
  change St w [] (QO b mb 1 0 o ++ _) _ at hS
  refine SatL.pu (RunV.assign rfl) rfl ?_
  refine SatL.nil (SatE.thenC ?_)
  refine SatC.seq ?_
  refine SatC.region ?_
  refine SatL.pu (RunV.build rfl (by simp [go_sem]; try rfl)) rfl ?_
  refine SatL.op rfl (OpW.alloc hS rfl rfl (by repeat constructor) ?_)
  clear hS
  intro b2 w2 _ hS
  refine SatL.op rfl (OpW.store hS rfl rfl (by repeat constructor) (by repeat constructor) (by repeat constructor) rfl rfl ?_)
  clear hS
  intro w3 hS
  refine SatL.nil (SatE.thenC ?_)
  refine SatC.seq ?_
  refine SatC.region ?_
  refine SatL.pu (RunV.move rfl) rfl ?_
  refine SatL.pu (RunV.loadN hS rfl rfl (by repeat constructor) (by repeat constructor)) rfl ?_
  refine SatL.op rfl (OpW.enter rfl rfl rfl (rfl) (push_any ⟨1, 3, 0⟩ (t := nT) ho (by decide) (hS.ownT (A := QO b mb 1 0 o) (by repeat constructor))) ?_)
  rintro r4 w4 ⟨rfl, o1, ho1, h⟩
  replace hS := hS.callT (A := QO b mb 1 0 o) (by repeat constructor) h
  change QM o1 tW at ho1
  change St w [] (QO b mb 1 1 o1 ++ _) _ at hS
  refine SatL.pu (RunV.assign rfl) rfl ?_
  refine SatL.nil (SatE.thenC ?_)
  refine SatC.seq ?_
  refine SatC.region ?_
  refine SatL.pu (RunV.move rfl) rfl ?_
  refine SatL.pu (RunV.loadN hS rfl rfl (by repeat constructor) (by repeat constructor)) rfl ?_
  refine SatL.op rfl (OpW.enter rfl rfl rfl (rfl) (has_any ⟨1, 3, 0⟩ ho1 (hS.ownT (A := QO b mb 1 1 o1) (by repeat constructor))) ?_)
  rintro r5 w5 ⟨rfl, h⟩
  replace hS := St.callN hS h
  rw [wk2]
  refine SatL.pu (RunV.assign rfl) rfl ?_
  refine SatL.nil (SatE.thenC ?_)
  refine SatC.seq ?_
  refine SatC.region ?_
  refine SatL.pu (RunV.move rfl) rfl ?_
  refine SatL.op rfl (OpW.enter rfl rfl rfl (rfl) (take_any 9 1 (by decide) (by decide) tW_b ho1 (hS.ownT (A := QO b mb 1 1 o1) (by repeat constructor))) ?_)
  rintro r6 w6 ⟨ds, B, o2, hper, _, hsl, ho2, h⟩
  replace hS := hS.callT (A := QO b mb 1 1 o1) (by repeat constructor) h
  rw [wk3] at hper
  obtain rfl := List.perm_singleton.1 hper
  change Sl 29 3 _ [ud ⟨1, 3, 0⟩] B at hsl
  change QM o2 (takeF (1 * dg (max 1 1)) tW ⟨1, 3, 0, 0, 1⟩) at ho2
  obtain ⟨cV, hvV⟩ := hsl.slv
  simp only [List.append_assoc, List.cons_append, List.nil_append] at hS
  refine SatL.pu (RunV.assign rfl) rfl ?_
  refine SatL.nil (SatE.thenC ?_)
  refine SatC.seq ?_
  refine SatC.drawnT 23 hS (hS) (by kernel_rfl) ?_
  clear hS
  intro w7 hh hS hD
  refine SatD.tk 0 rfl hD (fun _ hw => RunV.move rfl) ?_
  refine SatD.tk 1 rfl hD (fun _ hw => RunV.move rfl) ?_
  refine SatD.ways 17 rfl (fun h1 => ?_) (fun h1 => ?_)
  · (try simp only [cx, ne_eq] at h1)
    try (exfalso; (first | omega | exact h1 trivial | contradiction | (simp at h1; done)); done)
    all_goals
    refine SatD.tk 2 rfl hD (fun _ hw => RunV.move rfl) ?_
    refine SatD.tk 3 rfl hD (fun _ hw => RunV.pick_t rfl rfl) ?_
    refine SatD.tk 4 rfl hD (fun _ hw => RunV.move rfl) ?_
    refine SatD.ways 20 rfl (fun h2 => ?_) (fun h2 => ?_)
    · (try simp only [cx, ne_eq] at h2)
      try (exfalso; (first | omega | exact h2 trivial | contradiction | (simp at h2; done)); done)
      all_goals
      refine SatD.tk 5 rfl hD (fun _ hw => RunV.move rfl) ?_
      first | refine SatD.tk 6 rfl hD (fun _ hw => RunV.lenR (by assumption) rfl rfl) ?_ | refine SatD.tk 6 rfl hD (fun _ hw => RunV.lenS rfl rfl) ?_
      refine SatD.tk 7 rfl hD (fun _ hw => RunV.eql rfl rfl) ?_
      refine SatD.tk 8 rfl hD (fun _ hw => RunV.pick_t rfl rfl) ?_
      refine SatD.tk 9 rfl hD (fun _ hw => RunV.move rfl) ?_
      refine SatD.ways 25 rfl (fun h3 => ?_) (fun h3 => ?_)
      · (try simp only [cx, ne_eq] at h3)
        try (exfalso; (first | omega | exact h3 trivial | contradiction | (simp at h3; done)); done)
        all_goals
        refine SatD.tk 10 rfl hD (fun _ hw => RunV.move rfl) ?_
        first | refine SatD.tk 11 rfl hD (fun _ hw => RunV.indexR (by assumption) rfl rfl rfl (by omega) (by omega) rfl) ?_ | refine SatD.tk 11 rfl hD (fun _ hw => RunV.indexS rfl rfl rfl (by omega) (by omega) rfl) ?_
        refine SatD.tk 12 rfl hD (fun _ hw => RunV.loadRNz (i := 0) (r := ud ⟨1, 3, 0⟩) (hsl.rd hw (by repeat constructor)) rfl rfl rfl) ?_
        refine SatD.tk 13 rfl hD (fun _ hw => RunV.loadN hw rfl rfl (by repeat constructor) (by repeat constructor)) ?_
        refine SatD.tk 14 rfl hD (fun _ hw => RunV.bin rfl rfl (guard29 _ _ _ _ _ _ _ _ _ _) (run_eql29 _ _ _ _ _ _ _)) ?_
        refine SatD.tk 15 rfl hD (fun _ hw => RunV.pick_t rfl rfl) ?_
        refine SatD.tk 16 rfl hD (fun _ hw => RunV.move rfl) ?_
        refine SatD.ways 32 rfl (fun h4 => ?_) (fun h4 => ?_)
        · (try simp only [cx, ne_eq] at h4)
          try (exfalso; (first | omega | exact h4 trivial | contradiction | (simp at h4; done)); done)
          all_goals
          refine SatD.tk 17 rfl hD (fun _ hw => RunV.move rfl) ?_
          refine SatD.ef 18 rfl (OpW.enter rfl rfl rfl (rfl) (list_any ho2 (hS.ownT (A := QO b mb 1 1 o2) (by repeat constructor))) ?_)
          rintro r8 w8 ⟨ds2, B2, hper2, _, hsl2, h⟩
          replace hS := hS.call0 h
          rw [wk4] at hper2
          obtain rfl := List.perm_nil.1 hper2
          obtain ⟨cV2, hvV2⟩ := hsl2.slv
          refine keepS (hS.sel (by repeat constructor)) (fun hD => ?_)
          first | refine SatD.tk 19 rfl hD (fun _ hw => RunV.lenR (by assumption) rfl rfl) ?_ | refine SatD.tk 19 rfl hD (fun _ hw => RunV.lenS rfl rfl) ?_
          refine SatD.tk 20 rfl hD (fun _ hw => RunV.eql rfl rfl) ?_
          refine SatD.tk 21 rfl hD (fun _ hw => RunV.pick_t rfl rfl) ?_
          refine SatD.tk 22 rfl hD (fun _ hw => RunV.assign rfl) ?_
          refine SatD.done 0 (by kernel_rfl) (SatE.thenC ?_)
          clear hD
          refine SatC.ret ?_
          refine SatE.ret1 rfl rfl ?_
          first | exact ⟨rfl, hS.sel (by repeat constructor)⟩ | exact ⟨congrArg Value.bool (by decide), hS.sel (by repeat constructor)⟩
        · (try simp only [cx, ne_eq] at h4)
          try (exfalso; (first | omega | exact h4 trivial | contradiction | (simp at h4; done)); done)
          all_goals
          refine SatD.sk 17 rfl [] hD ?_
          refine SatD.sk 18 rfl [] hD ?_
          refine SatD.sk 19 rfl [] hD ?_
          refine SatD.sk 20 rfl [] hD ?_
          refine SatD.tk 21 rfl hD (fun _ hw => RunV.pick_f rfl rfl) ?_
          refine SatD.tk 22 rfl hD (fun _ hw => RunV.assign rfl) ?_
          refine SatD.done 0 (by kernel_rfl) (SatE.thenC ?_)
          clear hD
          refine SatC.ret ?_
          refine SatE.ret1 rfl rfl ?_
          first | exact ⟨rfl, hS.sel (by repeat constructor)⟩ | exact ⟨congrArg Value.bool (by decide), hS.sel (by repeat constructor)⟩
      · (try simp only [cx, ne_eq] at h3)
        try (exfalso; (first | omega | exact h3 trivial | contradiction | (simp at h3; done)); done)
        all_goals
        refine SatD.sk 10 rfl [] hD ?_
        refine SatD.sk 11 rfl [] hD ?_
        refine SatD.sk 12 rfl [] hD ?_
        refine SatD.sk 13 rfl [] hD ?_
        refine SatD.sk 14 rfl [] hD ?_
        refine SatD.tk 15 rfl hD (fun _ hw => RunV.pick_f rfl rfl) ?_
        refine SatD.tk 16 rfl hD (fun _ hw => RunV.move rfl) ?_
        refine SatD.sk 17 rfl [] hD ?_
        refine SatD.sk 18 rfl [] hD ?_
        refine SatD.sk 19 rfl [] hD ?_
        refine SatD.sk 20 rfl [] hD ?_
        refine SatD.tk 21 rfl hD (fun _ hw => RunV.pick_f rfl rfl) ?_
        refine SatD.tk 22 rfl hD (fun _ hw => RunV.assign rfl) ?_
        refine SatD.done 0 (by kernel_rfl) (SatE.thenC ?_)
        clear hD
        refine SatC.ret ?_
        refine SatE.ret1 rfl rfl ?_
        first | exact ⟨rfl, hS.sel (by repeat constructor)⟩ | exact ⟨congrArg Value.bool (by decide), hS.sel (by repeat constructor)⟩
    · (try simp only [cx, ne_eq] at h2)
      try (exfalso; (first | omega | exact h2 trivial | contradiction | (simp at h2; done)); done)
      all_goals
      refine SatD.sk 5 rfl [] hD ?_
      refine SatD.sk 6 rfl [] hD ?_
      refine SatD.sk 7 rfl [] hD ?_
      refine SatD.tk 8 rfl hD (fun _ hw => RunV.pick_f rfl rfl) ?_
      refine SatD.tk 9 rfl hD (fun _ hw => RunV.move rfl) ?_
      refine SatD.sk 10 rfl [] hD ?_
      refine SatD.sk 11 rfl [] hD ?_
      refine SatD.sk 12 rfl [] hD ?_
      refine SatD.sk 13 rfl [] hD ?_
      refine SatD.sk 14 rfl [] hD ?_
      refine SatD.tk 15 rfl hD (fun _ hw => RunV.pick_f rfl rfl) ?_
      refine SatD.tk 16 rfl hD (fun _ hw => RunV.move rfl) ?_
      refine SatD.sk 17 rfl [] hD ?_
      refine SatD.sk 18 rfl [] hD ?_
      refine SatD.sk 19 rfl [] hD ?_
      refine SatD.sk 20 rfl [] hD ?_
      refine SatD.tk 21 rfl hD (fun _ hw => RunV.pick_f rfl rfl) ?_
      refine SatD.tk 22 rfl hD (fun _ hw => RunV.assign rfl) ?_
      refine SatD.done 0 (by kernel_rfl) (SatE.thenC ?_)
      clear hD
      refine SatC.ret ?_
      refine SatE.ret1 rfl rfl ?_
      first | exact ⟨rfl, hS.sel (by repeat constructor)⟩ | exact ⟨congrArg Value.bool (by decide), hS.sel (by repeat constructor)⟩
  · (try simp only [cx, ne_eq] at h1)
    try (exfalso; (first | omega | exact h1 trivial | contradiction | (simp at h1; done)); done)
    all_goals
    refine SatD.sk 2 rfl [] hD ?_
    refine SatD.tk 3 rfl hD (fun _ hw => RunV.pick_f rfl rfl) ?_
    refine SatD.tk 4 rfl hD (fun _ hw => RunV.move rfl) ?_
    refine SatD.sk 5 rfl [] hD ?_
    refine SatD.sk 6 rfl [] hD ?_
    refine SatD.sk 7 rfl [] hD ?_
    refine SatD.tk 8 rfl hD (fun _ hw => RunV.pick_f rfl rfl) ?_
    refine SatD.tk 9 rfl hD (fun _ hw => RunV.move rfl) ?_
    refine SatD.sk 10 rfl [] hD ?_
    refine SatD.sk 11 rfl [] hD ?_
    refine SatD.sk 12 rfl [] hD ?_
    refine SatD.sk 13 rfl [] hD ?_
    refine SatD.sk 14 rfl [] hD ?_
    refine SatD.tk 15 rfl hD (fun _ hw => RunV.pick_f rfl rfl) ?_
    refine SatD.tk 16 rfl hD (fun _ hw => RunV.move rfl) ?_
    refine SatD.sk 17 rfl [] hD ?_
    refine SatD.sk 18 rfl [] hD ?_
    refine SatD.sk 19 rfl [] hD ?_
    refine SatD.sk 20 rfl [] hD ?_
    refine SatD.tk 21 rfl hD (fun _ hw => RunV.pick_f rfl rfl) ?_
    refine SatD.tk 22 rfl hD (fun _ hw => RunV.assign rfl) ?_
    refine SatD.done 0 (by kernel_rfl) (SatE.thenC ?_)
    clear hD
    refine SatC.ret ?_
    refine SatE.ret1 rfl rfl ?_
    first | exact ⟨rfl, hS.sel (by repeat constructor)⟩ | exact ⟨congrArg Value.bool (by decide), hS.sel (by repeat constructor)⟩
end Go.Proofs.Ytfkalbbdmlinlaa
