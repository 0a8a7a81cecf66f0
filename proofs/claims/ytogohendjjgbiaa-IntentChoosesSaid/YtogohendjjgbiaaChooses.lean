/- Of any list the one is chosen that the document says, by default yes and no; and each one's rank is what the document says. No condition. -/
import Derived.Test.YtogohendjjgbiaaW
import Derived.Test.YtogohendjjgbiaaK7
import Derived.Test.YtogohendjjgbiaaK16
import Derived.Test.YtogohendjjgbiaaRows
set_option linter.unusedSimpArgs false
set_option linter.unusedVariables false
set_option maxRecDepth 100000
set_option maxHeartbeats 4000000
namespace Go.Proofs.Ytogohendjjgbiaa
open Go.RowKit Go.ChangeShapes Go.WideShapes Go.ChangeAt
theorem chooses_any (v : Value) (l : List Itn) (s d : List UInt8) (w : World) (hr : RdRow w v 5 (l.map ic)) : Ret Try.prog 3 #[v, str s, str d] w fun u w' => u = .bool true ∧ St w [] [] w' := by
  obtain ⟨b, o, c, hv0, hl, hrd, _⟩ := hr.open
  rw [List.length_map] at hv0 hl
  have hS := St.init0 w
  refine Ret.enter Try.func3 Try.ntmps3 rfl rfl ?_
  simp only [argEnv, Nat.reduceAdd]
  refine SatC.seq ?_
  refine SatC.region ?_
  refine SatL.pu (RunV.assign rfl) rfl ?_
  refine SatL.nil (SatE.thenC ?_)
  refine SatC.seq ?_
  refine SatC.region ?_
  refine SatL.pu (RunV.move rfl) rfl ?_
  refine SatL.pu (RunV.move rfl) rfl ?_
  refine SatL.pu (RunV.move rfl) rfl ?_
  refine SatL.op rfl (OpW.enter rfl rfl rfl (rfl) (choose_c false _ (hr.st hS)) ?_)
  rintro r1 w1 ⟨a1, hb1, rfl, h⟩
  replace hS := St.callN hS h
  refine SatL.pu (RunV.move rfl) rfl ?_
  refine SatL.pu (RunV.extract rfl rfl) rfl ?_
  refine SatL.pu (RunV.extract rfl rfl) rfl ?_
  refine SatL.pu (RunV.assign rfl) rfl ?_
  refine SatL.pu (RunV.assign rfl) rfl ?_
  refine SatL.nil (SatE.thenC ?_)
  refine SatC.seq ?_
  refine SatC.region ?_
  refine SatL.pu (RunV.move rfl) rfl ?_
  refine SatL.pu (RunV.move rfl) rfl ?_
  refine SatL.pu (RunV.move rfl) rfl ?_
  refine SatL.op rfl (OpW.enter rfl rfl rfl (rfl) (rchoose_c false _ (hr.st hS)) ?_)
  rintro r2 w2 ⟨a2, hb2, rfl, h⟩
  replace hS := St.callN hS h
  obtain rfl := best_uniq hb1 hb2
  refine SatL.pu (RunV.move rfl) rfl ?_
  refine SatL.pu (RunV.extract rfl rfl) rfl ?_
  refine SatL.pu (RunV.extract rfl rfl) rfl ?_
  refine SatL.pu (RunV.assign rfl) rfl ?_
  refine SatL.pu (RunV.assign rfl) rfl ?_
  refine SatL.nil (SatE.thenC ?_)
  refine SatC.seq ?_
  refine SatC.weak (e' := [(0, _), (1, _), (2, _), (6, _), (7, _), (8, _), (9, _), (10, _)]) (by repeat constructor) ?_
  refine SatC.region ?_
  refine SatL.pu (RunV.move rfl) rfl ?_
  refine SatL.pu (RunV.move rfl) rfl ?_
  refine SatL.pu (RunV.move rfl) rfl ?_
  refine SatL.op rfl (OpW.enter rfl rfl rfl (rfl) (choose_c true _ (hr.st hS)) ?_)
  rintro r3 w3 ⟨a3, hb3, rfl, h⟩
  replace hS := St.callN hS h
  obtain rfl := best_uniq hb1 hb3
  refine SatL.pu (RunV.move rfl) rfl ?_
  refine SatL.pu (RunV.extract rfl rfl) rfl ?_
  refine SatL.pu (RunV.extract rfl rfl) rfl ?_
  refine SatL.pu (RunV.assign rfl) rfl ?_
  refine SatL.pu (RunV.assign rfl) rfl ?_
  refine SatL.nil (SatE.thenC ?_)
  refine SatC.seq ?_
  refine SatC.region ?_
  refine SatL.pu (RunV.move rfl) rfl ?_
  refine SatL.pu (RunV.move rfl) rfl ?_
  refine SatL.pu (RunV.move rfl) rfl ?_
  refine SatL.op rfl (OpW.enter rfl rfl rfl (rfl) (rchoose_c true _ (hr.st hS)) ?_)
  rintro r4 w4 ⟨a4, hb4, rfl, h⟩
  replace hS := St.callN hS h
  obtain rfl := best_uniq hb1 hb4
  refine SatL.pu (RunV.move rfl) rfl ?_
  refine SatL.pu (RunV.extract rfl rfl) rfl ?_
  refine SatL.pu (RunV.extract rfl rfl) rfl ?_
  refine SatL.pu (RunV.assign rfl) rfl ?_
  refine SatL.pu (RunV.assign rfl) rfl ?_
  refine SatL.nil (SatE.thenC ?_)
  refine SatC.seq ?_
  refine SatC.seq ?_
  refine SatC.weak (e' := [(0, _), (6, _), (7, _), (8, _), (9, _), (10, _), (11, _), (12, _), (13, _), (14, _)]) (by repeat constructor) ?_
  refine SatC.region ?_
  refine SatL.pu (RunV.assign rfl) rfl ?_
  refine SatL.nil (SatE.thenC ?_)
  refine SatC.block ?_
  refine SatC.loopK (G := Nat) (V := fun k => [(15, .int .i64 (k : Int))]) (Cn := [(0, _), (7, _), (8, _), (9, _), (10, _), (11, _), (12, _), (13, _), (14, _), (6, _)]) (I := fun k w' => k ≤ l.length ∧ St w [] [] w') (μ := fun k => l.length - k) 0 ?_ (by repeat constructor) ?_
  · exact ⟨by omega, hS⟩
  clear hS
  rintro k w5 ⟨hk, hS⟩
  refine SatC.weak (e' := [(0, _), (6, _), (7, _), (8, _), (9, _), (10, _), (11, _), (12, _), (13, _), (14, _), (15, _)]) (by repeat constructor) ?_
  refine SatC.seq ?_
  refine SatC.seq ?_
  refine SatC.region ?_
  refine SatL.pu (RunV.move rfl) rfl ?_
  refine SatL.pu (RunV.move rfl) rfl ?_
  refine SatL.pu (RunV.lenR hv0 rfl rfl) rfl ?_
  refine SatL.pu (RunV.lss rfl rfl) rfl ?_
  refine SatL.nil (SatE.thenC ?_)
  refine SatC.cond rfl (fun h1 => ?_) (fun h1 => ?_)
  · (try simp only [cx, ne_eq] at h1)
    try (exfalso; (first | omega | exact h1 trivial | contradiction | (first | omega | exact h1 rfl | (simp at h1; done))); done)
    all_goals
    refine SatC.skip (SatE.thenC ?_)
    refine SatC.seq ?_
    refine SatC.block ?_
    refine SatC.seq ?_
    obtain ⟨y, hy⟩ := get_some l k (by omega)
    refine SatC.drawnT 11 hS (hS) (by kernel_rfl) ?_
    clear hS
    intro w6 hh hS hD
    refine SatD.tk 0 rfl hD (fun _ hw => RunV.move rfl) ?_
    refine SatD.tk 1 rfl hD (fun _ hw => RunV.move rfl) ?_
    refine SatD.tk 2 rfl hD (fun _ hw => RunV.indexR hv0 rfl rfl rfl (by omega) (by omega) rfl) ?_
    refine SatD.tk 3 rfl hD (fun _ hw => RunV.loadRNz (hrd.st hw List.not_mem_nil) rfl rfl (map_get hy)) ?_
    refine SatD.tk 5 rfl hD (fun _ hw => RunV.move rfl) ?_
    refine SatD.tk 6 rfl hD (fun _ hw => RunV.move rfl) ?_
    refine SatD.tk 7 rfl hD (fun _ hw => RunV.indexR hv0 rfl rfl rfl (by omega) (by omega) rfl) ?_
    refine SatD.tk 8 rfl hD (fun _ hw => RunV.loadRNz (hrd.st hw List.not_mem_nil) rfl rfl (map_get hy)) ?_
    refine SatD.ef 4 rfl (OpW.enter rfl rfl rfl (rfl) (rank_any _ _) ?_)
    rintro r7 w7 ⟨rfl, h⟩
    replace hS := St.callN hS h
    refine keepS (hS.sel (by repeat constructor)) (fun hD => ?_)
    refine SatD.ef 9 rfl (OpW.enter rfl rfl rfl (rfl) (rrank_any _ _) ?_)
    rintro r8 w8 ⟨rfl, h⟩
    replace hS := St.callN hS h
    refine keepS (hS.sel (by repeat constructor)) (fun hD => ?_)
    refine SatD.tk 10 rfl hD (fun _ hw => RunV.neq rfl rfl) ?_
    refine SatD.done 0 (by kernel_rfl) (SatE.thenC ?_)
    clear hD
    refine SatC.weak (e' := [(0, _), (6, _), (7, _), (8, _), (9, _), (10, _), (11, _), (12, _), (13, _), (14, _), (15, _), (60, _)]) (by repeat constructor) ?_
    refine SatC.cond rfl (fun h2 => ?_) (fun h2 => ?_)
    · (try simp only [cx, ne_eq] at h2)
      try (exfalso; (first | omega | exact h2 trivial | contradiction | (first | omega | exact h2 rfl | (simp at h2; done))); done)
      all_goals
      refine SatC.seq ?_
      refine SatC.region ?_
      refine SatL.pu (RunV.assign rfl) rfl ?_
      refine SatL.nil (SatE.thenC ?_)
      refine SatC.ret (SatE.blk_ret (SatE.then_ret (SatE.then_ret (SatE.blk_ret (SatE.then_ret ?_)))))
      refine SatE.ret1 rfl rfl ?_
      exact ⟨rfl, hS⟩
    · (try simp only [cx, ne_eq] at h2)
      try (exfalso; (first | omega | exact h2 trivial | contradiction | (first | omega | exact h2 rfl | (simp at h2; done))); done)
      all_goals
      refine SatC.skip (SatE.blk_normal (SatE.thenC ?_))
      refine SatC.region ?_
      refine SatL.pu (RunV.move rfl) rfl ?_
      refine SatL.pu (RunV.add rfl rfl (by first | exact wrapI64 (by omega) | rfl)) rfl ?_
      refine SatL.pu (RunV.assign rfl) rfl ?_
      refine SatL.nil ?_
      refine SatE.again (k + 1) ?_ (by first | omega | (dsimp only; omega)) (by repeat constructor)
      exact ⟨by omega, hS⟩
  · (try simp only [cx, ne_eq] at h1)
    try (exfalso; (first | omega | exact h1 trivial | contradiction | (first | omega | exact h1 rfl | (simp at h1; done))); done)
    all_goals
    refine SatC.exit (SatE.then_exit (SatE.then_exit (SatE.blk_exit (SatE.thenC ?_))))
    refine SatC.seq ?_
    refine SatC.region ?_
    refine SatL.pu (RunV.move rfl) rfl ?_
    refine SatL.pu (RunV.move rfl) rfl ?_
    refine SatL.pu (RunV.beql rfl rfl rfl) rfl ?_
    refine SatL.pu (RunV.move rfl) rfl ?_
    refine SatL.guard rfl rfl rfl (fun h2 => ?_) (fun h2 => ?_)
    · (try simp only [cx, ne_eq] at h2)
      try (exfalso; (first | omega | exact h2 trivial | contradiction | (first | omega | exact h2 rfl | (simp at h2; done))); done)
      all_goals
      refine SatL.pu (RunV.move rfl) rfl ?_
      refine SatL.guard_y rfl rfl ?_
      refine SatL.pu (RunV.move rfl) rfl ?_
      refine SatL.guard_y rfl rfl ?_
      refine SatL.pu (RunV.eql rfl rfl) rfl ?_
      refine SatL.pu (RunV.pick_t rfl rfl) rfl ?_
      refine SatL.pu (RunV.move rfl) rfl ?_
      refine SatL.guard rfl rfl rfl (fun h3 => ?_) (fun h3 => ?_)
      · (try simp only [cx, ne_eq] at h3)
        try (exfalso; (first | omega | exact h3 trivial | contradiction | (first | omega | exact h3 rfl | (simp at h3; done))); done)
        all_goals
        refine SatL.pu (RunV.move rfl) rfl ?_
        refine SatL.guard_y rfl rfl ?_
        refine SatL.pu (RunV.move rfl) rfl ?_
        refine SatL.guard_y rfl rfl ?_
        refine SatL.pu (RunV.beql rfl rfl rfl) rfl ?_
        refine SatL.pu (RunV.pick_t rfl rfl) rfl ?_
        refine SatL.pu (RunV.move rfl) rfl ?_
        refine SatL.guard rfl rfl rfl (fun h4 => ?_) (fun h4 => ?_)
        · (try simp only [cx, ne_eq] at h4)
          try (exfalso; (first | omega | exact h4 trivial | contradiction | (first | omega | exact h4 rfl | (simp at h4; done))); done)
          all_goals
          refine SatL.pu (RunV.move rfl) rfl ?_
          refine SatL.guard_y rfl rfl ?_
          refine SatL.pu (RunV.move rfl) rfl ?_
          refine SatL.guard_y rfl rfl ?_
          refine SatL.pu (RunV.eql rfl rfl) rfl ?_
          refine SatL.pu (RunV.pick_t rfl rfl) rfl ?_
          refine SatL.pu (RunV.move rfl) rfl ?_
          refine SatL.guard rfl rfl rfl (fun h5 => ?_) (fun h5 => ?_)
          · (try simp only [cx, ne_eq] at h5)
            try (exfalso; (first | omega | exact h5 trivial | contradiction | (first | omega | exact h5 rfl | (simp at h5; done))); done)
            all_goals
            refine SatL.op rfl (OpW.enter rfl rfl rfl (rfl) (works_any _) ?_)
            rintro r6 w6 ⟨rfl, h⟩
            replace hS := St.callN hS h
            refine SatL.pu (RunV.pick_t rfl rfl) rfl ?_
            refine SatL.pu (RunV.assign rfl) rfl ?_
            refine SatL.nil (SatE.thenC ?_)
            refine SatC.ret ?_
            refine SatE.ret1 rfl rfl ?_
            exact ⟨rfl, hS⟩
          · (try simp only [cx, ne_eq] at h5)
            try (exfalso; (first | omega | exact h5 trivial | contradiction | (first | omega | exact h5 rfl | (simp at h5; done))); done)
            all_goals
            refine SatL.pu (RunV.pick_f rfl rfl) rfl ?_
            refine SatL.pu (RunV.assign rfl) rfl ?_
            refine SatL.nil (SatE.thenC ?_)
            refine SatC.ret ?_
            refine SatE.ret1 rfl rfl ?_
            exact ⟨rfl, hS⟩
        · (try simp only [cx, ne_eq] at h4)
          try (exfalso; (first | omega | exact h4 trivial | contradiction | (first | omega | exact h4 rfl | (simp at h4; done))); done)
          all_goals
          refine SatL.guard_n rfl rfl rfl rfl ?_
          refine SatL.guard_n rfl rfl rfl rfl ?_
          refine SatL.pu (RunV.pick_f rfl rfl) rfl ?_
          refine SatL.pu (RunV.move rfl) rfl ?_
          refine SatL.guard_n rfl rfl rfl rfl ?_
          refine SatL.pu (RunV.pick_f rfl rfl) rfl ?_
          refine SatL.pu (RunV.assign rfl) rfl ?_
          refine SatL.nil (SatE.thenC ?_)
          refine SatC.ret ?_
          refine SatE.ret1 rfl rfl ?_
          exact ⟨rfl, hS⟩
      · (try simp only [cx, ne_eq] at h3)
        try (exfalso; (first | omega | exact h3 trivial | contradiction | (first | omega | exact h3 rfl | (simp at h3; done))); done)
        all_goals
        refine SatL.guard_n rfl rfl rfl rfl ?_
        refine SatL.guard_n rfl rfl rfl rfl ?_
        refine SatL.pu (RunV.pick_f rfl rfl) rfl ?_
        refine SatL.pu (RunV.move rfl) rfl ?_
        refine SatL.guard_n rfl rfl rfl rfl ?_
        refine SatL.guard_n rfl rfl rfl rfl ?_
        refine SatL.guard_n rfl rfl rfl rfl ?_
        refine SatL.pu (RunV.pick_f rfl rfl) rfl ?_
        refine SatL.pu (RunV.move rfl) rfl ?_
        refine SatL.guard_n rfl rfl rfl rfl ?_
        refine SatL.pu (RunV.pick_f rfl rfl) rfl ?_
        refine SatL.pu (RunV.assign rfl) rfl ?_
        refine SatL.nil (SatE.thenC ?_)
        refine SatC.ret ?_
        refine SatE.ret1 rfl rfl ?_
        exact ⟨rfl, hS⟩
    · (try simp only [cx, ne_eq] at h2)
      try (exfalso; (first | omega | exact h2 trivial | contradiction | (first | omega | exact h2 rfl | (simp at h2; done))); done)
      all_goals
      refine SatL.guard_n rfl rfl rfl rfl ?_
      refine SatL.guard_n rfl rfl rfl rfl ?_
      refine SatL.pu (RunV.pick_f rfl rfl) rfl ?_
      refine SatL.pu (RunV.move rfl) rfl ?_
      refine SatL.guard_n rfl rfl rfl rfl ?_
      refine SatL.guard_n rfl rfl rfl rfl ?_
      refine SatL.guard_n rfl rfl rfl rfl ?_
      refine SatL.pu (RunV.pick_f rfl rfl) rfl ?_
      refine SatL.pu (RunV.move rfl) rfl ?_
      refine SatL.guard_n rfl rfl rfl rfl ?_
      refine SatL.guard_n rfl rfl rfl rfl ?_
      refine SatL.guard_n rfl rfl rfl rfl ?_
      refine SatL.pu (RunV.pick_f rfl rfl) rfl ?_
      refine SatL.pu (RunV.move rfl) rfl ?_
      refine SatL.guard_n rfl rfl rfl rfl ?_
      refine SatL.pu (RunV.pick_f rfl rfl) rfl ?_
      refine SatL.pu (RunV.assign rfl) rfl ?_
      refine SatL.nil (SatE.thenC ?_)
      refine SatC.ret ?_
      refine SatE.ret1 rfl rfl ?_
      exact ⟨rfl, hS⟩
theorem intentChooses_lifted (os : Os) (started : os.Started) (H : Type) (enc : TypeId × Value → H) :
    ReturnsInHanded {} Try.checked os 3 .any (Rows.intentChoosesSpec.pre6 enc Try.prog Try.f3 Rows.intentChoosesRow.domain false) (Rows.intentChoosesSpec.post enc Try.prog Try.f3 false true false false) := by
  refine law_returns (C := Try.checked) (b := 4) (by kernel_rfl) started (by kernel_rfl) Try.func3
    (ChangeSpec.witness6 (enc := enc) (C := Try.checked) false ⟨#[], #[.slice none 0 0, .string ⟨#[]⟩, .string ⟨#[]⟩], []⟩ 8 (by kernel_rfl) (by kernel_rfl) (by kernel_rfl) (by kernel_rfl))
    rfl rfl (by kernel_rfl) (by kernel_rfl) (by kernel_rfl) (fun ds h => ?_) ?_
  · rw [Try.params3] at h
    match ds, h with
    | [_, _, _], _ => rfl
  intro W base args ds ps hval hA hsz
  rw [Try.params3] at hA hval
  obtain ⟨v0, v1, v2, d0, d1, d2, q0, q1, q2, hargs, rfl, rfl, h0, h1, h2⟩ := trodAll_three hA
  subst hargs
  obtain ⟨xs0, hr0, hx0⟩ := open_rows (l := [9, 9, 4, 26, 26]) 6 Try.underlying22 (by kernel_rfl) (by kernel_rfl) (by decide) (hval 0 22 v0 rfl rfl) h0
  obtain ⟨ys0, rfl, hy0⟩ := rows_map (enc' := ic) (q := fun _ => True) (fun r hr => by
    obtain ⟨u0, u1, u2, u3, u4, rfl, l0, l1, l2, l3, l4⟩ := allLeaf_list5 hr
    obtain ⟨n0, rfl, e0⟩ := leaf_string Try.underlying9 l0
    obtain ⟨n1, rfl, e1⟩ := leaf_string Try.underlying9 l1
    obtain ⟨n2, rfl⟩ := leaf_bool Try.underlying4 l2
    obtain ⟨n3, rfl, e3⟩ := leaf_int Try.underlying26 l3
    obtain ⟨n4, rfl, e4⟩ := leaf_int Try.underlying26 l4
    exact ⟨⟨n0.data.toList, n1.data.toList, n2, n3, n4⟩, rfl, trivial⟩) xs0 hx0
  obtain ⟨a1, rfl, rfl, rfl, b1⟩ := open_string Try.underlying9 (hval 1 9 v1 rfl rfl) h1
  obtain ⟨a2, rfl, rfl, rfl, b2⟩ := open_string Try.underlying9 (hval 2 9 v2 rfl rfl) h2
  exact law_done (chooses_any _ ys0 a1.data.toList a2.data.toList W hr0)
theorem intentChooses_holds : Rows.IntentChoosesSaid :=
  OpenClaim.holds_of_wide 3 Try.f3 rfl rfl rfl rfl rfl rfl rfl ⟨rfl, rfl, rfl, rfl, rfl⟩ rfl rfl rfl rfl rfl (by kernel_rfl) Try.func3 (by kernel_rfl)
    (of_decide_eq_true (by kernel_rfl)) (by unfold Func.isWrapper; first | (rw [if_pos (by decide +kernel)]; kernel_rfl) | (rw [if_neg (by decide +kernel)]; exact ⟨rfl, rfl⟩))
    (fun os started H enc _ => intentChooses_lifted os started H enc)
end Go.Proofs.Ytogohendjjgbiaa
