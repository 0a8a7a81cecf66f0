/- What one intention says turns nothing for sources and destinations of which it does not speak. No condition. -/
import Derived.Test.YtogohendjjgbiaaW
import Derived.Test.YtogohendjjgbiaaK7
import Derived.Test.YtogohendjjgbiaaK16
import Derived.Test.YtogohendjjgbiaaK34
import Derived.Test.YtogohendjjgbiaaRows
set_option linter.unusedSimpArgs false
set_option linter.unusedVariables false
set_option maxRecDepth 100000
set_option maxHeartbeats 4000000
namespace Go.Proofs.Ytogohendjjgbiaa
open Go.RowKit Go.ChangeShapes Go.WideShapes Go.ChangeAt
theorem ic_one (l : List Itn) : ∀ r ∈ l.map ic, ∀ u ∈ r, u.oneCell' = true := by
  intro r hr u hu
  obtain ⟨x, _, rfl⟩ := List.mem_map.1 hr
  simp only [ic, List.mem_cons, List.not_mem_nil, or_false] at hu
  rcases hu with rfl | rfl | rfl | rfl | rfl <;> rfl
theorem best_cons {l : List Itn} {x : Itn} {s d : List UInt8} {a : Int} (hx : mI x s d = false) (h : Best l s d a) : Best (x :: l) s d (if a < 0 then -1 else a + 1) := by
  rcases h with ⟨rfl, h⟩ | ⟨k, y, rfl, hk, hy, hb⟩
  · rw [if_pos (by decide)]
    exact .inl ⟨rfl, fun z hz => by rcases List.mem_cons.1 hz with rfl | hz; exact hx; exact h z hz⟩
  · rw [if_neg (by omega)]
    refine .inr ⟨k + 1, y, by omega, by simpa using hk, hy, fun j z hj hz => ?_⟩
    cases j with
    | zero =>
      simp only [List.getElem?_cons_zero, Option.some.injEq] at hj
      subst hj
      rw [hx] at hz; cases hz
    | succ j => exact ⟨(hb j z (by simpa using hj) hz).1, fun h => (hb j z (by simpa using hj) hz).2 (by omega)⟩
theorem best_snoc {l : List Itn} {x : Itn} {s d : List UInt8} {a : Int} (hx : mI x s d = false) (h : Best l s d a) : Best (l ++ [x]) s d a := by
  rcases h with ⟨rfl, h⟩ | ⟨k, y, rfl, hk, hy, hb⟩
  · exact .inl ⟨rfl, fun z hz => by rcases List.mem_append.1 hz with hz | hz; exact h z hz; rw [List.mem_singleton] at hz; subst hz; exact hx⟩
  · have hkl := (List.getElem?_eq_some_iff.1 hk).1
    refine .inr ⟨k, y, rfl, by rw [List.getElem?_append_left hkl]; exact hk, hy, fun j z hj hz => ?_⟩
    by_cases hjl : j < l.length
    · rw [List.getElem?_append_left hjl] at hj
      exact hb j z hj hz
    · have : z = x := by
        rw [List.getElem?_append_right (by omega)] at hj
        have := List.mem_of_getElem? hj
        rwa [List.mem_singleton] at this
      subst this
      rw [hx] at hz; cases hz
theorem alw_best {l : List Itn} {s d : List UInt8} {df : Bool} {a : Int} (h : Best l s d a) : (a = -1 ∧ alwI l df a = df) ∨ ∃ (k : Nat) (y : Itn), a = k ∧ l[k]? = some y ∧ alwI l df a = y.a := by
  rcases h with ⟨rfl, h⟩ | ⟨k, y, rfl, hk, hy, hb⟩
  · exact .inl ⟨rfl, rfl⟩
  · exact .inr ⟨k, y, rfl, hk, alw_get hk⟩
theorem alw_cons {l : List Itn} {x : Itn} {s d : List UInt8} {df : Bool} {a c : Int} (hx : mI x s d = false) (h : Best l s d a) (hc : Best (x :: l) s d c) : alwI (x :: l) df c = alwI l df a := by
  obtain rfl := best_uniq hc (best_cons hx h)
  rcases alw_best (df := df) h with ⟨rfl, e⟩ | ⟨k, y, rfl, hk, e⟩
  · rfl
  · rw [e, if_neg (by omega)]
    exact alw_get (k := k + 1) (by simpa using hk)
theorem alw_snoc {l : List Itn} {x : Itn} {s d : List UInt8} {df : Bool} {a c : Int} (hx : mI x s d = false) (h : Best l s d a) (hc : Best (l ++ [x]) s d c) : alwI (l ++ [x]) df c = alwI l df a := by
  obtain rfl := best_uniq hc (best_snoc hx h)
  rcases alw_best (df := df) h with ⟨rfl, e⟩ | ⟨k, y, rfl, hk, e⟩
  · rfl
  · rw [e]
    have hkl := (List.getElem?_eq_some_iff.1 hk).1
    exact alw_get (by rw [List.getElem?_append_left hkl]; exact hk)
theorem apart_any (v : Value) (l : List Itn) (x : Itn) (s d : List UInt8) (w : World) (hr : RdRow w v 5 (l.map ic)) : Ret Try.prog 5 #[v, .agg (ic x).toArray, .agg #[str s, str d]] w fun u w' => u = .bool true ∧ St w [] [] w' := by
  obtain ⟨b, o, c, hv0, hl, hrd, _⟩ := hr.open
  rw [List.length_map] at hv0 hl
  have hS := St.init0 w
  refine Ret.enter Try.func5 Try.ntmps5 rfl rfl ?_
  simp only [argEnv, Nat.reduceAdd]
  refine SatC.seq ?_
  refine SatC.region ?_
  refine SatL.op rfl (OpW.box hS rfl rfl (by repeat constructor) ?_)
  clear hS
  intro b4 w1 _ hS
  refine SatL.op rfl (OpW.box hS rfl rfl (by repeat constructor) ?_)
  clear hS
  intro b5 w2 _ hS
  refine SatL.pu (RunV.assign rfl) rfl ?_
  refine SatL.nil (SatE.thenC ?_)
  refine SatC.seq ?_
  refine SatC.drawnT 6 hS (hS) (by kernel_rfl) ?_
  clear hS
  intro w3 hh hS hD
  refine SatD.tk 0 rfl hD (fun _ hw => RunV.indexA rfl rfl rfl (by omega) (by omega) rfl) ?_
  refine SatD.tk 1 rfl hD (fun _ hw => RunV.load1 hw rfl rfl (by repeat constructor) rfl) ?_
  refine SatD.tk 2 rfl hD (fun _ hw => RunV.indexA rfl rfl rfl (by omega) (by omega) rfl) ?_
  refine SatD.tk 3 rfl hD (fun _ hw => RunV.load1 hw rfl rfl (by repeat constructor) rfl) ?_
  refine SatD.tk 4 rfl hD (fun _ hw => RunV.assign rfl) ?_
  refine SatD.tk 5 rfl hD (fun _ hw => RunV.assign rfl) ?_
  refine SatD.done 0 (by kernel_rfl) (SatE.thenC ?_)
  clear hD
  -- MERGE 4: turned [6]
  refine SatC.merge (G := Nat) (V := fun z => []) (Cn := [(0, _), (4, _), (7, _), (8, _)]) (I := fun z w' => mI x s d = false ∧ l.length ≤ 60 ∧ St w [] [(b5, C 31 [str s, str d]), (b4, C 28 (ic x))] w') (by repeat constructor) ?_ ?_
  · skip
    refine SatC.seq ?_
    refine SatC.region ?_
    refine SatL.pu (RunV.move rfl) rfl ?_
    refine SatL.pu (RunV.lenR hv0 rfl rfl) rfl ?_
    refine SatL.pu (RunV.gtr rfl rfl) rfl ?_
    refine SatL.pu (RunV.move rfl) rfl ?_
    refine SatL.guard rfl rfl rfl (fun h1 => ?_) (fun h1 => ?_)
    · (try simp only [cx, ne_eq] at h1)
      try (exfalso; (first | omega | exact h1 trivial | contradiction | (first | omega | exact h1 rfl | (simp at h1; done))); done)
      all_goals
      first | refine SatL.pu (RunV.fieldAddrL rfl rfl rfl) rfl ?_ | refine SatL.pu (RunV.fieldAddr rfl rfl rfl) rfl ?_
      refine SatL.guard_y rfl rfl ?_
      refine SatL.pu (RunV.load1 hS rfl rfl (by repeat constructor) rfl) rfl ?_
      refine SatL.guard_y rfl rfl ?_
      refine SatL.pu (RunV.move rfl) rfl ?_
      refine SatL.guard_y rfl rfl ?_
      refine SatL.op rfl (OpW.enter rfl rfl rfl (rfl) (rmatch_any _ _ _) ?_)
      rintro r4 w4 ⟨rfl, h⟩
      replace hS := St.callN hS h
      refine SatL.guard_y rfl rfl ?_
      refine SatL.pu (RunV.move rfl) rfl ?_
      refine SatL.guard rfl rfl rfl (fun h2 => ?_) (fun h2 => ?_)
      · (try simp only [cx, ne_eq] at h2)
        try (exfalso; (first | omega | exact h2 trivial | contradiction | (first | omega | exact h2 rfl | (simp at h2; done))); done)
        all_goals
        first | refine SatL.pu (RunV.fieldAddrL rfl rfl rfl) rfl ?_ | refine SatL.pu (RunV.fieldAddr rfl rfl rfl) rfl ?_
        refine SatL.guard_y rfl rfl ?_
        refine SatL.pu (RunV.load1 hS rfl rfl (by repeat constructor) rfl) rfl ?_
        refine SatL.guard_y rfl rfl ?_
        refine SatL.pu (RunV.move rfl) rfl ?_
        refine SatL.guard_y rfl rfl ?_
        refine SatL.op rfl (OpW.enter rfl rfl rfl (rfl) (rmatch_any _ _ _) ?_)
        rintro r5 w5 ⟨rfl, h⟩
        replace hS := St.callN hS h
        refine SatL.guard_y rfl rfl ?_
        refine SatL.pu (RunV.pick_t rfl rfl) rfl ?_
        refine SatL.pu (RunV.pick_f rfl rfl) rfl ?_
        refine SatL.nil (SatE.thenC ?_)
        refine SatC.weak (e' := [(0, _), (4, _), (6, _), (7, _), (8, _), (33, _)]) (by repeat constructor) ?_
        refine SatC.cond rfl (fun h3 => ?_) (fun h3 => ?_)
        · (try simp only [cx, ne_eq] at h3)
          try (exfalso; (first | omega | exact h3 trivial | contradiction | (first | omega | exact h3 rfl | (simp at h3; done))); done)
          all_goals
          refine SatC.seq ?_
          refine SatC.region ?_
          refine SatL.op rfl (OpW.enter rfl rfl rfl (rfl) (works_any _) ?_)
          rintro r6 w6 ⟨rfl, h⟩
          replace hS := St.callN hS h
          refine SatL.pu (RunV.assign rfl) rfl ?_
          refine SatL.nil (SatE.thenC ?_)
          refine SatC.ret (SatE.then_ret ?_)
          refine SatE.ret1 rfl rfl ?_
          exact ⟨rfl, hS.sel (R := []) (by repeat constructor)⟩
        · (try simp only [cx, ne_eq] at h3)
          try (exfalso; (first | omega | exact h3 trivial | contradiction | (first | omega | exact h3 rfl | (simp at h3; done))); done)
          all_goals
          refine SatC.skip ?_
          refine SatE.met (0) ?_ (by repeat constructor)
          exact ⟨by unfold mI; simp [*], by omega, hS⟩
      · (try simp only [cx, ne_eq] at h2)
        try (exfalso; (first | omega | exact h2 trivial | contradiction | (first | omega | exact h2 rfl | (simp at h2; done))); done)
        all_goals
        refine SatL.guard_n rfl rfl rfl rfl ?_
        refine SatL.guard_n rfl rfl rfl rfl ?_
        refine SatL.guard_n rfl rfl rfl rfl ?_
        refine SatL.guard_y rfl rfl ?_
        refine SatL.pu (RunV.pick_f rfl rfl) rfl ?_
        refine SatL.pu (RunV.pick_f rfl rfl) rfl ?_
        refine SatL.nil (SatE.thenC ?_)
        refine SatC.weak (e' := [(0, _), (4, _), (6, _), (7, _), (8, _), (33, _)]) (by repeat constructor) ?_
        refine SatC.cond_f rfl ?_
        refine SatC.skip ?_
        refine SatE.met (0) ?_ (by repeat constructor)
        exact ⟨by unfold mI; simp [*], by omega, hS⟩
    · (try simp only [cx, ne_eq] at h1)
      try (exfalso; (first | omega | exact h1 trivial | contradiction | (first | omega | exact h1 rfl | (simp at h1; done))); done)
      all_goals
      refine SatL.guard_n rfl rfl rfl rfl ?_
      refine SatL.guard_n rfl rfl rfl rfl ?_
      refine SatL.guard_n rfl rfl rfl rfl ?_
      refine SatL.guard_n rfl rfl rfl rfl ?_
      refine SatL.guard_u rfl rfl rfl ?_
      refine SatL.guard_u rfl rfl rfl ?_
      refine SatL.guard_u rfl rfl rfl ?_
      refine SatL.guard_u rfl rfl rfl ?_
      refine SatL.guard_n rfl rfl rfl rfl ?_
      refine SatL.pu (RunV.pick_t rfl rfl) rfl ?_
      refine SatL.nil (SatE.thenC ?_)
      refine SatC.weak (e' := [(0, _), (4, _), (6, _), (7, _), (8, _), (33, _)]) (by repeat constructor) ?_
      refine SatC.cond_t rfl ?_
      refine SatC.seq ?_
      refine SatC.region ?_
      refine SatL.op rfl (OpW.enter rfl rfl rfl (rfl) (works_any _) ?_)
      rintro r4 w4 ⟨rfl, h⟩
      replace hS := St.callN hS h
      refine SatL.pu (RunV.assign rfl) rfl ?_
      refine SatL.nil (SatE.thenC ?_)
      refine SatC.ret (SatE.then_ret ?_)
      refine SatE.ret1 rfl rfl ?_
      exact ⟨rfl, hS.sel (R := []) (by repeat constructor)⟩
  · clear hS
    rintro z w64 ⟨hx, hl60, hS⟩
    refine SatC.weak (e' := [(0, _), (4, _), (7, _), (8, _)]) (by repeat constructor) ?_
    refine SatC.seq ?_
    refine SatC.region ?_
    refine SatL.pu (RunV.move rfl) rfl ?_
    refine SatL.pu (RunV.move rfl) rfl ?_
    refine SatL.pu (RunV.move rfl) rfl ?_
    refine SatL.op rfl (OpW.enter rfl rfl rfl (rfl) (choose_c true _ (hr.st (hS.sel (by repeat constructor)))) ?_)
    rintro r65 w65 ⟨a1, hb1, rfl, h⟩
    replace hS := St.callN hS h
    refine SatL.pu (RunV.move rfl) rfl ?_
    refine SatL.pu (RunV.extract rfl rfl) rfl ?_
    refine SatL.pu (RunV.extract rfl rfl) rfl ?_
    refine SatL.pu (RunV.assign rfl) rfl ?_
    refine SatL.pu (RunV.assign rfl) rfl ?_
    refine SatL.nil (SatE.thenC ?_)
    refine SatC.seq ?_
    refine SatC.region ?_
    refine SatL.op rfl (OpW.buildSlice0 hS rfl rfl rfl ?_)
    clear hS
    intro v43 b43 w66 _ hsl43 hv43 hS
    refine SatL.pu (RunV.loadN hS rfl rfl (by repeat constructor) (by repeat constructor)) rfl ?_
    refine SatL.op rfl (OpW.buildSlice1 hS rfl rfl rfl rfl rfl (by repeat constructor) rfl rfl rfl ?_)
    clear hS
    intro b45 w67 _ hS
    refine SatL.op rfl (OpW.append1 hsl43 hS (by repeat constructor) rfl rfl (by repeat constructor) rfl rfl rfl rfl rfl rfl rfl rfl (by simp) rfl ?_)
    clear hS
    intro v46 B46 w46 hsl46 hS
    refine SatL.pu (RunV.move rfl) rfl ?_
    refine SatL.op rfl (OpW.appendN (rows := [ic x]) hsl46 hS (by repeat constructor) hv0 (hrd.st (hS.sel (by repeat constructor)) List.not_mem_nil) (by rw [List.length_map]) rfl rfl rfl rfl rfl rfl rfl (ic_one l) (by simp; omega) rfl ?_)
    clear hS
    intro v48 B48 w48 hsl48 hS
    have hz : Sl 28 5 v48 ((x :: l).map ic) B48 := hsl48
    refine SatL.pu (RunV.move rfl) rfl ?_
    refine SatL.pu (RunV.move rfl) rfl ?_
    refine SatL.op rfl (OpW.enter rfl rfl rfl (rfl) (choose_c true _ (hz.row hS (by repeat constructor) (by rw [List.length_map, List.length_cons]; omega))) ?_)
    rintro r70 w70 ⟨a2, hb2, rfl, h⟩
    replace hS := St.callN hS h
    rw [alw_cons hx hb1 hb2]
    refine SatL.pu (RunV.move rfl) rfl ?_
    refine SatL.pu (RunV.extract rfl rfl) rfl ?_
    refine SatL.pu (RunV.extract rfl rfl) rfl ?_
    refine SatL.pu (RunV.assign rfl) rfl ?_
    refine SatL.pu (RunV.assign rfl) rfl ?_
    refine SatL.nil (SatE.thenC ?_)
    refine SatC.seq ?_
    refine SatC.weak (e' := [(0, _), (4, _), (7, _), (8, _), (9, _), (11, _)]) (by repeat constructor) ?_
    refine SatC.drawnT 14 hS (hS.sel (R := [(b4, C 28 (ic x))]) (by repeat constructor)) (by kernel_rfl) ?_
    clear hS
    intro w71 hh hS hD
    refine SatD.tk 1 rfl hD (fun _ hw => RunV.move rfl) ?_
    refine SatD.tk 3 rfl hD (fun _ hw => RunV.loadN hw rfl rfl (by repeat constructor) (by repeat constructor)) ?_
    refine SatD.tk 6 rfl hD (fun _ hw => RunV.move rfl) ?_
    refine SatD.tk 7 rfl hD (fun _ hw => RunV.move rfl) ?_
    refine SatD.effs [0, 4] (by kernel_rfl) ⟨⟨_, rfl, rfl, OpW.buildSlice0 hS rfl rfl rfl ?_⟩, ⟨_, rfl, rfl, OpW.buildSlice1 hS rfl rfl rfl rfl rfl (by repeat constructor) rfl rfl rfl ?_⟩, trivial⟩
    · skip
      clear hS
      intro v55 b55 w72 _ hsl55 hv55 hS
      refine keepS (hS.sel (by repeat constructor)) (fun hD => ?_)
      refine SatD.effs [2, 4] (by kernel_rfl) ⟨⟨_, rfl, rfl, OpW.appendN (rows := []) hsl55 hS (by repeat constructor) hv0 (hrd.st (hS.sel (by repeat constructor)) List.not_mem_nil) (by rw [List.length_map]) rfl rfl rfl rfl rfl rfl rfl (ic_one l) (by simp; omega) rfl ?_⟩, ⟨_, rfl, rfl, OpW.buildSlice1 hS rfl rfl rfl rfl rfl (by repeat constructor) rfl rfl rfl ?_⟩, trivial⟩
      · skip
        clear hS
        intro v57 B57 w57 hsl57 hS
        refine keepS (hS.sel (by repeat constructor)) (fun hD => ?_)
        refine SatD.ef 4 rfl (OpW.buildSlice1 hS rfl rfl rfl rfl rfl (by repeat constructor) rfl rfl rfl ?_)
        clear hS
        intro b59 w74 _ hS
        refine keepS (hS.sel (by repeat constructor)) (fun hD => ?_)
        refine SatD.ef 5 rfl (OpW.append1 hsl57 hS (by repeat constructor) rfl rfl (by repeat constructor) rfl rfl rfl rfl rfl rfl rfl rfl (by simp; omega) rfl ?_)
        clear hS
        intro v60 B60 w60 hsl60 hS
        have hz2 : Sl 28 5 v60 ((l ++ [x]).map ic) B60 := (by rw [List.map_append]; exact hsl60)
        refine keepS (hS.sel (by repeat constructor)) (fun hD => ?_)
        refine SatD.ef 8 rfl (OpW.enter rfl rfl rfl (rfl) (choose_c true _ (hz2.row hS (by repeat constructor) (by rw [List.length_map, List.length_append, List.length_singleton]; omega))) ?_)
        rintro r76 w76 ⟨a3, hb3, rfl, h⟩
        replace hS := St.callN hS h
        rw [alw_snoc hx hb1 hb3]
        refine keepS (hS.sel (by repeat constructor)) (fun hD => ?_)
        refine SatD.tk 9 rfl hD (fun _ hw => RunV.move rfl) ?_
        refine SatD.tk 10 rfl hD (fun _ hw => RunV.extract rfl rfl) ?_
        refine SatD.tk 11 rfl hD (fun _ hw => RunV.extract rfl rfl) ?_
        refine SatD.tk 12 rfl hD (fun _ hw => RunV.assign rfl) ?_
        refine SatD.tk 13 rfl hD (fun _ hw => RunV.assign rfl) ?_
        refine SatD.done 0 (by kernel_rfl) (SatE.thenC ?_)
        clear hD
        refine SatC.seq ?_
        refine SatC.weak (e' := [(9, _), (11, _), (13, _)]) (by repeat constructor) ?_
        refine SatC.region ?_
        refine SatL.pu (RunV.move rfl) rfl ?_
        refine SatL.pu (RunV.move rfl) rfl ?_
        refine SatL.pu (RunV.beql rfl rfl rfl) rfl ?_
        refine SatL.pu (RunV.move rfl) rfl ?_
        refine SatL.guard rfl rfl rfl (fun h1 => ?_) (fun h1 => ?_)
        · (try simp only [cx, ne_eq] at h1)
          try (exfalso; (first | omega | exact h1 trivial | contradiction | (first | omega | exact h1 rfl | (simp at h1; done))); done)
          all_goals
          refine SatL.pu (RunV.move rfl) rfl ?_
          refine SatL.guard_y rfl rfl ?_
          refine SatL.pu (RunV.move rfl) rfl ?_
          refine SatL.guard_y rfl rfl ?_
          refine SatL.pu (RunV.beql rfl rfl rfl) rfl ?_
          refine SatL.pu (RunV.pick_t rfl rfl) rfl ?_
          refine SatL.pu (RunV.move rfl) rfl ?_
          refine SatL.guard rfl rfl rfl (fun h2 => ?_) (fun h2 => ?_)
          · (try simp only [cx, ne_eq] at h2)
            try (exfalso; (first | omega | exact h2 trivial | contradiction | (first | omega | exact h2 rfl | (simp at h2; done))); done)
            all_goals
            refine SatL.op rfl (OpW.enter rfl rfl rfl (rfl) (works_any _) ?_)
            rintro r77 w77 ⟨rfl, h⟩
            replace hS := St.callN hS h
            refine SatL.pu (RunV.pick_t rfl rfl) rfl ?_
            refine SatL.pu (RunV.assign rfl) rfl ?_
            refine SatL.nil (SatE.thenC ?_)
            refine SatC.ret ?_
            refine SatE.ret1 rfl rfl ?_
            exact ⟨rfl, hS.sel (R := []) (by repeat constructor)⟩
          · (try simp only [cx, ne_eq] at h2)
            try (exfalso; (first | omega | exact h2 trivial | contradiction | (first | omega | exact h2 rfl | (simp at h2; done))); done)
            all_goals
            refine SatL.pu (RunV.pick_f rfl rfl) rfl ?_
            refine SatL.pu (RunV.assign rfl) rfl ?_
            refine SatL.nil (SatE.thenC ?_)
            refine SatC.ret ?_
            refine SatE.ret1 rfl rfl ?_
            exact ⟨rfl, hS.sel (R := []) (by repeat constructor)⟩
        · (try simp only [cx, ne_eq] at h1)
          try (exfalso; (first | omega | exact h1 trivial | contradiction | (first | omega | exact h1 rfl | (simp at h1; done))); done)
          all_goals
          refine SatL.guard_n rfl rfl rfl rfl ?_
          refine SatL.guard_n rfl rfl rfl rfl ?_
          refine SatL.pu (RunV.pick_f rfl rfl) rfl ?_
          refine SatL.pu (RunV.move rfl) rfl ?_
          refine SatL.guard_n rfl rfl rfl rfl ?_
          refine SatL.pu (RunV.pick_f rfl rfl) rfl ?_
          refine SatL.pu (RunV.assign rfl) rfl ?_
          refine SatL.nil (SatE.thenC ?_)
          refine SatC.ret ?_
          refine SatE.ret1 rfl rfl ?_
          exact ⟨rfl, hS.sel (R := []) (by repeat constructor)⟩
      · skip
        clear hS
        intro b59 w73 _ hS
        refine keepS (hS.sel (by repeat constructor)) (fun hD => ?_)
        refine SatD.ef 2 rfl (OpW.appendN (rows := []) hsl55 hS (by repeat constructor) hv0 (hrd.st (hS.sel (by repeat constructor)) List.not_mem_nil) (by rw [List.length_map]) rfl rfl rfl rfl rfl rfl rfl (ic_one l) (by simp; omega) rfl ?_)
        clear hS
        intro v57 B57 w57 hsl57 hS
        refine keepS (hS.sel (by repeat constructor)) (fun hD => ?_)
        refine SatD.ef 5 rfl (OpW.append1 hsl57 hS (by repeat constructor) rfl rfl (by repeat constructor) rfl rfl rfl rfl rfl rfl rfl rfl (by simp; omega) rfl ?_)
        clear hS
        intro v60 B60 w60 hsl60 hS
        have hz2 : Sl 28 5 v60 ((l ++ [x]).map ic) B60 := (by rw [List.map_append]; exact hsl60)
        refine keepS (hS.sel (by repeat constructor)) (fun hD => ?_)
        refine SatD.ef 8 rfl (OpW.enter rfl rfl rfl (rfl) (choose_c true _ (hz2.row hS (by repeat constructor) (by rw [List.length_map, List.length_append, List.length_singleton]; omega))) ?_)
        rintro r76 w76 ⟨a3, hb3, rfl, h⟩
        replace hS := St.callN hS h
        rw [alw_snoc hx hb1 hb3]
        refine keepS (hS.sel (by repeat constructor)) (fun hD => ?_)
        refine SatD.tk 9 rfl hD (fun _ hw => RunV.move rfl) ?_
        refine SatD.tk 10 rfl hD (fun _ hw => RunV.extract rfl rfl) ?_
        refine SatD.tk 11 rfl hD (fun _ hw => RunV.extract rfl rfl) ?_
        refine SatD.tk 12 rfl hD (fun _ hw => RunV.assign rfl) ?_
        refine SatD.tk 13 rfl hD (fun _ hw => RunV.assign rfl) ?_
        refine SatD.done 0 (by kernel_rfl) (SatE.thenC ?_)
        clear hD
        refine SatC.seq ?_
        refine SatC.weak (e' := [(9, _), (11, _), (13, _)]) (by repeat constructor) ?_
        refine SatC.region ?_
        refine SatL.pu (RunV.move rfl) rfl ?_
        refine SatL.pu (RunV.move rfl) rfl ?_
        refine SatL.pu (RunV.beql rfl rfl rfl) rfl ?_
        refine SatL.pu (RunV.move rfl) rfl ?_
        refine SatL.guard rfl rfl rfl (fun h1 => ?_) (fun h1 => ?_)
        · (try simp only [cx, ne_eq] at h1)
          try (exfalso; (first | omega | exact h1 trivial | contradiction | (first | omega | exact h1 rfl | (simp at h1; done))); done)
          all_goals
          refine SatL.pu (RunV.move rfl) rfl ?_
          refine SatL.guard_y rfl rfl ?_
          refine SatL.pu (RunV.move rfl) rfl ?_
          refine SatL.guard_y rfl rfl ?_
          refine SatL.pu (RunV.beql rfl rfl rfl) rfl ?_
          refine SatL.pu (RunV.pick_t rfl rfl) rfl ?_
          refine SatL.pu (RunV.move rfl) rfl ?_
          refine SatL.guard rfl rfl rfl (fun h2 => ?_) (fun h2 => ?_)
          · (try simp only [cx, ne_eq] at h2)
            try (exfalso; (first | omega | exact h2 trivial | contradiction | (first | omega | exact h2 rfl | (simp at h2; done))); done)
            all_goals
            refine SatL.op rfl (OpW.enter rfl rfl rfl (rfl) (works_any _) ?_)
            rintro r77 w77 ⟨rfl, h⟩
            replace hS := St.callN hS h
            refine SatL.pu (RunV.pick_t rfl rfl) rfl ?_
            refine SatL.pu (RunV.assign rfl) rfl ?_
            refine SatL.nil (SatE.thenC ?_)
            refine SatC.ret ?_
            refine SatE.ret1 rfl rfl ?_
            exact ⟨rfl, hS.sel (R := []) (by repeat constructor)⟩
          · (try simp only [cx, ne_eq] at h2)
            try (exfalso; (first | omega | exact h2 trivial | contradiction | (first | omega | exact h2 rfl | (simp at h2; done))); done)
            all_goals
            refine SatL.pu (RunV.pick_f rfl rfl) rfl ?_
            refine SatL.pu (RunV.assign rfl) rfl ?_
            refine SatL.nil (SatE.thenC ?_)
            refine SatC.ret ?_
            refine SatE.ret1 rfl rfl ?_
            exact ⟨rfl, hS.sel (R := []) (by repeat constructor)⟩
        · (try simp only [cx, ne_eq] at h1)
          try (exfalso; (first | omega | exact h1 trivial | contradiction | (first | omega | exact h1 rfl | (simp at h1; done))); done)
          all_goals
          refine SatL.guard_n rfl rfl rfl rfl ?_
          refine SatL.guard_n rfl rfl rfl rfl ?_
          refine SatL.pu (RunV.pick_f rfl rfl) rfl ?_
          refine SatL.pu (RunV.move rfl) rfl ?_
          refine SatL.guard_n rfl rfl rfl rfl ?_
          refine SatL.pu (RunV.pick_f rfl rfl) rfl ?_
          refine SatL.pu (RunV.assign rfl) rfl ?_
          refine SatL.nil (SatE.thenC ?_)
          refine SatC.ret ?_
          refine SatE.ret1 rfl rfl ?_
          exact ⟨rfl, hS.sel (R := []) (by repeat constructor)⟩
    · skip
      clear hS
      intro b59 w72 _ hS
      refine keepS (hS.sel (by repeat constructor)) (fun hD => ?_)
      refine SatD.ef 0 rfl (OpW.buildSlice0 hS rfl rfl rfl ?_)
      clear hS
      intro v55 b55 w73 _ hsl55 hv55 hS
      refine keepS (hS.sel (by repeat constructor)) (fun hD => ?_)
      refine SatD.ef 2 rfl (OpW.appendN (rows := []) hsl55 hS (by repeat constructor) hv0 (hrd.st (hS.sel (by repeat constructor)) List.not_mem_nil) (by rw [List.length_map]) rfl rfl rfl rfl rfl rfl rfl (ic_one l) (by simp; omega) rfl ?_)
      clear hS
      intro v57 B57 w57 hsl57 hS
      refine keepS (hS.sel (by repeat constructor)) (fun hD => ?_)
      refine SatD.ef 5 rfl (OpW.append1 hsl57 hS (by repeat constructor) rfl rfl (by repeat constructor) rfl rfl rfl rfl rfl rfl rfl rfl (by simp; omega) rfl ?_)
      clear hS
      intro v60 B60 w60 hsl60 hS
      have hz2 : Sl 28 5 v60 ((l ++ [x]).map ic) B60 := (by rw [List.map_append]; exact hsl60)
      refine keepS (hS.sel (by repeat constructor)) (fun hD => ?_)
      refine SatD.ef 8 rfl (OpW.enter rfl rfl rfl (rfl) (choose_c true _ (hz2.row hS (by repeat constructor) (by rw [List.length_map, List.length_append, List.length_singleton]; omega))) ?_)
      rintro r76 w76 ⟨a3, hb3, rfl, h⟩
      replace hS := St.callN hS h
      rw [alw_snoc hx hb1 hb3]
      refine keepS (hS.sel (by repeat constructor)) (fun hD => ?_)
      refine SatD.tk 9 rfl hD (fun _ hw => RunV.move rfl) ?_
      refine SatD.tk 10 rfl hD (fun _ hw => RunV.extract rfl rfl) ?_
      refine SatD.tk 11 rfl hD (fun _ hw => RunV.extract rfl rfl) ?_
      refine SatD.tk 12 rfl hD (fun _ hw => RunV.assign rfl) ?_
      refine SatD.tk 13 rfl hD (fun _ hw => RunV.assign rfl) ?_
      refine SatD.done 0 (by kernel_rfl) (SatE.thenC ?_)
      clear hD
      refine SatC.seq ?_
      refine SatC.weak (e' := [(9, _), (11, _), (13, _)]) (by repeat constructor) ?_
      refine SatC.region ?_
      refine SatL.pu (RunV.move rfl) rfl ?_
      refine SatL.pu (RunV.move rfl) rfl ?_
      refine SatL.pu (RunV.beql rfl rfl rfl) rfl ?_
      refine SatL.pu (RunV.move rfl) rfl ?_
      refine SatL.guard rfl rfl rfl (fun h1 => ?_) (fun h1 => ?_)
      · (try simp only [cx, ne_eq] at h1)
        try (exfalso; (first | omega | exact h1 trivial | contradiction | (first | omega | exact h1 rfl | (simp at h1; done))); done)
        all_goals
        refine SatL.pu (RunV.move rfl) rfl ?_
        refine SatL.guard_y rfl rfl ?_
        refine SatL.pu (RunV.move rfl) rfl ?_
        refine SatL.guard_y rfl rfl ?_
        refine SatL.pu (RunV.beql rfl rfl rfl) rfl ?_
        refine SatL.pu (RunV.pick_t rfl rfl) rfl ?_
        refine SatL.pu (RunV.move rfl) rfl ?_
        refine SatL.guard rfl rfl rfl (fun h2 => ?_) (fun h2 => ?_)
        · (try simp only [cx, ne_eq] at h2)
          try (exfalso; (first | omega | exact h2 trivial | contradiction | (first | omega | exact h2 rfl | (simp at h2; done))); done)
          all_goals
          refine SatL.op rfl (OpW.enter rfl rfl rfl (rfl) (works_any _) ?_)
          rintro r77 w77 ⟨rfl, h⟩
          replace hS := St.callN hS h
          refine SatL.pu (RunV.pick_t rfl rfl) rfl ?_
          refine SatL.pu (RunV.assign rfl) rfl ?_
          refine SatL.nil (SatE.thenC ?_)
          refine SatC.ret ?_
          refine SatE.ret1 rfl rfl ?_
          exact ⟨rfl, hS.sel (R := []) (by repeat constructor)⟩
        · (try simp only [cx, ne_eq] at h2)
          try (exfalso; (first | omega | exact h2 trivial | contradiction | (first | omega | exact h2 rfl | (simp at h2; done))); done)
          all_goals
          refine SatL.pu (RunV.pick_f rfl rfl) rfl ?_
          refine SatL.pu (RunV.assign rfl) rfl ?_
          refine SatL.nil (SatE.thenC ?_)
          refine SatC.ret ?_
          refine SatE.ret1 rfl rfl ?_
          exact ⟨rfl, hS.sel (R := []) (by repeat constructor)⟩
      · (try simp only [cx, ne_eq] at h1)
        try (exfalso; (first | omega | exact h1 trivial | contradiction | (first | omega | exact h1 rfl | (simp at h1; done))); done)
        all_goals
        refine SatL.guard_n rfl rfl rfl rfl ?_
        refine SatL.guard_n rfl rfl rfl rfl ?_
        refine SatL.pu (RunV.pick_f rfl rfl) rfl ?_
        refine SatL.pu (RunV.move rfl) rfl ?_
        refine SatL.guard_n rfl rfl rfl rfl ?_
        refine SatL.pu (RunV.pick_f rfl rfl) rfl ?_
        refine SatL.pu (RunV.assign rfl) rfl ?_
        refine SatL.nil (SatE.thenC ?_)
        refine SatC.ret ?_
        refine SatE.ret1 rfl rfl ?_
        exact ⟨rfl, hS.sel (R := []) (by repeat constructor)⟩
theorem intentApart_lifted (os : Os) (started : os.Started) (H : Type) (enc : TypeId × Value → H) :
    ReturnsInHanded {} Try.checked os 5 .any (Rows.intentApartSpec.pre6 enc Try.prog Try.f5 Rows.intentApartRow.domain false) (Rows.intentApartSpec.post enc Try.prog Try.f5 false true false false) := by
  refine law_returns (C := Try.checked) (b := 4) (by kernel_rfl) started (by kernel_rfl) Try.func5
    (ChangeSpec.witness6 (enc := enc) (C := Try.checked) false ⟨#[], #[.slice none 0 0, .agg #[.string ⟨#[]⟩, .string ⟨#[]⟩, .bool false, .int .u64 0, .int .u64 0], .agg #[.string ⟨#[]⟩, .string ⟨#[]⟩]], []⟩ 8 (by kernel_rfl) (by kernel_rfl) (by kernel_rfl) (by kernel_rfl))
    rfl rfl (by kernel_rfl) (by kernel_rfl) (by kernel_rfl) (fun ds h => ?_) ?_
  · rw [Try.params5] at h
    match ds, h with
    | [_, _, _], _ => rfl
  intro W base args ds ps hval hA hsz
  rw [Try.params5] at hA hval
  obtain ⟨v0, v1, v2, d0, d1, d2, q0, q1, q2, hargs, rfl, rfl, h0, h1, h2⟩ := trodAll_three hA
  subst hargs
  obtain ⟨xs0, hr0, hx0⟩ := open_rows (l := [9, 9, 4, 26, 26]) 6 Try.underlying22 (by kernel_rfl) (by kernel_rfl) (by decide) (hval 0 22 v0 rfl rfl) h0
  obtain ⟨ys0, rfl, hy0⟩ := rows_map (enc' := ic) (q := fun _ => True) (fun r hr => by
    obtain ⟨u0, u1, u2, u3, u4, rfl, l0, l1, l2, l3, l4⟩ := allLeaf_list5 hr
    obtain ⟨n0, rfl, e0⟩ := leaf_string Try.underlying9 l0
    obtain ⟨n1, rfl, e1⟩ := leaf_string Try.underlying9 l1
    obtain ⟨n2, rfl⟩ := leaf_bool Try.underlying4 l2
    obtain ⟨n3, rfl, e3⟩ := leaf_int Try.underlying26 l3
    obtain ⟨n4, rfl, e4⟩ := leaf_int Try.underlying26 l4
    exact ⟨⟨n0.data.toList, n1.data.toList, n2, n3, n4⟩, rfl, trivial⟩) xs0 hx0
  obtain ⟨c1, rfl, l1⟩ := open_struct (l := [9, 9, 4, 26, 26]) 6 Try.underlying28 (by kernel_rfl) (hval 1 28 v1 rfl rfl) h1
  obtain ⟨a1_0, a1_1, a1_2, a1_3, a1_4, rfl, l1_0, l1_1, l1_2, l1_3, l1_4⟩ := allLeaf_list5 l1
  obtain ⟨a1_0, rfl, ba1_0⟩ := leaf_string Try.underlying9 l1_0
  obtain ⟨a1_1, rfl, ba1_1⟩ := leaf_string Try.underlying9 l1_1
  obtain ⟨a1_2, rfl⟩ := leaf_bool Try.underlying4 l1_2
  obtain ⟨a1_3, rfl, ba1_3⟩ := leaf_int Try.underlying26 l1_3
  replace ba1_3 := bnd_u64 ba1_3
  obtain ⟨a1_4, rfl, ba1_4⟩ := leaf_int Try.underlying26 l1_4
  replace ba1_4 := bnd_u64 ba1_4
  obtain ⟨c2, rfl, l2⟩ := open_array (l := [9, 9]) 6 Try.underlying31 (by kernel_rfl) (hval 2 31 v2 rfl rfl) h2
  obtain ⟨a2_0, a2_1, rfl, l2_0, l2_1⟩ := allLeaf_list2 l2
  obtain ⟨a2_0, rfl, ba2_0⟩ := leaf_string Try.underlying9 l2_0
  obtain ⟨a2_1, rfl, ba2_1⟩ := leaf_string Try.underlying9 l2_1
  exact law_done (apart_any _ ys0 ⟨a1_0.data.toList, a1_1.data.toList, a1_2, a1_3, a1_4⟩ a2_0.data.toList a2_1.data.toList W hr0)
theorem intentApart_holds : Rows.IntentApartSaid :=
  OpenClaim.holds_of_wide 5 Try.f5 rfl rfl rfl rfl rfl rfl rfl ⟨rfl, rfl, rfl, rfl, rfl⟩ rfl rfl rfl rfl rfl (by kernel_rfl) Try.func5 (by kernel_rfl)
    (of_decide_eq_true (by kernel_rfl)) (by unfold Func.isWrapper; first | (rw [if_pos (by decide +kernel)]; kernel_rfl) | (rw [if_neg (by decide +kernel)]; exact ⟨rfl, rfl⟩))
    (fun os started H enc _ => intentApart_lifted os started H enc)
end Go.Proofs.Ytogohendjjgbiaa
