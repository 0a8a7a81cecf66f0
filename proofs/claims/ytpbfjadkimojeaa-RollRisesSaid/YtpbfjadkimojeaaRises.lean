/- RollRises: what stands of a node is never below what stood there. -/
import Derived.Test.YtpbfjadkimojeaaW
import Derived.Test.YtpbfjadkimojeaaPl
import Derived.Test.YtpbfjadkimojeaaK7
import Derived.Test.YtpbfjadkimojeaaK16
import Derived.Test.YtpbfjadkimojeaaRows
set_option linter.unusedSimpArgs false
set_option linter.unusedVariables false
set_option maxRecDepth 100000
set_option maxHeartbeats 4000000
namespace Go.Proofs.Ytpbfjadkimojeaa
open Go.RowKit Go.ChangeShapes Go.WideShapes Go.ChangeAt
/-- What stood there is not above what stands. -/
def Up (m m' : Mem) : Prop := ∀ k x, look m k = some x → ∃ y, look m' k = some y ∧ abv x y = false
theorem up_put {m : Mem} {k : Int} {u : Upd} (h : ∀ x, look m k = some x → abv x u = false) : Up m (lput m k u) := by
  intro j x hx
  rw [look_put]
  by_cases e : j = k
  · subst e
    rw [if_pos rfl]
    exact ⟨u, rfl, h x hx⟩
  · rw [if_neg e]
    exact ⟨x, hx, by simp [abv]⟩
theorem up_refl (m : Mem) : Up m m := fun k x h => ⟨x, h, by simp [abv]⟩
theorem at_some {m : Mem} {k : Int} {x : Upd} (h : look m k = some x) : at_ m k = x := by unfold at_; rw [h]; rfl
theorem up_apply {me : Int} {m : Mem} {u : Upd} : Up m (applyC me m u).2 := by
  unfold applyC mineC
  by_cases h1 : 0 ≤ u.n ∧ u.n < 8 ∧ 0 ≤ u.s ∧ u.s ≤ 3
  · rw [if_neg (fun h => h h1)]
    by_cases h2 : u.n = me
    · rw [if_pos h2]
      by_cases h3 : (at_ m me).s = 3 ∨ ¬ abv u (at_ m me) = true
      · rw [if_pos h3]; exact up_refl m
      · rw [if_neg h3]
        by_cases h4 : ¬ (inc (at_ m me).i u.i).2 = 0
        · rw [if_pos h4]; exact up_refl m
        · rw [if_neg h4]
          refine up_put fun x hx => ?_
          have := at_some hx
          subst this
          simp only [inc] at h4 ⊢
          split at h4
          · exact absurd h4 (by simp)
          · rename_i h5
            rw [if_neg h5]
            simp only [abv, decide_eq_false_iff_not]
            omega
    · rw [if_neg h2]
      by_cases h3 : (look m u.n).isSome = false
      · rw [if_pos h3]
        refine up_put fun x hx => ?_
        rw [hx] at h3; cases h3
      · rw [if_neg h3]
        by_cases h4 : abv u (at_ m u.n) = true
        · rw [if_pos h4]
          refine up_put fun x hx => ?_
          have := at_some hx
          subst this
          simp only [abv, decide_eq_true_eq, decide_eq_false_iff_not] at h4 ⊢
          omega
        · rw [if_neg h4]; exact up_refl m
  · rw [if_pos h1]; exact up_refl m
theorem up_leave {me : Int} {m : Mem} (hs : ∀ x, look m me = some x → x.s ≤ 3) : Up m (leaveC me m).2.2 := by
  unfold leaveC
  split
  · exact up_refl m
  · refine up_put fun x hx => ?_
    have h1 := hs x hx
    have := at_some hx
    subst this
    simp only [abv, decide_eq_false_iff_not]
    omega
/-- All statuses are such. -/
def Low3 (m : Mem) : Prop := ∀ k x, look m k = some x → x.s ≤ 3
theorem low3_put {m : Mem} (h : Low3 m) {k : Int} {u : Upd} (hu : u.s ≤ 3) : Low3 (lput m k u) := by
  intro j x hx
  rw [look_put] at hx
  split at hx
  · obtain rfl := Option.some.inj hx; exact hu
  · exact h j x hx
theorem low3_apply {me : Int} {m : Mem} (h : Low3 m) {u : Upd} : Low3 (applyC me m u).2 := by
  unfold applyC mineC
  by_cases h1 : 0 ≤ u.n ∧ u.n < 8 ∧ 0 ≤ u.s ∧ u.s ≤ 3
  · rw [if_neg (fun h => h h1)]
    repeat' split
    all_goals first | exact h | exact low3_put h h1.2.2.2 | exact low3_put h (show (0 : Int) ≤ 3 by decide)
  · rw [if_pos h1]; exact h
theorem low3_leave {me : Int} {m : Mem} (h : Low3 m) : Low3 (leaveC me m).2.2 := by
  unfold leaveC
  split
  · exact h
  · exact low3_put h (Int.le_refl 3)
/-- A step of a law: a kind, an update. -/
@[reducible] def sr (y : Int × Upd) : List Value := [.int .i64 y.1, .int .i64 y.2.n, .int .u32 y.2.i, .int .i64 y.2.s]
theorem mem_seen {m : Mem} (hw : WfM m) {x : Upd} (h : x ∈ seen m 8) : look m x.n = some x := by
  obtain ⟨k, hk, e⟩ := List.mem_filterMap.1 h
  have := (wf_look hw e).2.1
  rw [this]; exact e
theorem seen_len (m : Mem) : (seen m 8).length ≤ 8 := Nat.le_trans (List.length_filterMap_le ..) (by simp)
theorem rises_any (k a : Int) (v : Value) (ys : List (Int × Upd)) (w : World) (hk : 0 ≤ k ∧ k ≤ 255) (ha : 0 ≤ a ∧ a ≤ 4294967295) (hr : RdRow w v 4 (ys.map sr)) (hys : ∀ y ∈ ys, 0 ≤ y.2.i ∧ y.2.i ≤ 4294967295) : Ret Try.prog 4 #[.int .u8 k, .int .u32 a, v] w fun u w' => u = .bool true ∧ St w [] [] w' := by
  have hS := St.init0 w
  obtain ⟨bl, ol, cl, hvl, hmaxl, hcl, hltl⟩ := hr.open
  simp only [List.length_map] at hvl hmaxl hltl
  have hme : 0 ≤ k.tmod 8 ∧ k.tmod 8 < 8 := by rw [Int.tmod_eq_emod_of_nonneg hk.1]; omega
  obtain ⟨me, hmv⟩ : ∃ me, k.tmod 8 = me := ⟨_, rfl⟩
  rw [hmv] at hme
  refine Ret.enter Try.func4 Try.ntmps4 rfl rfl ?_
  simp only [argEnv, Nat.reduceAdd]
  refine SatC.seq ?_
  refine SatC.region ?_
  refine SatL.pu (RunV.assign rfl) rfl ?_
  refine SatL.nil (SatE.thenC ?_)
  refine SatC.seq ?_
  refine SatC.region ?_
  refine SatL.pu (RunV.move rfl) rfl ?_
  refine SatL.pu (RunV.rem rfl rfl (by first | decide | omega) rfl) rfl ?_
  refine SatL.pu (RunV.conv rfl rfl rfl (by first | exact wrapI64 (by omega) | rfl)) rfl ?_
  refine SatL.pu (RunV.move rfl) rfl ?_
  refine SatL.op rfl (OpW.enter rfl rfl rfl (rfl) (new_ok _ _ _ (by omega)) ?_)
  rintro r1 w1 ⟨b, mb, o, rfl, ho, h⟩
  replace hS := hS.callT (A := []) (by repeat constructor) h
  rw [hmv] at ho hS
  refine SatL.pu (RunV.move rfl) rfl ?_
  refine SatL.pu (RunV.extract rfl rfl) rfl ?_
  refine SatL.pu (RunV.extract rfl rfl) rfl ?_
  refine SatL.pu (RunV.assign rfl) rfl ?_
  refine SatL.pu (RunV.assign rfl) rfl ?_
  refine SatL.nil (SatE.thenC ?_)
  refine SatC.seq ?_
  refine SatC.seq ?_
  refine SatC.region ?_
  refine SatL.pu (RunV.move rfl) rfl ?_
  refine SatL.pu (RunV.neq rfl rfl) rfl ?_
  refine SatL.nil (SatE.thenC ?_)
  refine SatC.weak (e' := [(2, _), (6, _), (7, _), (23, _)]) (by repeat constructor) ?_
  refine SatC.cond rfl (fun h1 => ?_) (fun h1 => ?_)
  · (try simp only [cx, ne_eq] at h1)
    try (exfalso; (first | omega | exact h1 trivial | contradiction | (first | exact absurd hab (by rw [Bool.not_eq_false]; exact h1) | (rw [hab] at h1; cases h1))); done)
    all_goals
    refine SatC.seq ?_
    refine SatC.region ?_
    refine SatL.pu (RunV.assign rfl) rfl ?_
    refine SatL.nil (SatE.thenC ?_)
    refine SatC.ret (SatE.then_ret ?_)
    refine SatE.ret1 rfl rfl ?_
    exact ⟨rfl, hS.sel (by repeat constructor)⟩
  · (try simp only [cx, ne_eq] at h1)
    try (exfalso; (first | omega | exact h1 trivial | contradiction | (first | exact absurd hab (by rw [Bool.not_eq_false]; exact h1) | (rw [hab] at h1; cases h1))); done)
    all_goals
    refine SatC.skip (SatE.thenC ?_)
    refine SatC.seq ?_
    refine SatC.seq ?_
    refine SatC.region ?_
    refine SatL.pu (RunV.assign rfl) rfl ?_
    refine SatL.nil (SatE.thenC ?_)
    refine SatC.block ?_
    refine SatC.loopK (G := Nat × Mem × Obj) (V := fun ⟨i, m, o1⟩ => [(9, .int .i64 (i : Int))]) (Cn := [(2, _), (7, _), (6, _)]) (I := fun ⟨i, m, o1⟩ w' => i ≤ ys.length ∧ i ≤ 80 ∧ IsMp eI o1 (mv m) ∧ InB m ∧ WfM m ∧ Low3 m ∧ Mine me m ∧ St w [] [(b, C 63 (rc me mb)), (mb, o1)] w') (μ := fun ⟨i, m, o1⟩ => ys.length - i) (0, [(me, ⟨me, a, 0⟩)], o) ?_ (by repeat constructor) ?_
    · exact ⟨Nat.zero_le _, by omega, ho, by intro p hp; simp at hp; subst hp; exact ha, by intro p hp; simp at hp; subst hp; exact ⟨hme, rfl, Int.le_refl 0⟩, low3_put (m := []) (fun k x h => by cases h) (show (0 : Int) ≤ 3 by decide), by unfold Mine look; rw [if_pos rfl]; rfl, hS⟩
    clear hS
    rintro ⟨i, m, o1⟩ w2 ⟨hi, hi8, ho1, hib, hwf, hl3, hmi, hS⟩
    refine SatC.weak (e' := [(2, _), (6, _), (7, _), (9, _)]) (by repeat constructor) ?_
    refine SatC.seq ?_
    refine SatC.seq ?_
    refine SatC.region ?_
    refine SatL.pu (RunV.move rfl) rfl ?_
    refine SatL.pu (RunV.move rfl) rfl ?_
    first | refine SatL.pu (RunV.lenR (by assumption) rfl rfl) rfl ?_ | refine SatL.pu (RunV.lenS rfl rfl) rfl ?_
    refine SatL.pu (RunV.lss rfl rfl) rfl ?_
    refine SatL.pu (RunV.move rfl) rfl ?_
    refine SatL.guard rfl rfl rfl (fun h2 => ?_) (fun h2 => ?_)
    · (try simp only [cx, ne_eq] at h2)
      try (exfalso; (first | omega | exact h2 trivial | contradiction | (first | exact absurd hab (by rw [Bool.not_eq_false]; exact h2) | (rw [hab] at h2; cases h2))); done)
      all_goals
      refine SatL.pu (RunV.move rfl) rfl ?_
      refine SatL.guard_y rfl rfl ?_
      refine SatL.pu (RunV.lss rfl rfl) rfl ?_
      refine SatL.pu (RunV.pick_t rfl rfl) rfl ?_
      refine SatL.nil (SatE.thenC ?_)
      refine SatC.cond rfl (fun h3 => ?_) (fun h3 => ?_)
      · (try simp only [cx, ne_eq] at h3)
        try (exfalso; (first | omega | exact h3 trivial | contradiction | (first | exact absurd hab (by rw [Bool.not_eq_false]; exact h3) | (rw [hab] at h3; cases h3))); done)
        all_goals
        refine SatC.skip (SatE.thenC ?_)
        refine SatC.seq ?_
        refine SatC.block ?_
        refine SatC.seq ?_
        obtain ⟨y, hy⟩ := get_some ys i (by omega)
        have hyb := hys y (List.mem_of_getElem? hy)
        refine SatC.region ?_
        refine SatL.pu (RunV.move rfl) rfl ?_
        refine SatL.op rfl (OpW.enter rfl rfl rfl (rfl) (list_any (me := me) (hS.ownT (by repeat constructor)) ho1) ?_)
        rintro r3 w3 ⟨B1, hsl1, h⟩
        replace hS := hS.call0 h
        obtain ⟨c1, hv1⟩ := hsl1.slv
        simp only [List.length_map] at hv1
        refine SatL.pu (RunV.assign rfl) rfl ?_
        refine SatL.nil (SatE.thenC ?_)
        refine SatC.merge (G := Mem × Obj) (V := fun ⟨m2, o2⟩ => []) (Cn := [(2, _), (6, _), (7, _), (9, _), (10, _)]) (I := fun ⟨m2, o2⟩ w' => IsMp eI o2 (mv m2) ∧ InB m2 ∧ WfM m2 ∧ Low3 m2 ∧ Up m m2 ∧ Mine me m2 ∧ St w [] (B1 ++ [(b, C 63 (rc me mb)), (mb, o2)]) w') (by repeat constructor) ?_ ?_
        · skip
          refine SatC.seq ?_
          refine SatC.region ?_
          refine SatL.pu (RunV.move rfl) rfl ?_
          refine SatL.pu (RunV.move rfl) rfl ?_
          first | refine SatL.pu (RunV.indexR (by assumption) rfl rfl rfl (by omega) (by omega) rfl) rfl ?_ | refine SatL.pu (RunV.indexS rfl rfl rfl (by omega) (by omega) rfl) rfl ?_
          first | refine SatL.pu (RunV.fieldAddrL rfl rfl rfl) rfl ?_ | refine SatL.pu (RunV.fieldAddr rfl rfl rfl) rfl ?_
          first | refine SatL.pu (RunV.loadR1f (RdC.st (by assumption) hS List.not_mem_nil) rfl rfl (by first | assumption | exact map_get (by assumption)) rfl) rfl ?_ | refine SatL.pu (RunV.loadR1f (Sl.rd (by assumption) hS (by repeat constructor)) rfl rfl (by first | assumption | exact map_get (by assumption)) rfl) rfl ?_
          refine SatL.pu (RunV.eql rfl rfl) rfl ?_
          refine SatL.nil (SatE.thenC ?_)
          refine SatC.weak (e' := [(2, _), (6, _), (7, _), (9, _), (10, _), (41, _)]) (by repeat constructor) ?_
          refine SatC.cond rfl (fun h4 => ?_) (fun h4 => ?_)
          · (try simp only [cx, ne_eq] at h4)
            try (exfalso; (first | omega | exact h4 trivial | contradiction | (first | exact absurd hab (by rw [Bool.not_eq_false]; exact h4) | (rw [hab] at h4; cases h4))); done)
            all_goals
            refine SatC.region ?_
            refine SatL.pu (RunV.move rfl) rfl ?_
            refine SatL.op rfl (OpW.enter rfl rfl rfl (rfl) (leave_any (me := me) (hS.ownT (by repeat constructor)) ho1) ?_)
            rintro r4 w4 ⟨rfl, o3, ho3, h⟩
            replace hS := hS.callT (A := [(b, C 63 (rc me mb)), (mb, o1)]) (by repeat constructor) h
            refine SatL.nil ?_
            refine SatE.met (((leaveC me m).2.2, o3)) ?_ (by repeat constructor)
            exact ⟨ho3, inb_leave hib, (leave_same hwf hme hmi).2, low3_leave hl3, up_leave (fun x hx => hl3 _ x hx), mine_leave hmi, hS.sel (by repeat constructor)⟩
          · (try simp only [cx, ne_eq] at h4)
            try (exfalso; (first | omega | exact h4 trivial | contradiction | (first | exact absurd hab (by rw [Bool.not_eq_false]; exact h4) | (rw [hab] at h4; cases h4))); done)
            all_goals
            refine SatC.region ?_
            refine SatL.pu (RunV.move rfl) rfl ?_
            refine SatL.pu (RunV.move rfl) rfl ?_
            refine SatL.pu (RunV.move rfl) rfl ?_
            first | refine SatL.pu (RunV.indexR (by assumption) rfl rfl rfl (by omega) (by omega) rfl) rfl ?_ | refine SatL.pu (RunV.indexS rfl rfl rfl (by omega) (by omega) rfl) rfl ?_
            first | refine SatL.pu (RunV.fieldAddrL rfl rfl rfl) rfl ?_ | refine SatL.pu (RunV.fieldAddr rfl rfl rfl) rfl ?_
            first | refine SatL.pu (RunV.loadRNf (RdC.st (by assumption) hS List.not_mem_nil) rfl rfl (by first | assumption | exact map_get (by assumption)) (by repeat constructor)) rfl ?_ | refine SatL.pu (RunV.loadRNf (Sl.rd (by assumption) hS (by repeat constructor)) rfl rfl (by first | assumption | exact map_get (by assumption)) (by repeat constructor)) rfl ?_
            refine SatL.op rfl (OpW.enter rfl rfl rfl (rfl) (apply_any (u := y.2) (me := me) (hS.ownT (by repeat constructor)) ho1 hib hyb) ?_)
            rintro r4 w4 ⟨rfl, o3, ho3, h⟩
            replace hS := hS.callT (A := [(b, C 63 (rc me mb)), (mb, o1)]) (by repeat constructor) h
            refine SatL.nil ?_
            refine SatE.met (((applyC me m y.2).2, o3)) ?_ (by repeat constructor)
            exact ⟨ho3, inb_apply hib hyb, (apply_same hwf hme y.2).2, low3_apply hl3, up_apply, mine_apply hmi, hS.sel (by repeat constructor)⟩
        · clear hS
          rintro ⟨m2, o2⟩ w64 ⟨ho2, hib2, hwf2, hl2, hup, hm2, hS⟩
          refine SatC.weak (e' := [(2, _), (6, _), (7, _), (9, _), (10, _)]) (by repeat constructor) ?_
          refine SatC.seq ?_
          refine SatC.region ?_
          refine SatL.pu (RunV.assign rfl) rfl ?_
          refine SatL.nil (SatE.thenC ?_)
          refine SatC.block ?_
          refine SatC.loopK (G := Nat) (V := fun j => [(11, .int .i64 (j : Int))]) (Cn := [(2, _), (7, _), (9, _), (10, _), (6, _)]) (I := fun j w' => j ≤ (seen m 8).length ∧ St w [] (B1 ++ [(b, C 63 (rc me mb)), (mb, o2)]) w') (μ := fun j => (seen m 8).length - j) 0 ?_ (by repeat constructor) ?_
          · exact ⟨Nat.zero_le _, hS⟩
          clear hS
          rintro j w65 ⟨hj, hS⟩
          refine SatC.weak (e' := [(2, _), (6, _), (7, _), (9, _), (10, _), (11, _)]) (by repeat constructor) ?_
          refine SatC.seq ?_
          refine SatC.seq ?_
          refine SatC.region ?_
          refine SatL.pu (RunV.move rfl) rfl ?_
          refine SatL.pu (RunV.move rfl) rfl ?_
          first | refine SatL.pu (RunV.lenR (by assumption) rfl rfl) rfl ?_ | refine SatL.pu (RunV.lenS rfl rfl) rfl ?_
          refine SatL.pu (RunV.lss rfl rfl) rfl ?_
          refine SatL.nil (SatE.thenC ?_)
          refine SatC.cond rfl (fun h4 => ?_) (fun h4 => ?_)
          · (try simp only [cx, ne_eq] at h4)
            try (exfalso; (first | omega | exact h4 trivial | contradiction | (first | exact absurd hab (by rw [Bool.not_eq_false]; exact h4) | (rw [hab] at h4; cases h4))); done)
            all_goals
            refine SatC.skip (SatE.thenC ?_)
            refine SatC.seq ?_
            refine SatC.block ?_
            refine SatC.seq ?_
            obtain ⟨x, hx⟩ := get_some (seen m 8) j (by omega)
            have hsl8 := seen_len m
            have hlx := mem_seen hwf (List.mem_of_getElem? hx)
            obtain ⟨x2, hx2, hab⟩ := hup _ _ hlx
            have hsome : (look m2 x.n).isSome = true := by rw [hx2]; rfl
            have hat : at_ m2 x.n = x2 := at_some hx2
            refine SatC.region ?_
            refine SatL.pu (RunV.move rfl) rfl ?_
            refine SatL.pu (RunV.move rfl) rfl ?_
            refine SatL.pu (RunV.move rfl) rfl ?_
            first | refine SatL.pu (RunV.indexR (by assumption) rfl rfl rfl (by omega) (by omega) rfl) rfl ?_ | refine SatL.pu (RunV.indexS rfl rfl rfl (by omega) (by omega) rfl) rfl ?_
            first | refine SatL.pu (RunV.fieldAddrL rfl rfl rfl) rfl ?_ | refine SatL.pu (RunV.fieldAddr rfl rfl rfl) rfl ?_
            first | refine SatL.pu (RunV.loadR1f (RdC.st (by assumption) hS List.not_mem_nil) rfl rfl (by first | assumption | exact map_get (by assumption)) rfl) rfl ?_ | refine SatL.pu (RunV.loadR1f (Sl.rd (by assumption) hS (by repeat constructor)) rfl rfl (by first | assumption | exact map_get (by assumption)) rfl) rfl ?_
            refine SatL.op rfl (OpW.enter rfl rfl rfl (rfl) (get_any (me := me) x.n (hS.ownT (by repeat constructor)) ho2) ?_)
            rintro r66 w66 ⟨rfl, h⟩
            replace hS := St.callN hS h
            rw [hsome, hat]
            refine SatL.pu (RunV.move rfl) rfl ?_
            refine SatL.pu (RunV.extract rfl rfl) rfl ?_
            refine SatL.pu (RunV.extract rfl rfl) rfl ?_
            refine SatL.op rfl (OpW.alloc hS rfl rfl (by repeat constructor) ?_)
            clear hS
            intro b12 w67 _ hS
            refine SatL.op rfl (OpW.store hS rfl rfl (by repeat constructor) (by repeat constructor) (by repeat constructor) rfl rfl ?_)
            clear hS
            intro w68 hS
            refine SatL.pu (RunV.assign rfl) rfl ?_
            refine SatL.nil (SatE.thenC ?_)
            refine SatC.seq ?_
            refine SatC.weak (e' := [(2, _), (6, _), (7, _), (9, _), (10, _), (11, _), (12, _), (13, _)]) (by repeat constructor) ?_
            refine SatC.drawnT 10 hS (hS) (by kernel_rfl) ?_
            clear hS
            intro w69 hh hS hD
            refine SatD.tk 0 rfl hD (fun _ hw => RunV.move rfl) ?_
            refine SatD.tk 1 rfl hD (fun _ hw => RunV.not rfl) ?_
            refine SatD.tk 2 rfl hD (fun _ hw => RunV.move rfl) ?_
            refine SatD.ways 69 rfl (fun h5 => ?_) (fun h5 => ?_)
            · (try simp only [cx, ne_eq] at h5)
              try (exfalso; (first | omega | exact h5 trivial | contradiction | (first | exact absurd hab (by rw [Bool.not_eq_false]; exact h5) | (rw [hab] at h5; cases h5))); done)
              all_goals
              refine SatD.sk 3 rfl [] hD ?_
              refine SatD.sk 4 rfl [] hD ?_
              refine SatD.sk 5 rfl [] hD ?_
              refine SatD.sk 6 rfl [] hD ?_
              refine SatD.sk 7 rfl [] hD ?_
              refine SatD.sk 8 rfl [] hD ?_
              refine SatD.tk 9 rfl hD (fun _ hw => RunV.pick_t rfl rfl) ?_
              refine SatD.done 0 (by kernel_rfl) (SatE.thenC ?_)
              clear hD
              refine SatC.cond_t rfl ?_
              refine SatC.seq ?_
              refine SatC.weak (e' := [(2, _), (6, _), (7, _), (9, _), (10, _), (11, _)]) (by repeat constructor) ?_
              refine SatC.region ?_
              refine SatL.pu (RunV.assign rfl) rfl ?_
              refine SatL.nil (SatE.thenC ?_)
              refine SatC.ret (SatE.blk_ret (SatE.then_ret (SatE.then_ret (SatE.blk_ret (SatE.blk_ret (SatE.then_ret (SatE.then_ret (SatE.blk_ret (SatE.then_ret ?_)))))))))
              refine SatE.ret1 rfl rfl ?_
              exact ⟨rfl, hS.sel (by repeat constructor)⟩
            · (try simp only [cx, ne_eq] at h5)
              try (exfalso; (first | omega | exact h5 trivial | contradiction | (first | exact absurd hab (by rw [Bool.not_eq_false]; exact h5) | (rw [hab] at h5; cases h5))); done)
              all_goals
              refine SatD.tk 3 rfl hD (fun _ hw => RunV.move rfl) ?_
              refine SatD.tk 4 rfl hD (fun _ hw => RunV.move rfl) ?_
              first | refine SatD.tk 5 rfl hD (fun _ hw => RunV.indexR (by assumption) rfl rfl rfl (by omega) (by omega) rfl) ?_ | refine SatD.tk 5 rfl hD (fun _ hw => RunV.indexS rfl rfl rfl (by omega) (by omega) rfl) ?_
              first | refine SatD.tk 6 rfl hD (fun _ hw => RunV.loadRNz (RdC.st (by assumption) hw List.not_mem_nil) rfl rfl (by first | assumption | exact map_get (by assumption))) ?_ | refine SatD.tk 6 rfl hD (fun _ hw => RunV.loadRNz (Sl.rd (by assumption) hw (by repeat constructor)) rfl rfl (by first | assumption | exact map_get (by assumption))) ?_
              refine SatD.tk 7 rfl hD (fun _ hw => RunV.loadN hw rfl rfl (by repeat constructor) (by repeat constructor)) ?_
              refine SatD.ef 8 rfl (OpW.enter rfl rfl rfl (rfl) (above_any _ _ _ _ _ _ _) ?_)
              rintro r70 w70 ⟨rfl, h⟩
              replace hS := St.callN hS h
              refine keepS (hS.sb (by repeat constructor)) (fun hD => ?_)
              refine SatD.tk 9 rfl hD (fun _ hw => RunV.pick_f rfl rfl) ?_
              refine SatD.done 0 (by kernel_rfl) (SatE.thenC ?_)
              clear hD
              refine SatC.cond rfl (fun h6 => ?_) (fun h6 => ?_)
              · (try simp only [cx, ne_eq] at h6)
                try (exfalso; (first | omega | exact h6 trivial | contradiction | (first | exact absurd hab (by rw [Bool.not_eq_false]; exact h6) | (rw [hab] at h6; cases h6))); done)
                all_goals
                refine SatC.seq ?_
                refine SatC.weak (e' := [(2, _), (6, _), (7, _), (9, _), (10, _), (11, _)]) (by repeat constructor) ?_
                refine SatC.region ?_
                refine SatL.pu (RunV.assign rfl) rfl ?_
                refine SatL.nil (SatE.thenC ?_)
                refine SatC.ret (SatE.blk_ret (SatE.then_ret (SatE.then_ret (SatE.blk_ret (SatE.blk_ret (SatE.then_ret (SatE.then_ret (SatE.blk_ret (SatE.then_ret ?_)))))))))
                refine SatE.ret1 rfl rfl ?_
                exact ⟨rfl, hS.sel (by repeat constructor)⟩
              · (try simp only [cx, ne_eq] at h6)
                try (exfalso; (first | omega | exact h6 trivial | contradiction | (first | exact absurd hab (by rw [Bool.not_eq_false]; exact h6) | (rw [hab] at h6; cases h6))); done)
                all_goals
                refine SatC.skip (SatE.blk_normal (SatE.thenC ?_))
                refine SatC.weak (e' := [(2, _), (6, _), (7, _), (9, _), (10, _), (11, _)]) (by repeat constructor) ?_
                refine SatC.region ?_
                refine SatL.pu (RunV.move rfl) rfl ?_
                refine SatL.pu (RunV.add rfl rfl (by first | exact wrapI64 (by omega) | rfl)) rfl ?_
                refine SatL.pu (RunV.assign rfl) rfl ?_
                refine SatL.nil ?_
                refine SatE.again (j + 1) ?_ (by first | omega | (dsimp only; omega)) (by repeat constructor)
                exact ⟨by omega, hS.sel (by repeat constructor)⟩
          · (try simp only [cx, ne_eq] at h4)
            try (exfalso; (first | omega | exact h4 trivial | contradiction | (first | exact absurd hab (by rw [Bool.not_eq_false]; exact h4) | (rw [hab] at h4; cases h4))); done)
            all_goals
            refine SatC.exit (SatE.then_exit (SatE.then_exit (SatE.blk_exit (SatE.blk_normal (SatE.thenC ?_)))))
            refine SatC.region ?_
            refine SatL.pu (RunV.move rfl) rfl ?_
            refine SatL.pu (RunV.add rfl rfl (by first | exact wrapI64 (by omega) | rfl)) rfl ?_
            refine SatL.pu (RunV.assign rfl) rfl ?_
            refine SatL.nil ?_
            refine SatE.again ((i + 1, m2, o2)) ?_ (by first | omega | (dsimp only; omega)) (by repeat constructor)
            exact ⟨by omega, by omega, ho2, hib2, hwf2, hl2, hm2, hS.sel (by repeat constructor)⟩
      · (try simp only [cx, ne_eq] at h3)
        try (exfalso; (first | omega | exact h3 trivial | contradiction | (first | exact absurd hab (by rw [Bool.not_eq_false]; exact h3) | (rw [hab] at h3; cases h3))); done)
        all_goals
        refine SatC.exit (SatE.then_exit (SatE.then_exit (SatE.blk_exit (SatE.thenC ?_))))
        refine SatC.seq ?_
        refine SatC.region ?_
        refine SatL.op rfl (OpW.enter rfl rfl rfl (rfl) (works_any _) ?_)
        rintro r3 w3 ⟨rfl, h⟩
        replace hS := St.callN hS h
        refine SatL.pu (RunV.assign rfl) rfl ?_
        refine SatL.nil (SatE.thenC ?_)
        refine SatC.ret ?_
        refine SatE.ret1 rfl rfl ?_
        exact ⟨rfl, hS.sel (by repeat constructor)⟩
    · (try simp only [cx, ne_eq] at h2)
      try (exfalso; (first | omega | exact h2 trivial | contradiction | (first | exact absurd hab (by rw [Bool.not_eq_false]; exact h2) | (rw [hab] at h2; cases h2))); done)
      all_goals
      refine SatL.guard_n rfl rfl rfl rfl ?_
      refine SatL.pu (RunV.pick_f rfl rfl) rfl ?_
      refine SatL.nil (SatE.thenC ?_)
      refine SatC.cond_f rfl ?_
      refine SatC.exit (SatE.then_exit (SatE.then_exit (SatE.blk_exit (SatE.thenC ?_))))
      refine SatC.seq ?_
      refine SatC.region ?_
      refine SatL.op rfl (OpW.enter rfl rfl rfl (rfl) (works_any _) ?_)
      rintro r3 w3 ⟨rfl, h⟩
      replace hS := St.callN hS h
      refine SatL.pu (RunV.assign rfl) rfl ?_
      refine SatL.nil (SatE.thenC ?_)
      refine SatC.ret ?_
      refine SatE.ret1 rfl rfl ?_
      exact ⟨rfl, hS.sel (by repeat constructor)⟩
theorem rollRises_lifted (os : Os) (started : os.Started) (H : Type) (enc : TypeId × Value → H) :
    ReturnsInHanded {} Try.checked os 4 .any (Rows.rollRisesSpec.pre6 enc Try.prog Try.f4 Rows.rollRisesRow.domain false) (Rows.rollRisesSpec.post enc Try.prog Try.f4 false true false false) := by
  refine law_returns (C := Try.checked) (b := 4) (by kernel_rfl) started (by kernel_rfl) Try.func4
    (ChangeSpec.witness6 (enc := enc) (C := Try.checked) false ⟨#[], #[.int .u8 0, .int .u32 0, .slice none 0 0], []⟩ 8 (by kernel_rfl) (by kernel_rfl) (by kernel_rfl) (by kernel_rfl))
    rfl rfl (by kernel_rfl) (by kernel_rfl) (by kernel_rfl) (fun ds h => ?_) ?_
  · rw [Try.params4] at h
    match ds, h with
    | [_, _, _], _ => rfl
  intro W base args ds ps hval hA hsz
  rw [Try.params4] at hA hval
  obtain ⟨v0, v1, v2, d0, d1, d2, q0, q1, q2, hargs, rfl, rfl, h0, h1, h2⟩ := trodAll_three hA
  subst hargs
  obtain ⟨a0, rfl, rfl, rfl, b0⟩ := open_int Try.underlying5 (hval 0 5 v0 rfl rfl) h0
  replace b0 := bnd_u8 b0
  obtain ⟨a1, rfl, rfl, rfl, b1⟩ := open_int Try.underlying22 (hval 1 22 v1 rfl rfl) h1
  replace b1 := bnd_u32 b1
  obtain ⟨xs2, hr2, hx2⟩ := open_rows (l := [3, 3, 22, 3]) 6 Try.underlying38 (by kernel_rfl) (by kernel_rfl) (by decide) (hval 2 38 v2 rfl rfl) h2
  obtain ⟨ys2, rfl, hy2⟩ := rows_map (enc' := sr) (q := fun y => 0 ≤ y.2.i ∧ y.2.i ≤ 4294967295) (fun r hr => by
    obtain ⟨u0, u1, u2, u3, rfl, l0, l1, l2, l3⟩ := allLeaf_list4 hr
    obtain ⟨n0, rfl, e0⟩ := leaf_int Try.underlying3 l0
    obtain ⟨n1, rfl, e1⟩ := leaf_int Try.underlying3 l1
    obtain ⟨n2, rfl, e2⟩ := leaf_int Try.underlying22 l2
    obtain ⟨n3, rfl, e3⟩ := leaf_int Try.underlying3 l3
    exact ⟨⟨n0, n1, n2, n3⟩, rfl, bnd_u32 e2⟩) xs2 hx2
  exact law_done (rises_any a0 a1 _ ys2 W b0 b1 hr2 hy2)
theorem rollRises_holds : Rows.RollRisesSaid :=
  OpenClaim.holds_of_wide 4 Try.f4 rfl rfl rfl rfl rfl rfl rfl ⟨rfl, rfl, rfl, rfl, rfl⟩ rfl rfl rfl rfl rfl (by kernel_rfl) Try.func4 (by kernel_rfl)
    (of_decide_eq_true (by kernel_rfl)) (by unfold Func.isWrapper; first | (rw [if_pos (by decide +kernel)]; kernel_rfl) | (rw [if_neg (by decide +kernel)]; exact ⟨rfl, rfl⟩))
    (fun os started H enc _ => rollRises_lifted os started H enc)
end Go.Proofs.Ytpbfjadkimojeaa
