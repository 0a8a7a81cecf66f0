/- RollAlive: a live node's own record stays alive, and is above all that was said of it. -/
import Derived.Test.YtpbfjadkimojeaaW
import Derived.Test.YtpbfjadkimojeaaK7
import Derived.Test.YtpbfjadkimojeaaK16
import Derived.Test.YtpbfjadkimojeaaRows
set_option linter.unusedSimpArgs false
set_option linter.unusedVariables false
set_option maxRecDepth 100000
set_option maxHeartbeats 1000000
namespace Go.Proofs.Ytpbfjadkimojeaa
open Go.RowKit Go.ChangeShapes Go.WideShapes Go.ChangeAt
theorem at_put (m : Mem) (k : Int) (u : Upd) (k' : Int) : at_ (lput m k u) k' = if k' = k then u else at_ m k' := by
  unfold at_
  rw [look_put]
  split <;> rfl
theorem alive {me : Int} {m : Mem} {u : Upd} (hm : 0 ≤ me ∧ me < 8) (hn : u.n = me) (hc : (at_ m me).n = me ∧ (at_ m me).s = 0) :
    ((at_ (applyC me m u).2 me).n = me ∧ (at_ (applyC me m u).2 me).s = 0) ∧
    ((applyC me m u).1.k = 4 → (u.i = 4294967295 ∨ (at_ m me).i = 4294967295) ∧ at_ (applyC me m u).2 me = at_ m me) ∧
    (¬ (applyC me m u).1.k = 4 → (0 ≤ u.n ∧ u.n < 8 ∧ 0 ≤ u.s ∧ u.s ≤ 3) → abv u (at_ (applyC me m u).2 me) = false ∧ (u = at_ m me ∨ abv (at_ (applyC me m u).2 me) u = true)) := by
  unfold applyC mineC
  generalize hcg : at_ m me = c at *
  by_cases h1 : 0 ≤ u.n ∧ u.n < 8 ∧ 0 ≤ u.s ∧ u.s ≤ 3
  · rw [if_neg (fun h => h h1), if_pos hn]
    by_cases h2 : c.s = 3 ∨ ¬ abv u c = true
    · rw [if_pos h2]
      dsimp only
      rw [hcg]
      refine ⟨hc, fun h => by simp at h, fun _ _ => ?_⟩
      have h3 : ¬ abv u c = true := by rcases h2 with h | h; omega; exact h
      refine ⟨by simpa using h3, ?_⟩
      simp only [abv, decide_eq_true_eq] at h3 ⊢
      obtain ⟨cn, ci, cs⟩ := c
      obtain ⟨un, ui, us⟩ := u
      simp only [Upd.mk.injEq] at *
      omega
    · rw [if_neg h2]
      by_cases h4 : max c.i u.i = 4294967295
      · rw [if_pos (by simp [inc, h4])]
        dsimp only
        rw [hcg]
        refine ⟨hc, fun _ => ⟨by omega, rfl⟩, fun h => absurd rfl h⟩
      · rw [if_neg (by simp [inc, h4])]
        dsimp only
        rw [at_put, if_pos rfl]
        have hi : (inc c.i u.i).1 = max c.i u.i + 1 := by simp [inc, h4]
        refine ⟨⟨rfl, rfl⟩, fun h => by simp at h, fun _ _ => ?_⟩
        simp only [abv, hi, decide_eq_true_eq, decide_eq_false_iff_not]
        omega
  · rw [if_pos h1]
    dsimp only
    rw [hcg]
    exact ⟨hc, fun h => by simp at h, fun _ h => absurd h h1⟩
@[reducible] def ru (y : Int × Int × Int) : List Value := [.int .i64 y.1, .int .u32 y.2.1, .int .i64 y.2.2]
theorem alive_any (k a : Int) (v : Value) (ys : List (Int × Int × Int)) (w : World) (hk : 0 ≤ k ∧ k ≤ 255) (ha : 0 ≤ a ∧ a ≤ 4294967295) (hr : RdRow w v 3 (ys.map ru)) (hys : ∀ y ∈ ys, 0 ≤ y.2.1 ∧ y.2.1 ≤ 4294967295) : Ret Try.prog 3 #[.int .u8 k, .int .u32 a, v] w fun u w' => u = .bool true ∧ St w [] [] w' := by
  have hS := St.init0 w
  obtain ⟨bl, ol, cl, hvl, hmaxl, hcl, hltl⟩ := hr.open
  simp only [List.length_map] at hvl hmaxl hltl
  have hme : 0 ≤ k.tmod 8 ∧ k.tmod 8 < 8 := by rw [Int.tmod_eq_emod_of_nonneg hk.1]; omega
  refine Ret.enter Try.func3 Try.ntmps3 rfl rfl ?_
  simp only [argEnv, Nat.reduceAdd]
  refine SatC.seq ?_
  refine SatC.region ?_
  refine SatL.pu (RunV.assign rfl) rfl ?_
  refine SatL.nil (SatE.thenC ?_)
  refine SatC.seq ?_
  refine SatC.region ?_
  refine SatL.pu (RunV.move rfl) rfl ?_
  refine SatL.pu (RunV.rem rfl rfl (by first | decide | omega) rfl) rfl ?_
  refine SatL.pu (RunV.conv rfl rfl rfl (by first | exact wrapI64 (by omega) | rfl)) rfl ?_
  refine SatL.pu (RunV.assign rfl) rfl ?_
  refine SatL.nil (SatE.thenC ?_)
  refine SatC.seq ?_
  obtain ⟨me, hmv⟩ : ∃ me, k.tmod 8 = me := ⟨_, rfl⟩
  rw [hmv] at hme ⊢
  refine SatC.region ?_
  refine SatL.pu (RunV.move rfl) rfl ?_
  refine SatL.pu (RunV.move rfl) rfl ?_
  refine SatL.op rfl (OpW.enter rfl rfl rfl (rfl) (new_ok _ _ _ (by omega)) ?_)
  rintro r1 w1 ⟨b, mb, o, rfl, ho, h⟩
  replace hS := hS.callT (A := []) (by repeat constructor) h
  refine SatL.pu (RunV.move rfl) rfl ?_
  refine SatL.pu (RunV.extract rfl rfl) rfl ?_
  refine SatL.pu (RunV.extract rfl rfl) rfl ?_
  refine SatL.pu (RunV.assign rfl) rfl ?_
  refine SatL.pu (RunV.assign rfl) rfl ?_
  refine SatL.nil (SatE.thenC ?_)
  refine SatC.seq ?_
  refine SatC.seq ?_
  refine SatC.region ?_
  refine SatL.pu (RunV.move rfl) rfl ?_
  refine SatL.pu (RunV.neq rfl rfl) rfl ?_
  refine SatL.nil (SatE.thenC ?_)
  refine SatC.weak (e' := [(2, _), (6, _), (7, _), (8, _), (25, _)]) (by repeat constructor) ?_
  refine SatC.cond rfl (fun h1 => ?_) (fun h1 => ?_)
  · (try simp only [cx, ne_eq] at h1)
    try (exfalso; (first | omega | exact h1 trivial | contradiction); done)
    all_goals
    refine SatC.seq ?_
    refine SatC.region ?_
    refine SatL.pu (RunV.assign rfl) rfl ?_
    refine SatL.nil (SatE.thenC ?_)
    refine SatC.ret (SatE.then_ret ?_)
    refine SatE.ret1 rfl rfl ?_
    first | exact ⟨rfl, hS.sb (by repeat constructor)⟩ | (exfalso; have := hal4 (by assumption); dsimp only at this; omega) | (exfalso; exact (by assumption : ¬ _ = _) (by first | exact (hal4 (by assumption)).2 | exact congrArg (fun u : Upd => (⟨u.n, u.i, u.s⟩ : Upd)) (hal4 (by assumption)).2)) | (exfalso; exact absurd (haln (by assumption) (by assumption)).1 (by rw [Bool.not_eq_false]; assumption)) | (exfalso; rcases (haln (by assumption) (by assumption)).2 with e | e <;> first | exact absurd e (by assumption) | exact absurd e (by rw [Bool.not_eq_true]; assumption)) | (exfalso; clear hS; trace_state; sorry)
  · (try simp only [cx, ne_eq] at h1)
    try (exfalso; (first | omega | exact h1 trivial | contradiction); done)
    all_goals
    refine SatC.skip (SatE.thenC ?_)
    refine SatC.seq ?_
    refine SatC.seq ?_
    refine SatC.region ?_
    refine SatL.pu (RunV.assign rfl) rfl ?_
    refine SatL.nil (SatE.thenC ?_)
    refine SatC.block ?_
    refine SatC.loopK (G := Nat × Mem × Obj) (V := fun ⟨i, m, o1⟩ => [(10, .int .i64 (i : Int))]) (Cn := [(2, _), (7, _), (8, _), (6, _)]) (I := fun ⟨i, m, o1⟩ w' => i ≤ ys.length ∧ i ≤ 60 ∧ IsMp eI o1 (mv m) ∧ InB m ∧ ((at_ m me).n = me ∧ (at_ m me).s = 0) ∧ St w [] [(b, C 63 (rc me mb)), (mb, o1)] w') (μ := fun ⟨i, m, o1⟩ => ys.length - i) (0, [(me, ⟨me, a, 0⟩)], o) ?_ (by repeat constructor) ?_
    · exact ⟨Nat.zero_le _, by omega, ho, by intro p hp; simp at hp; subst hp; exact ha, by simp [at_, look], hS⟩
    clear hS
    rintro ⟨i, m, o1⟩ w2 ⟨hi, hi6, ho1, hib, hcs, hS⟩
    refine SatC.weak (e' := [(2, _), (6, _), (7, _), (8, _), (10, _)]) (by repeat constructor) ?_
    refine SatC.seq ?_
    refine SatC.seq ?_
    refine SatC.region ?_
    refine SatL.pu (RunV.move rfl) rfl ?_
    refine SatL.pu (RunV.move rfl) rfl ?_
    first | refine SatL.pu (RunV.lenR (by assumption) rfl rfl) rfl ?_ | refine SatL.pu (RunV.lenS rfl rfl) rfl ?_
    refine SatL.pu (RunV.lss rfl rfl) rfl ?_
    refine SatL.pu (RunV.move rfl) rfl ?_
    refine SatL.guard rfl rfl rfl (fun h2 => ?_) (fun h2 => ?_)
    · (try simp only [cx, ne_eq] at h2)
      try (exfalso; (first | omega | exact h2 trivial | contradiction); done)
      all_goals
      refine SatL.pu (RunV.move rfl) rfl ?_
      refine SatL.guard_y rfl rfl ?_
      refine SatL.pu (RunV.lss rfl rfl) rfl ?_
      refine SatL.pu (RunV.pick_t rfl rfl) rfl ?_
      refine SatL.nil (SatE.thenC ?_)
      refine SatC.cond rfl (fun h3 => ?_) (fun h3 => ?_)
      · (try simp only [cx, ne_eq] at h3)
        try (exfalso; (first | omega | exact h3 trivial | contradiction); done)
        all_goals
        refine SatC.skip (SatE.thenC ?_)
        refine SatC.seq ?_
        refine SatC.block ?_
        refine SatC.seq ?_
        obtain ⟨y, hy⟩ := get_some ys i (by omega)
        have hyb := hys y (List.mem_of_getElem? hy)
        refine SatC.region ?_
        refine SatL.pu (RunV.move rfl) rfl ?_
        refine SatL.pu (RunV.move rfl) rfl ?_
        first | refine SatL.pu (RunV.indexR (by assumption) rfl rfl rfl (by omega) (by omega) rfl) rfl ?_ | refine SatL.pu (RunV.indexS rfl rfl rfl (by omega) (by omega) rfl) rfl ?_
        first | refine SatL.pu (RunV.loadRNz (RdC.st (by assumption) hS List.not_mem_nil) rfl rfl (by first | assumption | exact map_get (by assumption))) rfl ?_ | refine SatL.pu (RunV.loadRNz (Sl.rd (by assumption) hS (by repeat constructor)) rfl rfl (by first | assumption | exact map_get (by assumption))) rfl ?_
        refine SatL.op rfl (OpW.alloc hS rfl rfl (by repeat constructor) ?_)
        clear hS
        intro b11 w3 _ hS
        refine SatL.op rfl (OpW.store hS rfl rfl (by repeat constructor) (by repeat constructor) (by repeat constructor) rfl rfl ?_)
        clear hS
        intro w4 hS
        refine SatL.nil (SatE.thenC ?_)
        refine SatC.seq ?_
        refine SatC.weak (e' := [(2, _), (6, _), (7, _), (8, _), (10, _), (11, _)]) (by repeat constructor) ?_
        refine SatC.region ?_
        refine SatL.pu (RunV.move rfl) rfl ?_
        first | refine SatL.pu (RunV.fieldAddrL rfl rfl rfl) rfl ?_ | refine SatL.pu (RunV.fieldAddr rfl rfl rfl) rfl ?_
        refine SatL.op rfl (OpW.store hS rfl rfl (by repeat constructor) (by repeat constructor) (by repeat constructor) rfl rfl ?_)
        clear hS
        intro w5 hS
        refine SatL.nil (SatE.thenC ?_)
        refine SatC.seq ?_
        refine SatC.region ?_
        refine SatL.pu (RunV.move rfl) rfl ?_
        refine SatL.op rfl (OpW.enter rfl rfl rfl (rfl) (self_any (me := me) (hS.ownT (by repeat constructor)) (by assumption)) ?_)
        rintro r6 w6 ⟨rfl, h⟩
        replace hS := St.callN hS h
        refine SatL.op rfl (OpW.alloc hS rfl rfl (by repeat constructor) ?_)
        clear hS
        intro b12 w7 _ hS
        refine SatL.op rfl (OpW.store hS rfl rfl (by repeat constructor) (by repeat constructor) (by repeat constructor) rfl rfl ?_)
        clear hS
        intro w8 hS
        refine SatL.nil (SatE.thenC ?_)
        refine SatC.seq ?_
        refine SatC.region ?_
        refine SatL.pu (RunV.move rfl) rfl ?_
        refine SatL.pu (RunV.loadN hS rfl rfl (by repeat constructor) (by repeat constructor)) rfl ?_
        refine SatL.op rfl (OpW.enter rfl rfl rfl (rfl) (apply_any (u := ⟨me, y.2.1, y.2.2⟩) (me := me) (hS.ownT (by repeat constructor)) (by assumption) (by assumption) hyb) ?_)
        rintro r9 w9 ⟨rfl, o2, ho2, h⟩
        replace hS := hS.callT (A := [(b, C 63 (rc me mb)), (mb, o1)]) (by repeat constructor) h
        have hal := alive (u := ⟨me, y.2.1, y.2.2⟩) hme rfl hcs
        have hib2 := inb_apply (me := me) (u := ⟨me, y.2.1, y.2.2⟩) hib hyb
        generalize applyC me m ⟨me, y.2.1, y.2.2⟩ = r at *
        obtain ⟨hcs2, hal4, haln⟩ := hal
        refine SatL.op rfl (OpW.alloc hS rfl rfl (by repeat constructor) ?_)
        clear hS
        intro b13 w10 _ hS
        refine SatL.op rfl (OpW.store hS rfl rfl (by repeat constructor) (by repeat constructor) (by repeat constructor) rfl rfl ?_)
        clear hS
        intro w11 hS
        refine SatL.nil (SatE.thenC ?_)
        refine SatC.seq ?_
        refine SatC.region ?_
        refine SatL.pu (RunV.move rfl) rfl ?_
        refine SatL.op rfl (OpW.enter rfl rfl rfl (rfl) (self_any (me := me) (hS.ownT (by repeat constructor)) (by assumption)) ?_)
        rintro r12 w12 ⟨rfl, h⟩
        replace hS := St.callN hS h
        refine SatL.op rfl (OpW.alloc hS rfl rfl (by repeat constructor) ?_)
        clear hS
        intro b14 w13 _ hS
        refine SatL.op rfl (OpW.store hS rfl rfl (by repeat constructor) (by repeat constructor) (by repeat constructor) rfl rfl ?_)
        clear hS
        intro w14 hS
        refine SatL.nil (SatE.thenC ?_)
        refine SatC.seq ?_
        refine SatC.seq ?_
        refine SatC.region ?_
        first | refine SatL.pu (RunV.fieldAddrL rfl rfl rfl) rfl ?_ | refine SatL.pu (RunV.fieldAddr rfl rfl rfl) rfl ?_
        refine SatL.pu (RunV.load1 hS rfl rfl (by repeat constructor) rfl) rfl ?_
        refine SatL.pu (RunV.neq rfl rfl) rfl ?_
        refine SatL.pu (RunV.move rfl) rfl ?_
        refine SatL.guard rfl rfl rfl (fun h4 => ?_) (fun h4 => ?_)
        · (try simp only [cx, ne_eq] at h4)
          try (exfalso; (first | omega | exact h4 trivial | contradiction); done)
          all_goals
          first | refine SatL.pu (RunV.fieldAddrL rfl rfl rfl) rfl ?_ | refine SatL.pu (RunV.fieldAddr rfl rfl rfl) rfl ?_
          refine SatL.guard_y rfl rfl ?_
          refine SatL.pu (RunV.load1 hS rfl rfl (by repeat constructor) rfl) rfl ?_
          refine SatL.guard_y rfl rfl ?_
          refine SatL.pu (RunV.move rfl) rfl ?_
          refine SatL.guard_y rfl rfl ?_
          refine SatL.pu (RunV.neq rfl rfl) rfl ?_
          refine SatL.pu (RunV.pick_f rfl rfl) rfl ?_
          refine SatL.nil (SatE.thenC ?_)
          refine SatC.weak (e' := [(2, _), (6, _), (7, _), (8, _), (10, _), (11, _), (12, _), (13, _), (14, _), (57, _)]) (by repeat constructor) ?_
          refine SatC.cond rfl (fun h5 => ?_) (fun h5 => ?_)
          · (try simp only [cx, ne_eq] at h5)
            try (exfalso; (first | omega | exact h5 trivial | contradiction); done)
            all_goals
            refine SatC.seq ?_
            refine SatC.region ?_
            refine SatL.pu (RunV.assign rfl) rfl ?_
            refine SatL.nil (SatE.thenC ?_)
            refine SatC.ret (SatE.then_ret (SatE.blk_ret (SatE.then_ret (SatE.then_ret (SatE.blk_ret (SatE.then_ret ?_))))))
            refine SatE.ret1 rfl rfl ?_
            first | exact ⟨rfl, hS.sb (by repeat constructor)⟩ | (exfalso; have := hal4 (by assumption); dsimp only at this; omega) | (exfalso; exact (by assumption : ¬ _ = _) (by first | exact (hal4 (by assumption)).2 | exact congrArg (fun u : Upd => (⟨u.n, u.i, u.s⟩ : Upd)) (hal4 (by assumption)).2)) | (exfalso; exact absurd (haln (by assumption) (by assumption)).1 (by rw [Bool.not_eq_false]; assumption)) | (exfalso; rcases (haln (by assumption) (by assumption)).2 with e | e <;> first | exact absurd e (by assumption) | exact absurd e (by rw [Bool.not_eq_true]; assumption)) | (exfalso; clear hS; trace_state; sorry)
          · (try simp only [cx, ne_eq] at h5)
            try (exfalso; (first | omega | exact h5 trivial | contradiction); done)
            all_goals
            refine SatC.skip (SatE.thenC ?_)
            refine SatC.seq ?_
            refine SatC.seq ?_
            refine SatC.region ?_
            first | refine SatL.pu (RunV.fieldAddrL rfl rfl rfl) rfl ?_ | refine SatL.pu (RunV.fieldAddr rfl rfl rfl) rfl ?_
            refine SatL.pu (RunV.load1 hS rfl rfl (by repeat constructor) rfl) rfl ?_
            refine SatL.pu (RunV.eql rfl rfl) rfl ?_
            refine SatL.nil (SatE.thenC ?_)
            refine SatC.cond rfl (fun h6 => ?_) (fun h6 => ?_)
            · (try simp only [cx, ne_eq] at h6)
              try (exfalso; (first | omega | exact h6 trivial | contradiction); done)
              all_goals
              refine SatC.seq ?_
              refine SatC.seq ?_
              refine SatC.region ?_
              first | refine SatL.pu (RunV.fieldAddrL rfl rfl rfl) rfl ?_ | refine SatL.pu (RunV.fieldAddr rfl rfl rfl) rfl ?_
              refine SatL.pu (RunV.load1 hS rfl rfl (by repeat constructor) rfl) rfl ?_
              refine SatL.pu (RunV.neq rfl rfl) rfl ?_
              refine SatL.pu (RunV.move rfl) rfl ?_
              refine SatL.guard rfl rfl rfl (fun h7 => ?_) (fun h7 => ?_)
              · (try simp only [cx, ne_eq] at h7)
                try (exfalso; (first | omega | exact h7 trivial | contradiction); done)
                all_goals
                first | refine SatL.pu (RunV.fieldAddrL rfl rfl rfl) rfl ?_ | refine SatL.pu (RunV.fieldAddr rfl rfl rfl) rfl ?_
                refine SatL.guard_y rfl rfl ?_
                refine SatL.pu (RunV.load1 hS rfl rfl (by repeat constructor) rfl) rfl ?_
                refine SatL.guard_y rfl rfl ?_
                refine SatL.pu (RunV.neq rfl rfl) rfl ?_
                refine SatL.pu (RunV.pick_t rfl rfl) rfl ?_
                refine SatL.pu (RunV.move rfl) rfl ?_
                refine SatL.guard rfl rfl rfl (fun h8 => ?_) (fun h8 => ?_)
                · (try simp only [cx, ne_eq] at h8)
                  try (exfalso; (first | omega | exact h8 trivial | contradiction); done)
                  all_goals
                  refine SatL.pu (RunV.loadN hS rfl rfl (by repeat constructor) (by repeat constructor)) rfl ?_
                  refine SatL.guard_y rfl rfl ?_
                  refine SatL.pu (RunV.loadN hS rfl rfl (by repeat constructor) (by repeat constructor)) rfl ?_
                  refine SatL.guard_y rfl rfl ?_
                  refine SatL.pu (RunV.bin rfl rfl (guard24 _ _ _ _ _ _ _ _ _ _) (run_neq24 _ _ _ _ _ _ _)) rfl ?_
                  refine SatL.pu (RunV.pick_f rfl rfl) rfl ?_
                  refine SatL.nil (SatE.thenC ?_)
                  refine SatC.weak (e' := [(2, _), (6, _), (7, _), (8, _), (10, _), (73, _)]) (by repeat constructor) ?_
                  refine SatC.cond rfl (fun h9 => ?_) (fun h9 => ?_)
                  · (try simp only [cx, ne_eq] at h9)
                    try (exfalso; (first | omega | exact h9 trivial | contradiction); done)
                    all_goals
                    refine SatC.seq ?_
                    refine SatC.region ?_
                    refine SatL.pu (RunV.assign rfl) rfl ?_
                    refine SatL.nil (SatE.thenC ?_)
                    refine SatC.ret (SatE.then_ret (SatE.then_ret (SatE.blk_ret (SatE.then_ret (SatE.then_ret (SatE.blk_ret (SatE.then_ret ?_)))))))
                    refine SatE.ret1 rfl rfl ?_
                    first | exact ⟨rfl, hS.sb (by repeat constructor)⟩ | (exfalso; have := hal4 (by assumption); dsimp only at this; omega) | (exfalso; exact (by assumption : ¬ _ = _) (by first | exact (hal4 (by assumption)).2 | exact congrArg (fun u : Upd => (⟨u.n, u.i, u.s⟩ : Upd)) (hal4 (by assumption)).2)) | (exfalso; exact absurd (haln (by assumption) (by assumption)).1 (by rw [Bool.not_eq_false]; assumption)) | (exfalso; rcases (haln (by assumption) (by assumption)).2 with e | e <;> first | exact absurd e (by assumption) | exact absurd e (by rw [Bool.not_eq_true]; assumption)) | (exfalso; clear hS; trace_state; sorry)
                  · (try simp only [cx, ne_eq] at h9)
                    try (exfalso; (first | omega | exact h9 trivial | contradiction); done)
                    all_goals
                    refine SatC.skip (SatE.thenC ?_)
                    refine SatC.exit (SatE.then_exit (SatE.blk_exit (SatE.thenC ?_)))
                    refine SatC.region ?_
                    refine SatL.pu (RunV.move rfl) rfl ?_
                    refine SatL.pu (RunV.add rfl rfl (by first | exact wrapI64 (by omega) | rfl)) rfl ?_
                    refine SatL.pu (RunV.assign rfl) rfl ?_
                    refine SatL.nil ?_
                    refine SatE.again ((i + 1, r.2, o2)) ?_ (by first | omega | (dsimp only; omega)) (by repeat constructor)
                    exact ⟨by omega, by omega, ho2, hib2, hcs2, hS.sb (by repeat constructor)⟩
                · (try simp only [cx, ne_eq] at h8)
                  try (exfalso; (first | omega | exact h8 trivial | contradiction); done)
                  all_goals
                  refine SatL.guard_n rfl rfl rfl rfl ?_
                  refine SatL.guard_n rfl rfl rfl rfl ?_
                  refine SatL.pu (RunV.pick_t rfl rfl) rfl ?_
                  refine SatL.nil (SatE.thenC ?_)
                  refine SatC.weak (e' := [(2, _), (6, _), (7, _), (8, _), (10, _), (73, _)]) (by repeat constructor) ?_
                  refine SatC.cond_t rfl ?_
                  refine SatC.seq ?_
                  refine SatC.region ?_
                  refine SatL.pu (RunV.assign rfl) rfl ?_
                  refine SatL.nil (SatE.thenC ?_)
                  refine SatC.ret (SatE.then_ret (SatE.then_ret (SatE.blk_ret (SatE.then_ret (SatE.then_ret (SatE.blk_ret (SatE.then_ret ?_)))))))
                  refine SatE.ret1 rfl rfl ?_
                  first | exact ⟨rfl, hS.sb (by repeat constructor)⟩ | (exfalso; have := hal4 (by assumption); dsimp only at this; omega) | (exfalso; exact (by assumption : ¬ _ = _) (by first | exact (hal4 (by assumption)).2 | exact congrArg (fun u : Upd => (⟨u.n, u.i, u.s⟩ : Upd)) (hal4 (by assumption)).2)) | (exfalso; exact absurd (haln (by assumption) (by assumption)).1 (by rw [Bool.not_eq_false]; assumption)) | (exfalso; rcases (haln (by assumption) (by assumption)).2 with e | e <;> first | exact absurd e (by assumption) | exact absurd e (by rw [Bool.not_eq_true]; assumption)) | (exfalso; clear hS; trace_state; sorry)
              · (try simp only [cx, ne_eq] at h7)
                try (exfalso; (first | omega | exact h7 trivial | contradiction); done)
                all_goals
                refine SatL.guard_n rfl rfl rfl rfl ?_
                refine SatL.guard_n rfl rfl rfl rfl ?_
                refine SatL.pu (RunV.pick_f rfl rfl) rfl ?_
                refine SatL.pu (RunV.move rfl) rfl ?_
                refine SatL.guard_y rfl rfl ?_
                refine SatL.pu (RunV.loadN hS rfl rfl (by repeat constructor) (by repeat constructor)) rfl ?_
                refine SatL.guard_y rfl rfl ?_
                refine SatL.pu (RunV.loadN hS rfl rfl (by repeat constructor) (by repeat constructor)) rfl ?_
                refine SatL.guard_y rfl rfl ?_
                refine SatL.pu (RunV.bin rfl rfl (guard24 _ _ _ _ _ _ _ _ _ _) (run_neq24 _ _ _ _ _ _ _)) rfl ?_
                refine SatL.pu (RunV.pick_f rfl rfl) rfl ?_
                refine SatL.nil (SatE.thenC ?_)
                refine SatC.weak (e' := [(2, _), (6, _), (7, _), (8, _), (10, _), (73, _)]) (by repeat constructor) ?_
                refine SatC.cond rfl (fun h8 => ?_) (fun h8 => ?_)
                · (try simp only [cx, ne_eq] at h8)
                  try (exfalso; (first | omega | exact h8 trivial | contradiction); done)
                  all_goals
                  refine SatC.seq ?_
                  refine SatC.region ?_
                  refine SatL.pu (RunV.assign rfl) rfl ?_
                  refine SatL.nil (SatE.thenC ?_)
                  refine SatC.ret (SatE.then_ret (SatE.then_ret (SatE.blk_ret (SatE.then_ret (SatE.then_ret (SatE.blk_ret (SatE.then_ret ?_)))))))
                  refine SatE.ret1 rfl rfl ?_
                  first | exact ⟨rfl, hS.sb (by repeat constructor)⟩ | (exfalso; have := hal4 (by assumption); dsimp only at this; omega) | (exfalso; exact (by assumption : ¬ _ = _) (by first | exact (hal4 (by assumption)).2 | exact congrArg (fun u : Upd => (⟨u.n, u.i, u.s⟩ : Upd)) (hal4 (by assumption)).2)) | (exfalso; exact absurd (haln (by assumption) (by assumption)).1 (by rw [Bool.not_eq_false]; assumption)) | (exfalso; rcases (haln (by assumption) (by assumption)).2 with e | e <;> first | exact absurd e (by assumption) | exact absurd e (by rw [Bool.not_eq_true]; assumption)) | (exfalso; clear hS; trace_state; sorry)
                · (try simp only [cx, ne_eq] at h8)
                  try (exfalso; (first | omega | exact h8 trivial | contradiction); done)
                  all_goals
                  refine SatC.skip (SatE.thenC ?_)
                  refine SatC.exit (SatE.then_exit (SatE.blk_exit (SatE.thenC ?_)))
                  refine SatC.region ?_
                  refine SatL.pu (RunV.move rfl) rfl ?_
                  refine SatL.pu (RunV.add rfl rfl (by first | exact wrapI64 (by omega) | rfl)) rfl ?_
                  refine SatL.pu (RunV.assign rfl) rfl ?_
                  refine SatL.nil ?_
                  refine SatE.again ((i + 1, r.2, o2)) ?_ (by first | omega | (dsimp only; omega)) (by repeat constructor)
                  exact ⟨by omega, by omega, ho2, hib2, hcs2, hS.sb (by repeat constructor)⟩
            · (try simp only [cx, ne_eq] at h6)
              try (exfalso; (first | omega | exact h6 trivial | contradiction); done)
              all_goals
              refine SatC.skip (SatE.thenC ?_)
              refine SatC.seq ?_
              refine SatC.region ?_
              refine SatL.pu (RunV.loadN hS rfl rfl (by repeat constructor) (by repeat constructor)) rfl ?_
              refine SatL.op rfl (OpW.enter rfl rfl rfl (rfl) (right_any _ _ _ _) ?_)
              rintro r15 w15 ⟨rfl, h⟩
              replace hS := St.callN hS h
              refine SatL.pu (RunV.move rfl) rfl ?_
              refine SatL.guard rfl rfl rfl (fun h7 => ?_) (fun h7 => ?_)
              · (try simp only [cx, ne_eq] at h7)
                try (exfalso; (first | omega | exact h7 trivial | contradiction); done)
                all_goals
                refine SatL.pu (RunV.loadN hS rfl rfl (by repeat constructor) (by repeat constructor)) rfl ?_
                refine SatL.guard_y rfl rfl ?_
                refine SatL.pu (RunV.loadN hS rfl rfl (by repeat constructor) (by repeat constructor)) rfl ?_
                refine SatL.guard_y rfl rfl ?_
                refine SatL.op rfl (OpW.enter rfl rfl rfl (rfl) (above_any _ _ _ _ _ _ _) ?_)
                rintro r16 w16 ⟨rfl, h⟩
                replace hS := St.callN hS h
                refine SatL.guard_y rfl rfl ?_
                refine SatL.pu (RunV.move rfl) rfl ?_
                refine SatL.guard rfl rfl rfl (fun h8 => ?_) (fun h8 => ?_)
                · (try simp only [cx, ne_eq] at h8)
                  try (exfalso; (first | omega | exact h8 trivial | contradiction); done)
                  all_goals
                  refine SatL.pu (RunV.loadN hS rfl rfl (by repeat constructor) (by repeat constructor)) rfl ?_
                  refine SatL.guard_y rfl rfl ?_
                  refine SatL.pu (RunV.loadN hS rfl rfl (by repeat constructor) (by repeat constructor)) rfl ?_
                  refine SatL.guard_y rfl rfl ?_
                  refine SatL.pu (RunV.bin rfl rfl (guard24 _ _ _ _ _ _ _ _ _ _) (run_neq24 _ _ _ _ _ _ _)) rfl ?_
                  refine SatL.guard_y rfl rfl ?_
                  refine SatL.pu (RunV.move rfl) rfl ?_
                  refine SatL.guard rfl rfl rfl (fun h9 => ?_) (fun h9 => ?_)
                  · (try simp only [cx, ne_eq] at h9)
                    try (exfalso; (first | omega | exact h9 trivial | contradiction); done)
                    all_goals
                    refine SatL.pu (RunV.loadN hS rfl rfl (by repeat constructor) (by repeat constructor)) rfl ?_
                    refine SatL.guard_y rfl rfl ?_
                    refine SatL.pu (RunV.loadN hS rfl rfl (by repeat constructor) (by repeat constructor)) rfl ?_
                    refine SatL.guard_y rfl rfl ?_
                    refine SatL.op rfl (OpW.enter rfl rfl rfl (rfl) (above_any _ _ _ _ _ _ _) ?_)
                    rintro r17 w17 ⟨rfl, h⟩
                    replace hS := St.callN hS h
                    refine SatL.guard_y rfl rfl ?_
                    refine SatL.pu (RunV.not rfl) rfl ?_
                    refine SatL.guard_y rfl rfl ?_
                    refine SatL.pu (RunV.pick_t rfl rfl) rfl ?_
                    refine SatL.guard_y rfl rfl ?_
                    refine SatL.pu (RunV.pick_f rfl rfl) rfl ?_
                    refine SatL.pu (RunV.pick_t rfl rfl) rfl ?_
                    refine SatL.nil (SatE.thenC ?_)
                    refine SatC.weak (e' := [(2, _), (6, _), (7, _), (8, _), (10, _), (91, _)]) (by repeat constructor) ?_
                    refine SatC.cond rfl (fun h10 => ?_) (fun h10 => ?_)
                    · (try simp only [cx, ne_eq] at h10)
                      try (exfalso; (first | omega | exact h10 trivial | contradiction); done)
                      all_goals
                      refine SatC.seq ?_
                      refine SatC.region ?_
                      refine SatL.pu (RunV.assign rfl) rfl ?_
                      refine SatL.nil (SatE.thenC ?_)
                      refine SatC.ret (SatE.blk_ret (SatE.then_ret (SatE.then_ret (SatE.blk_ret (SatE.then_ret ?_)))))
                      refine SatE.ret1 rfl rfl ?_
                      first | exact ⟨rfl, hS.sb (by repeat constructor)⟩ | (exfalso; have := hal4 (by assumption); dsimp only at this; omega) | (exfalso; exact (by assumption : ¬ _ = _) (by first | exact (hal4 (by assumption)).2 | exact congrArg (fun u : Upd => (⟨u.n, u.i, u.s⟩ : Upd)) (hal4 (by assumption)).2)) | (exfalso; exact absurd (haln (by assumption) (by assumption)).1 (by rw [Bool.not_eq_false]; assumption)) | (exfalso; rcases (haln (by assumption) (by assumption)).2 with e | e <;> first | exact absurd e (by assumption) | exact absurd e (by rw [Bool.not_eq_true]; assumption)) | (exfalso; clear hS; trace_state; sorry)
                    · (try simp only [cx, ne_eq] at h10)
                      try (exfalso; (first | omega | exact h10 trivial | contradiction); done)
                      all_goals
                      refine SatC.skip (SatE.blk_normal (SatE.thenC ?_))
                      refine SatC.region ?_
                      refine SatL.pu (RunV.move rfl) rfl ?_
                      refine SatL.pu (RunV.add rfl rfl (by first | exact wrapI64 (by omega) | rfl)) rfl ?_
                      refine SatL.pu (RunV.assign rfl) rfl ?_
                      refine SatL.nil ?_
                      refine SatE.again ((i + 1, r.2, o2)) ?_ (by first | omega | (dsimp only; omega)) (by repeat constructor)
                      exact ⟨by omega, by omega, ho2, hib2, hcs2, hS.sb (by repeat constructor)⟩
                  · (try simp only [cx, ne_eq] at h9)
                    try (exfalso; (first | omega | exact h9 trivial | contradiction); done)
                    all_goals
                    refine SatL.guard_n rfl rfl rfl rfl ?_
                    refine SatL.guard_n rfl rfl rfl rfl ?_
                    refine SatL.guard_n rfl rfl rfl rfl ?_
                    refine SatL.guard_y rfl rfl ?_
                    refine SatL.pu (RunV.pick_f rfl rfl) rfl ?_
                    refine SatL.guard_y rfl rfl ?_
                    refine SatL.pu (RunV.pick_f rfl rfl) rfl ?_
                    refine SatL.pu (RunV.pick_t rfl rfl) rfl ?_
                    refine SatL.nil (SatE.thenC ?_)
                    refine SatC.weak (e' := [(2, _), (6, _), (7, _), (8, _), (10, _), (91, _)]) (by repeat constructor) ?_
                    refine SatC.cond_f rfl ?_
                    refine SatC.skip (SatE.blk_normal (SatE.thenC ?_))
                    refine SatC.region ?_
                    refine SatL.pu (RunV.move rfl) rfl ?_
                    refine SatL.pu (RunV.add rfl rfl (by first | exact wrapI64 (by omega) | rfl)) rfl ?_
                    refine SatL.pu (RunV.assign rfl) rfl ?_
                    refine SatL.nil ?_
                    refine SatE.again ((i + 1, r.2, o2)) ?_ (by first | omega | (dsimp only; omega)) (by repeat constructor)
                    exact ⟨by omega, by omega, ho2, hib2, hcs2, hS.sb (by repeat constructor)⟩
                · (try simp only [cx, ne_eq] at h8)
                  try (exfalso; (first | omega | exact h8 trivial | contradiction); done)
                  all_goals
                  refine SatL.guard_n rfl rfl rfl rfl ?_
                  refine SatL.guard_n rfl rfl rfl rfl ?_
                  refine SatL.guard_n rfl rfl rfl rfl ?_
                  refine SatL.guard_u rfl rfl rfl ?_
                  refine SatL.guard_u rfl rfl rfl ?_
                  refine SatL.guard_u rfl rfl rfl ?_
                  refine SatL.guard_u rfl rfl rfl ?_
                  refine SatL.guard_n rfl rfl rfl rfl ?_
                  refine SatL.guard_y rfl rfl ?_
                  refine SatL.pu (RunV.pick_t rfl rfl) rfl ?_
                  refine SatL.pu (RunV.pick_t rfl rfl) rfl ?_
                  refine SatL.nil (SatE.thenC ?_)
                  refine SatC.weak (e' := [(2, _), (6, _), (7, _), (8, _), (10, _), (91, _)]) (by repeat constructor) ?_
                  refine SatC.cond_t rfl ?_
                  refine SatC.seq ?_
                  refine SatC.region ?_
                  refine SatL.pu (RunV.assign rfl) rfl ?_
                  refine SatL.nil (SatE.thenC ?_)
                  refine SatC.ret (SatE.blk_ret (SatE.then_ret (SatE.then_ret (SatE.blk_ret (SatE.then_ret ?_)))))
                  refine SatE.ret1 rfl rfl ?_
                  first | exact ⟨rfl, hS.sb (by repeat constructor)⟩ | (exfalso; have := hal4 (by assumption); dsimp only at this; omega) | (exfalso; exact (by assumption : ¬ _ = _) (by first | exact (hal4 (by assumption)).2 | exact congrArg (fun u : Upd => (⟨u.n, u.i, u.s⟩ : Upd)) (hal4 (by assumption)).2)) | (exfalso; exact absurd (haln (by assumption) (by assumption)).1 (by rw [Bool.not_eq_false]; assumption)) | (exfalso; rcases (haln (by assumption) (by assumption)).2 with e | e <;> first | exact absurd e (by assumption) | exact absurd e (by rw [Bool.not_eq_true]; assumption)) | (exfalso; clear hS; trace_state; sorry)
              · (try simp only [cx, ne_eq] at h7)
                try (exfalso; (first | omega | exact h7 trivial | contradiction); done)
                all_goals
                refine SatL.guard_n rfl rfl rfl rfl ?_
                refine SatL.guard_n rfl rfl rfl rfl ?_
                refine SatL.guard_n rfl rfl rfl rfl ?_
                refine SatL.guard_u rfl rfl rfl ?_
                refine SatL.guard_u rfl rfl rfl ?_
                refine SatL.guard_u rfl rfl rfl ?_
                refine SatL.guard_u rfl rfl rfl ?_
                refine SatL.guard_u rfl rfl rfl ?_
                refine SatL.guard_u rfl rfl rfl ?_
                refine SatL.guard_u rfl rfl rfl ?_
                refine SatL.guard_u rfl rfl rfl ?_
                refine SatL.guard_u rfl rfl rfl ?_
                refine SatL.guard_n rfl rfl rfl rfl ?_
                refine SatL.pu (RunV.pick_f rfl rfl) rfl ?_
                refine SatL.nil (SatE.thenC ?_)
                refine SatC.weak (e' := [(2, _), (6, _), (7, _), (8, _), (10, _), (91, _)]) (by repeat constructor) ?_
                refine SatC.cond_f rfl ?_
                refine SatC.skip (SatE.blk_normal (SatE.thenC ?_))
                refine SatC.region ?_
                refine SatL.pu (RunV.move rfl) rfl ?_
                refine SatL.pu (RunV.add rfl rfl (by first | exact wrapI64 (by omega) | rfl)) rfl ?_
                refine SatL.pu (RunV.assign rfl) rfl ?_
                refine SatL.nil ?_
                refine SatE.again ((i + 1, r.2, o2)) ?_ (by first | omega | (dsimp only; omega)) (by repeat constructor)
                exact ⟨by omega, by omega, ho2, hib2, hcs2, hS.sb (by repeat constructor)⟩
        · (try simp only [cx, ne_eq] at h4)
          try (exfalso; (first | omega | exact h4 trivial | contradiction); done)
          all_goals
          refine SatL.guard_n rfl rfl rfl rfl ?_
          refine SatL.guard_n rfl rfl rfl rfl ?_
          refine SatL.guard_n rfl rfl rfl rfl ?_
          refine SatL.pu (RunV.pick_t rfl rfl) rfl ?_
          refine SatL.nil (SatE.thenC ?_)
          refine SatC.weak (e' := [(2, _), (6, _), (7, _), (8, _), (10, _), (11, _), (12, _), (13, _), (14, _), (57, _)]) (by repeat constructor) ?_
          refine SatC.cond_t rfl ?_
          refine SatC.seq ?_
          refine SatC.region ?_
          refine SatL.pu (RunV.assign rfl) rfl ?_
          refine SatL.nil (SatE.thenC ?_)
          refine SatC.ret (SatE.then_ret (SatE.blk_ret (SatE.then_ret (SatE.then_ret (SatE.blk_ret (SatE.then_ret ?_))))))
          refine SatE.ret1 rfl rfl ?_
          first | exact ⟨rfl, hS.sb (by repeat constructor)⟩ | (exfalso; have := hal4 (by assumption); dsimp only at this; omega) | (exfalso; exact (by assumption : ¬ _ = _) (by first | exact (hal4 (by assumption)).2 | exact congrArg (fun u : Upd => (⟨u.n, u.i, u.s⟩ : Upd)) (hal4 (by assumption)).2)) | (exfalso; exact absurd (haln (by assumption) (by assumption)).1 (by rw [Bool.not_eq_false]; assumption)) | (exfalso; rcases (haln (by assumption) (by assumption)).2 with e | e <;> first | exact absurd e (by assumption) | exact absurd e (by rw [Bool.not_eq_true]; assumption)) | (exfalso; clear hS; trace_state; sorry)
      · (try simp only [cx, ne_eq] at h3)
        try (exfalso; (first | omega | exact h3 trivial | contradiction); done)
        all_goals
        refine SatC.exit (SatE.then_exit (SatE.then_exit (SatE.blk_exit (SatE.thenC ?_))))
        refine SatC.seq ?_
        refine SatC.weak (e' := [(6, _)]) (by repeat constructor) ?_
        refine SatC.region ?_
        refine SatL.op rfl (OpW.enter rfl rfl rfl (rfl) (works_any _) ?_)
        rintro r3 w3 ⟨rfl, h⟩
        replace hS := St.callN hS h
        refine SatL.pu (RunV.assign rfl) rfl ?_
        refine SatL.nil (SatE.thenC ?_)
        refine SatC.ret ?_
        refine SatE.ret1 rfl rfl ?_
        first | exact ⟨rfl, hS.sb (by repeat constructor)⟩ | (exfalso; have := hal4 (by assumption); dsimp only at this; omega) | (exfalso; exact (by assumption : ¬ _ = _) (by first | exact (hal4 (by assumption)).2 | exact congrArg (fun u : Upd => (⟨u.n, u.i, u.s⟩ : Upd)) (hal4 (by assumption)).2)) | (exfalso; exact absurd (haln (by assumption) (by assumption)).1 (by rw [Bool.not_eq_false]; assumption)) | (exfalso; rcases (haln (by assumption) (by assumption)).2 with e | e <;> first | exact absurd e (by assumption) | exact absurd e (by rw [Bool.not_eq_true]; assumption)) | (exfalso; clear hS; trace_state; sorry)
    · (try simp only [cx, ne_eq] at h2)
      try (exfalso; (first | omega | exact h2 trivial | contradiction); done)
      all_goals
      refine SatL.guard_n rfl rfl rfl rfl ?_
      refine SatL.pu (RunV.pick_f rfl rfl) rfl ?_
      refine SatL.nil (SatE.thenC ?_)
      refine SatC.cond_f rfl ?_
      refine SatC.exit (SatE.then_exit (SatE.then_exit (SatE.blk_exit (SatE.thenC ?_))))
      refine SatC.seq ?_
      refine SatC.weak (e' := [(6, _)]) (by repeat constructor) ?_
      refine SatC.region ?_
      refine SatL.op rfl (OpW.enter rfl rfl rfl (rfl) (works_any _) ?_)
      rintro r3 w3 ⟨rfl, h⟩
      replace hS := St.callN hS h
      refine SatL.pu (RunV.assign rfl) rfl ?_
      refine SatL.nil (SatE.thenC ?_)
      refine SatC.ret ?_
      refine SatE.ret1 rfl rfl ?_
      first | exact ⟨rfl, hS.sb (by repeat constructor)⟩ | (exfalso; have := hal4 (by assumption); dsimp only at this; omega) | (exfalso; exact (by assumption : ¬ _ = _) (by first | exact (hal4 (by assumption)).2 | exact congrArg (fun u : Upd => (⟨u.n, u.i, u.s⟩ : Upd)) (hal4 (by assumption)).2)) | (exfalso; exact absurd (haln (by assumption) (by assumption)).1 (by rw [Bool.not_eq_false]; assumption)) | (exfalso; rcases (haln (by assumption) (by assumption)).2 with e | e <;> first | exact absurd e (by assumption) | exact absurd e (by rw [Bool.not_eq_true]; assumption)) | (exfalso; clear hS; trace_state; sorry)
theorem rollAlive_lifted (os : Os) (started : os.Started) (H : Type) (enc : TypeId × Value → H) :
    ReturnsInHanded {} Try.checked os 3 .any (Rows.rollAliveSpec.pre6 enc Try.prog Try.f3 Rows.rollAliveRow.domain false) (Rows.rollAliveSpec.post enc Try.prog Try.f3 false true false false) := by
  refine law_returns (C := Try.checked) (b := 4) (by kernel_rfl) started (by kernel_rfl) Try.func3
    (ChangeSpec.witness6 (enc := enc) (C := Try.checked) false ⟨#[], #[.int .u8 0, .int .u32 0, .slice none 0 0], []⟩ 8 (by kernel_rfl) (by kernel_rfl) (by kernel_rfl) (by kernel_rfl))
    rfl rfl (by kernel_rfl) (by kernel_rfl) (by kernel_rfl) (fun ds h => ?_) ?_
  · rw [Try.params3] at h
    match ds, h with
    | [_, _, _], _ => rfl
  intro W base args ds ps hval hA hsz
  rw [Try.params3] at hA hval
  obtain ⟨v0, v1, v2, d0, d1, d2, q0, q1, q2, hargs, rfl, rfl, h0, h1, h2⟩ := trodAll_three hA
  subst hargs
  obtain ⟨a0, rfl, rfl, rfl, b0⟩ := open_int Try.underlying5 (hval 0 5 v0 rfl rfl) h0
  replace b0 := bnd_u8 b0
  obtain ⟨a1, rfl, rfl, rfl, b1⟩ := open_int Try.underlying22 (hval 1 22 v1 rfl rfl) h1
  replace b1 := bnd_u32 b1
  obtain ⟨xs2, hr2, hx2⟩ := open_rows (l := [3, 22, 3]) 6 Try.underlying23 (by kernel_rfl) (by kernel_rfl) (by decide) (hval 2 23 v2 rfl rfl) h2
  obtain ⟨ys2, rfl, hy2⟩ := rows_map (enc' := ru) (q := fun y => 0 ≤ y.2.1 ∧ y.2.1 ≤ 4294967295) (fun r hr => by
    obtain ⟨u0, u1, u2, rfl, l0, l1, l2⟩ := allLeaf_list3 hr
    obtain ⟨n0, rfl, e0⟩ := leaf_int Try.underlying3 l0
    obtain ⟨n1, rfl, e1⟩ := leaf_int Try.underlying22 l1
    obtain ⟨n2, rfl, e2⟩ := leaf_int Try.underlying3 l2
    exact ⟨⟨n0, n1, n2⟩, rfl, bnd_u32 e1⟩) xs2 hx2
  exact law_done (alive_any a0 a1 _ ys2 W b0 b1 hr2 hy2)
theorem rollAlive_holds : Rows.RollAliveSaid :=
  OpenClaim.holds_of_wide 3 Try.f3 rfl rfl rfl rfl rfl rfl rfl ⟨rfl, rfl, rfl, rfl, rfl⟩ rfl rfl rfl rfl rfl (by kernel_rfl) Try.func3 (by kernel_rfl)
    (of_decide_eq_true (by kernel_rfl)) (by unfold Func.isWrapper; first | (rw [if_pos (by decide +kernel)]; kernel_rfl) | (rw [if_neg (by decide +kernel)]; exact ⟨rfl, rfl⟩))
    (fun os started H enc _ => rollAlive_lifted os started H enc)
end Go.Proofs.Ytpbfjadkimojeaa
