/- RollPlays: whatever is said, and whenever it leaves, a roll believes, and tells of each change, what the document says. -/
import Derived.Test.YtpbfjadkimojeaaW
import Derived.Test.YtpbfjadkimojeaaPl
import Derived.Test.YtpbfjadkimojeaaK7
import Derived.Test.YtpbfjadkimojeaaK16
import Derived.Test.YtpbfjadkimojeaaRows
set_option linter.unusedSimpArgs false
set_option linter.unusedVariables false
set_option maxRecDepth 100000
set_option maxHeartbeats 8000000
namespace Go.Proofs.Ytpbfjadkimojeaa
open Go.RowKit Go.ChangeShapes Go.WideShapes Go.ChangeAt
@[reducible] def sr (y : Int × Upd) : List Value := [.int .i64 y.1, .int .i64 y.2.n, .int .u32 y.2.i, .int .i64 y.2.s]
theorem run_neq32 (k n i s p q r k' n' i' s' p' q' r' : Int) (w : World) : (binOp .neq 32 (.agg #[.int .i64 k, .int .i64 n, .int .u32 i, .int .i64 s, .int .i64 p, .int .u32 q, .int .i64 r]) (.agg #[.int .i64 k', .int .i64 n', .int .u32 i', .int .i64 s', .int .i64 p', .int .u32 q', .int .i64 r'])).run Try.prog w = .ok (.bool (decide (Chg.mk k ⟨n, i, s⟩ ⟨p, q, r⟩ ≠ ⟨k', ⟨n', i', s'⟩, ⟨p', q', r'⟩⟩))) w := by
  by_cases h0 : k = k' <;> by_cases h1 : n = n' <;> by_cases h2 : i = i' <;> by_cases h3 : s = s' <;> by_cases h4 : p = p' <;> by_cases h5 : q = q' <;> by_cases h6 : r = r' <;> simp [go_sem, h0, h1, h2, h3, h4, h5, h6]
theorem guard32 (op : BinOp) (x y : Operand) (k n i s p q r k' n' i' s' p' q' r' : Int) (w : World) : (eqGuard op 32 x y (.agg #[.int .i64 k, .int .i64 n, .int .u32 i, .int .i64 s, .int .i64 p, .int .u32 q, .int .i64 r]) (.agg #[.int .i64 k', .int .i64 n', .int .u32 i', .int .i64 s', .int .i64 p', .int .u32 q', .int .i64 r'])).run Try.prog w = .ok () w := by
  unfold eqGuard
  cases op <;> simp [go_sem]
theorem seen_len (m : Mem) : (seen m 8).length ≤ 8 := Nat.le_trans (List.length_filterMap_le ..) (by simp)
theorem inb_seen {m : Mem} (h : InB m) : ∀ x ∈ seen m 8, 0 ≤ x.i ∧ x.i ≤ 4294967295 := by
  intro x hx
  obtain ⟨k, _, e⟩ := List.mem_filterMap.1 hx
  have := inb_at h (k : Int)
  unfold at_ at this
  rw [e] at this
  exact this
theorem lv_len (m : Mem) : (lv (seen m 8)).length ≤ 8 := by unfold lv; rw [List.length_map]; exact Nat.le_trans (List.length_filter_le ..) (seen_len m)
theorem new_no (me i : Int) (w : World) (h : ¬ (0 ≤ me ∧ me < 8)) : Ret Try.prog 8 #[.int .i64 me, .int .u32 i] w fun v w' => v = .tuple #[.pointer none, .int .i64 2] ∧ St w [] [] w' := by
  have := new_any me i w
  simpa only [if_neg h] using this
theorem new_refno (me i : Int) (hi : 0 ≤ i ∧ i ≤ 4294967295) (w : World) (h : ¬ (0 ≤ me ∧ me < 8)) : Ret Try.prog 19 #[.int .i64 me, .int .u32 i] w fun v w' => v = .pointer none ∧ St w [] [] w' := by
  have := new_ref me i hi w
  simpa only [if_neg h] using this
theorem plays_any (me a : Int) (v : Value) (ys : List (Int × Upd)) (w : World) (ha : 0 ≤ a ∧ a ≤ 4294967295) (hr : RdRow w v 4 (ys.map sr)) (hys : ∀ y ∈ ys, 0 ≤ y.2.i ∧ y.2.i ≤ 4294967295) : Ret Try.prog 6 #[.int .i64 me, .int .u32 a, v] w fun u w' => u = .bool true ∧ St w [] [] w' := by
  have hS := St.init0 w
  obtain ⟨bl, ol, cl, hvl, hmaxl, hcl, hltl⟩ := hr.open
  simp only [List.length_map] at hvl hmaxl hltl
  by_cases hme : 0 ≤ me ∧ me < 8
  · refine Ret.enter Try.func6 Try.ntmps6 rfl rfl ?_
    simp only [argEnv, Nat.reduceAdd]
    refine SatC.seq ?_
    refine SatC.region ?_
    refine SatL.pu (RunV.assign rfl) rfl ?_
    refine SatL.nil (SatE.thenC ?_)
    refine SatC.seq ?_
    refine SatC.region ?_
    refine SatL.pu (RunV.move rfl) rfl ?_
    refine SatL.pu (RunV.move rfl) rfl ?_
    refine SatL.op rfl (OpW.enter rfl rfl rfl (rfl) (new_ok _ _ _ hme) ?_)
    rintro r1 w1 ⟨b, mb, o, rfl, ho, h⟩
    replace hS := hS.callT (A := []) (by repeat constructor) h
    refine SatL.pu (RunV.move rfl) rfl ?_
    refine SatL.pu (RunV.extract rfl rfl) rfl ?_
    refine SatL.pu (RunV.extract rfl rfl) rfl ?_
    refine SatL.pu (RunV.assign rfl) rfl ?_
    refine SatL.pu (RunV.assign rfl) rfl ?_
    refine SatL.nil (SatE.thenC ?_)
    refine SatC.seq ?_
    refine SatC.region ?_
    refine SatL.pu (RunV.move rfl) rfl ?_
    refine SatL.pu (RunV.move rfl) rfl ?_
    refine SatL.op rfl (OpW.enter rfl rfl rfl (rfl) (new_ref me a ha _) ?_)
    rintro r2 w2 hnew
    rw [if_pos hme] at hnew
    obtain ⟨rb, v0, B0, rfl, hsl0, h⟩ := hnew
    replace hS := hS.callT (A := []) (by repeat constructor) h
    refine SatL.pu (RunV.assign rfl) rfl ?_
    refine SatL.nil (SatE.thenC ?_)
    refine SatC.seq ?_
    refine SatC.seq ?_
    refine SatC.region ?_
    refine SatL.pu (RunV.move rfl) rfl ?_
    refine SatL.pu (RunV.eqlPtrNil rfl rfl rfl) rfl ?_
    refine SatL.nil (SatE.thenC ?_)
    refine SatC.weak (e' := [(2, _), (6, _), (7, _), (8, _), (9, _), (33, _)]) (by repeat constructor) ?_
    refine SatC.cond rfl (fun h1 => ?_) (fun h1 => ?_)
    · (try simp only [cx, ne_eq] at h1)
      try (exfalso; (first | omega | exact h1 trivial | contradiction | (first | cases h1 | exact h1 rfl)); done)
      all_goals
      refine SatC.seq ?_
      refine SatC.region ?_
      refine SatL.pu (RunV.move rfl) rfl ?_
      refine SatL.pu (RunV.eql rfl rfl) rfl ?_
      refine SatL.pu (RunV.move rfl) rfl ?_
      refine SatL.guard rfl rfl rfl (fun h2 => ?_) (fun h2 => ?_)
      · (try simp only [cx, ne_eq] at h2)
        try (exfalso; (first | omega | exact h2 trivial | contradiction | (first | cases h2 | exact h2 rfl)); done)
        all_goals
        refine SatL.pu (RunV.move rfl) rfl ?_
        refine SatL.guard_y rfl rfl ?_
        refine SatL.pu (RunV.eqlPtrNil rfl rfl rfl) rfl ?_
        refine SatL.pu (RunV.pick_t rfl rfl) rfl ?_
        refine SatL.pu (RunV.move rfl) rfl ?_
        refine SatL.guard rfl rfl rfl (fun h3 => ?_) (fun h3 => ?_)
        · (try simp only [cx, ne_eq] at h3)
          try (exfalso; (first | omega | exact h3 trivial | contradiction | (first | cases h3 | exact h3 rfl)); done)
          all_goals
          refine SatL.op rfl (OpW.enter rfl rfl rfl (rfl) (works_any _) ?_)
          rintro r3 w3 ⟨rfl, h⟩
          replace hS := St.callN hS h
          refine SatL.pu (RunV.pick_t rfl rfl) rfl ?_
          refine SatL.pu (RunV.assign rfl) rfl ?_
          refine SatL.nil (SatE.thenC ?_)
          refine SatC.ret (SatE.then_ret ?_)
          refine SatE.ret1 rfl rfl ?_
          exact ⟨rfl, hS.sel (by repeat constructor)⟩
        · (try simp only [cx, ne_eq] at h3)
          try (exfalso; (first | omega | exact h3 trivial | contradiction | (first | cases h3 | exact h3 rfl)); done)
          all_goals
          refine SatL.pu (RunV.pick_f rfl rfl) rfl ?_
          refine SatL.pu (RunV.assign rfl) rfl ?_
          refine SatL.nil (SatE.thenC ?_)
          refine SatC.ret (SatE.then_ret ?_)
          refine SatE.ret1 rfl rfl ?_
          exact ⟨rfl, hS.sel (by repeat constructor)⟩
      · (try simp only [cx, ne_eq] at h2)
        try (exfalso; (first | omega | exact h2 trivial | contradiction | (first | cases h2 | exact h2 rfl)); done)
        all_goals
        refine SatL.guard_n rfl rfl rfl rfl ?_
        refine SatL.pu (RunV.pick_f rfl rfl) rfl ?_
        refine SatL.pu (RunV.move rfl) rfl ?_
        refine SatL.guard_n rfl rfl rfl rfl ?_
        refine SatL.pu (RunV.pick_f rfl rfl) rfl ?_
        refine SatL.pu (RunV.assign rfl) rfl ?_
        refine SatL.nil (SatE.thenC ?_)
        refine SatC.ret (SatE.then_ret ?_)
        refine SatE.ret1 rfl rfl ?_
        exact ⟨rfl, hS.sel (by repeat constructor)⟩
    · (try simp only [cx, ne_eq] at h1)
      try (exfalso; (first | omega | exact h1 trivial | contradiction | (first | cases h1 | exact h1 rfl)); done)
      all_goals
      refine SatC.skip (SatE.thenC ?_)
      refine SatC.seq ?_
      refine SatC.seq ?_
      refine SatC.region ?_
      refine SatL.pu (RunV.move rfl) rfl ?_
      refine SatL.pu (RunV.neq rfl rfl) rfl ?_
      refine SatL.nil (SatE.thenC ?_)
      refine SatC.cond rfl (fun h2 => ?_) (fun h2 => ?_)
      · (try simp only [cx, ne_eq] at h2)
        try (exfalso; (first | omega | exact h2 trivial | contradiction | (first | cases h2 | exact h2 rfl)); done)
        all_goals
        refine SatC.seq ?_
        refine SatC.region ?_
        refine SatL.pu (RunV.assign rfl) rfl ?_
        refine SatL.nil (SatE.thenC ?_)
        refine SatC.ret (SatE.then_ret ?_)
        refine SatE.ret1 rfl rfl ?_
        exact ⟨rfl, hS.sel (by repeat constructor)⟩
      · (try simp only [cx, ne_eq] at h2)
        try (exfalso; (first | omega | exact h2 trivial | contradiction | (first | cases h2 | exact h2 rfl)); done)
        all_goals
        refine SatC.skip (SatE.thenC ?_)
        refine SatC.seq ?_
        refine SatC.seq ?_
        refine SatC.region ?_
        refine SatL.pu (RunV.assign rfl) rfl ?_
        refine SatL.nil (SatE.thenC ?_)
        refine SatC.block ?_
        refine SatC.loopK (G := Nat × Mem × Obj × Value × List (Nat × Obj)) (V := fun ⟨i, m, o1, v1, B1⟩ => [(10, .int .i64 (i : Int))]) (Cn := [(2, _), (7, _), (9, _), (6, _)]) (I := fun ⟨i, m, o1, v1, B1⟩ w' => i ≤ ys.length ∧ i ≤ 80 ∧ IsMp eI o1 (mv m) ∧ InB m ∧ WfM m ∧ Mine me m ∧ Sl 29 3 v1 ((seen m 8).map ud) B1 ∧ St w [] ([(b, C 63 (rc me mb)), (mb, o1)] ++ ((rb, C 54 (rf me v1)) :: B1)) w') (μ := fun ⟨i, m, o1, v1, B1⟩ => ys.length - i) (0, [(me, ⟨me, a, 0⟩)], o, v0, B0) ?_ (by repeat constructor) ?_
        · exact ⟨Nat.zero_le _, by omega, ho, by intro p hp; simp at hp; subst hp; exact ha, by intro p hp; simp at hp; subst hp; exact ⟨hme, rfl, Int.le_refl 0⟩, by unfold Mine look; rw [if_pos rfl]; rfl, by rw [seen_new me a hme]; exact hsl0, hS.sel (by repeat constructor)⟩
        clear hS
        rintro ⟨i, m, o1, v1, B1⟩ w3 ⟨hi, hi8, ho1, hib, hwf, hmi, hsl1, hS⟩
        refine SatC.weak (e' := [(2, _), (6, _), (7, _), (9, _), (10, _)]) (by repeat constructor) ?_
        refine SatC.seq ?_
        refine SatC.seq ?_
        refine SatC.region ?_
        refine SatL.pu (RunV.move rfl) rfl ?_
        refine SatL.pu (RunV.move rfl) rfl ?_
        first | refine SatL.pu (RunV.lenR (by assumption) rfl rfl) rfl ?_ | refine SatL.pu (RunV.lenS rfl rfl) rfl ?_
        refine SatL.pu (RunV.lss rfl rfl) rfl ?_
        refine SatL.pu (RunV.move rfl) rfl ?_
        refine SatL.guard rfl rfl rfl (fun h3 => ?_) (fun h3 => ?_)
        · (try simp only [cx, ne_eq] at h3)
          try (exfalso; (first | omega | exact h3 trivial | contradiction | (first | cases h3 | exact h3 rfl)); done)
          all_goals
          refine SatL.pu (RunV.move rfl) rfl ?_
          refine SatL.guard_y rfl rfl ?_
          refine SatL.pu (RunV.lss rfl rfl) rfl ?_
          refine SatL.pu (RunV.pick_t rfl rfl) rfl ?_
          refine SatL.nil (SatE.thenC ?_)
          refine SatC.cond rfl (fun h4 => ?_) (fun h4 => ?_)
          · (try simp only [cx, ne_eq] at h4)
            try (exfalso; (first | omega | exact h4 trivial | contradiction | (first | cases h4 | exact h4 rfl)); done)
            all_goals
            refine SatC.skip (SatE.thenC ?_)
            refine SatC.seq ?_
            refine SatC.block ?_
            refine SatC.merge (G := Mem × Obj × Value × List (Nat × Obj)) (V := fun ⟨m, o1, v1, B1⟩ => [(6, .bool false)]) (Cn := [(2, _), (7, _), (9, _), (10, _)]) (I := fun ⟨m, o1, v1, B1⟩ w' => IsMp eI o1 (mv m) ∧ InB m ∧ WfM m ∧ Mine me m ∧ Sl 29 3 v1 ((seen m 8).map ud) B1 ∧ St w [] ([(b, C 63 (rc me mb)), (mb, o1)] ++ ((rb, C 54 (rf me v1)) :: B1)) w') (by repeat constructor) ?_ ?_
            · skip
              refine SatC.seq ?_
              obtain ⟨y, hy⟩ := get_some ys i (by omega)
              have hyb := hys y (List.mem_of_getElem? hy)
              have hls := leave_same hwf hme hmi
              have has := apply_same hwf hme y.2
              refine SatC.region ?_
              refine SatL.pu (RunV.move rfl) rfl ?_
              refine SatL.pu (RunV.move rfl) rfl ?_
              first | refine SatL.pu (RunV.indexR (by assumption) rfl rfl rfl (by omega) (by omega) rfl) rfl ?_ | refine SatL.pu (RunV.indexS rfl rfl rfl (by omega) (by omega) rfl) rfl ?_
              first | refine SatL.pu (RunV.fieldAddrL rfl rfl rfl) rfl ?_ | refine SatL.pu (RunV.fieldAddr rfl rfl rfl) rfl ?_
              first | refine SatL.pu (RunV.loadR1f (RdC.st (by assumption) hS List.not_mem_nil) rfl rfl (by first | assumption | exact map_get (by assumption)) rfl) rfl ?_ | refine SatL.pu (RunV.loadR1f (Sl.rd (by assumption) hS (by repeat constructor)) rfl rfl (by first | assumption | exact map_get (by assumption)) rfl) rfl ?_
              refine SatL.pu (RunV.eql rfl rfl) rfl ?_
              refine SatL.nil (SatE.thenC ?_)
              refine SatC.weak (e' := [(2, _), (6, _), (7, _), (9, _), (10, _), (60, _)]) (by repeat constructor) ?_
              refine SatC.cond rfl (fun h5 => ?_) (fun h5 => ?_)
              · (try simp only [cx, ne_eq] at h5)
                try (exfalso; (first | omega | exact h5 trivial | contradiction | (first | cases h5 | exact h5 rfl)); done)
                all_goals
                refine SatC.seq ?_
                refine SatC.region ?_
                refine SatL.pu (RunV.move rfl) rfl ?_
                refine SatL.op rfl (OpW.enter rfl rfl rfl (rfl) (leave_any (me := me) (hS.ownT (by repeat constructor)) ho1) ?_)
                rintro r4 w4 ⟨rfl, o3, ho3, h⟩
                replace hS := hS.callT (A := [(b, C 63 (rc me mb)), (mb, o1)]) (by repeat constructor) h
                refine SatL.pu (RunV.move rfl) rfl ?_
                refine SatL.pu (RunV.extract rfl rfl) rfl ?_
                refine SatL.pu (RunV.extract rfl rfl) rfl ?_
                refine SatL.op rfl (OpW.alloc hS rfl rfl (by repeat constructor) ?_)
                clear hS
                intro b11 w5 _ hS
                refine SatL.op rfl (OpW.store hS rfl rfl (by repeat constructor) (by repeat constructor) (by repeat constructor) rfl rfl ?_)
                clear hS
                intro w6 hS
                refine SatL.pu (RunV.assign rfl) rfl ?_
                refine SatL.nil (SatE.thenC ?_)
                refine SatC.seq ?_
                refine SatC.region ?_
                refine SatL.pu (RunV.move rfl) rfl ?_
                refine SatL.op rfl (OpW.enter rfl rfl rfl (rfl) (leave_ref (l := seen m 8) (me := me) (v := v1) (B := B1) (hS.ownT (A := (rb, C 54 (rf me v1)) :: B1) (by repeat constructor)) hsl1 (seen_len m)) ?_)
                rintro r7 w7 ⟨rfl, v3, B3, hsl3, h⟩
                replace hS := hS.callT (A := (rb, C 54 (rf me v1)) :: B1) (by repeat constructor) h
                rw [hls.1] at hsl3 ⊢
                refine SatL.pu (RunV.move rfl) rfl ?_
                refine SatL.pu (RunV.extract rfl rfl) rfl ?_
                refine SatL.pu (RunV.extract rfl rfl) rfl ?_
                refine SatL.op rfl (OpW.alloc hS rfl rfl (by repeat constructor) ?_)
                clear hS
                intro b13 w8 _ hS
                refine SatL.op rfl (OpW.store hS rfl rfl (by repeat constructor) (by repeat constructor) (by repeat constructor) rfl rfl ?_)
                clear hS
                intro w9 hS
                refine SatL.pu (RunV.assign rfl) rfl ?_
                refine SatL.nil (SatE.thenC ?_)
                refine SatC.seq ?_
                refine SatC.region ?_
                refine SatL.pu (RunV.loadN hS rfl rfl (by repeat constructor) (by repeat constructor)) rfl ?_
                refine SatL.pu (RunV.loadN hS rfl rfl (by repeat constructor) (by repeat constructor)) rfl ?_
                refine SatL.pu (RunV.bin rfl rfl (guard24 _ _ _ _ _ _ _ _ _ _) (run_neq24 _ _ _ _ _ _ _)) rfl ?_
                refine SatL.pu (RunV.move rfl) rfl ?_
                refine SatL.guard rfl rfl rfl (fun h6 => ?_) (fun h6 => ?_)
                · (try simp only [cx, ne_eq] at h6)
                  try (exfalso; (first | omega | exact h6 trivial | contradiction | (first | cases h6 | exact h6 rfl)); done)
                  all_goals
                  refine SatL.pu (RunV.move rfl) rfl ?_
                  refine SatL.guard_y rfl rfl ?_
                  refine SatL.pu (RunV.move rfl) rfl ?_
                  refine SatL.guard_y rfl rfl ?_
                  refine SatL.pu (RunV.bneq rfl rfl rfl) rfl ?_
                  refine SatL.pu (RunV.pick_f rfl rfl) rfl ?_
                  refine SatL.nil (SatE.thenC ?_)
                  refine SatC.weak (e' := [(2, _), (6, _), (7, _), (9, _), (10, _), (78, _)]) (by repeat constructor) ?_
                  refine SatC.cond rfl (fun h7 => ?_) (fun h7 => ?_)
                  · (try simp only [cx, ne_eq] at h7)
                    try (exfalso; (first | omega | exact h7 trivial | contradiction | (first | cases h7 | exact h7 rfl)); done)
                    all_goals
                    refine SatC.seq ?_
                    refine SatC.region ?_
                    refine SatL.pu (RunV.assign rfl) rfl ?_
                    refine SatL.nil (SatE.thenC ?_)
                    refine SatC.ret (SatE.then_ret (SatE.blk_ret (SatE.then_ret (SatE.then_ret (SatE.blk_ret (SatE.then_ret ?_))))))
                    refine SatE.ret1 rfl rfl ?_
                    exact ⟨rfl, hS.sel (by repeat constructor)⟩
                  · (try simp only [cx, ne_eq] at h7)
                    try (exfalso; (first | omega | exact h7 trivial | contradiction | (first | cases h7 | exact h7 rfl)); done)
                    all_goals
                    refine SatC.skip ?_
                    refine SatE.met (((leaveC me m).2.2, o3, v3, B3)) ?_ (by repeat constructor)
                    exact ⟨ho3, inb_leave hib, hls.2, mine_leave hmi, hsl3, hS.sel (by repeat constructor)⟩
                · (try simp only [cx, ne_eq] at h6)
                  try (exfalso; (first | omega | exact h6 trivial | contradiction | (first | cases h6 | exact h6 rfl)); done)
                  all_goals
                  refine SatL.guard_n rfl rfl rfl rfl ?_
                  refine SatL.guard_n rfl rfl rfl rfl ?_
                  refine SatL.pu (RunV.pick_t rfl rfl) rfl ?_
                  refine SatL.nil (SatE.thenC ?_)
                  refine SatC.weak (e' := [(2, _), (6, _), (7, _), (9, _), (10, _), (78, _)]) (by repeat constructor) ?_
                  refine SatC.cond_t rfl ?_
                  refine SatC.seq ?_
                  refine SatC.region ?_
                  refine SatL.pu (RunV.assign rfl) rfl ?_
                  refine SatL.nil (SatE.thenC ?_)
                  refine SatC.ret (SatE.then_ret (SatE.blk_ret (SatE.then_ret (SatE.then_ret (SatE.blk_ret (SatE.then_ret ?_))))))
                  refine SatE.ret1 rfl rfl ?_
                  exact ⟨rfl, hS.sel (by repeat constructor)⟩
              · (try simp only [cx, ne_eq] at h5)
                try (exfalso; (first | omega | exact h5 trivial | contradiction | (first | cases h5 | exact h5 rfl)); done)
                all_goals
                refine SatC.seq ?_
                refine SatC.region ?_
                refine SatL.pu (RunV.move rfl) rfl ?_
                refine SatL.pu (RunV.move rfl) rfl ?_
                refine SatL.pu (RunV.move rfl) rfl ?_
                first | refine SatL.pu (RunV.indexR (by assumption) rfl rfl rfl (by omega) (by omega) rfl) rfl ?_ | refine SatL.pu (RunV.indexS rfl rfl rfl (by omega) (by omega) rfl) rfl ?_
                first | refine SatL.pu (RunV.fieldAddrL rfl rfl rfl) rfl ?_ | refine SatL.pu (RunV.fieldAddr rfl rfl rfl) rfl ?_
                first | refine SatL.pu (RunV.loadRNf (RdC.st (by assumption) hS List.not_mem_nil) rfl rfl (by first | assumption | exact map_get (by assumption)) (by repeat constructor)) rfl ?_ | refine SatL.pu (RunV.loadRNf (Sl.rd (by assumption) hS (by repeat constructor)) rfl rfl (by first | assumption | exact map_get (by assumption)) (by repeat constructor)) rfl ?_
                refine SatL.op rfl (OpW.enter rfl rfl rfl (rfl) (apply_any (u := y.2) (me := me) (hS.ownT (by repeat constructor)) ho1 hib hyb) ?_)
                rintro r4 w4 ⟨rfl, o3, ho3, h⟩
                replace hS := hS.callT (A := [(b, C 63 (rc me mb)), (mb, o1)]) (by repeat constructor) h
                refine SatL.op rfl (OpW.alloc hS rfl rfl (by repeat constructor) ?_)
                clear hS
                intro b15 w5 _ hS
                refine SatL.op rfl (OpW.store hS rfl rfl (by repeat constructor) (by repeat constructor) (by repeat constructor) rfl rfl ?_)
                clear hS
                intro w6 hS
                refine SatL.nil (SatE.thenC ?_)
                refine SatC.seq ?_
                refine SatC.region ?_
                refine SatL.pu (RunV.move rfl) rfl ?_
                refine SatL.pu (RunV.move rfl) rfl ?_
                refine SatL.pu (RunV.move rfl) rfl ?_
                first | refine SatL.pu (RunV.indexR (by assumption) rfl rfl rfl (by omega) (by omega) rfl) rfl ?_ | refine SatL.pu (RunV.indexS rfl rfl rfl (by omega) (by omega) rfl) rfl ?_
                first | refine SatL.pu (RunV.fieldAddrL rfl rfl rfl) rfl ?_ | refine SatL.pu (RunV.fieldAddr rfl rfl rfl) rfl ?_
                first | refine SatL.pu (RunV.loadRNf (RdC.st (by assumption) hS List.not_mem_nil) rfl rfl (by first | assumption | exact map_get (by assumption)) (by repeat constructor)) rfl ?_ | refine SatL.pu (RunV.loadRNf (Sl.rd (by assumption) hS (by repeat constructor)) rfl rfl (by first | assumption | exact map_get (by assumption)) (by repeat constructor)) rfl ?_
                refine SatL.op rfl (OpW.enter rfl rfl rfl (rfl) (apply_ref (l := seen m 8) (me := me) (v := v1) (B := B1) y.2 (hS.ownT (A := (rb, C 54 (rf me v1)) :: B1) (by repeat constructor)) hsl1 (seen_len m) hyb (inb_seen hib)) ?_)
                rintro r7 w7 ⟨rfl, v3, B3, hsl3, h⟩
                replace hS := hS.callT (A := (rb, C 54 (rf me v1)) :: B1) (by repeat constructor) h
                rw [has.1] at hsl3 ⊢
                refine SatL.pu (RunV.move rfl) rfl ?_
                refine SatL.pu (RunV.extract rfl rfl) rfl ?_
                refine SatL.pu (RunV.extract rfl rfl) rfl ?_
                refine SatL.pu (RunV.extract rfl rfl) rfl ?_
                refine SatL.op rfl (OpW.alloc hS rfl rfl (by repeat constructor) ?_)
                clear hS
                intro b17 w8 _ hS
                refine SatL.op rfl (OpW.alloc hS rfl rfl (by repeat constructor) ?_)
                clear hS
                intro b18 w9 _ hS
                refine SatL.pu (RunV.assign rfl) rfl ?_
                refine SatL.op rfl (OpW.store hS rfl rfl (by repeat constructor) (by repeat constructor) (by repeat constructor) rfl rfl ?_)
                clear hS
                intro w10 hS
                refine SatL.op rfl (OpW.store hS rfl rfl (by repeat constructor) (by repeat constructor) (by repeat constructor) rfl rfl ?_)
                clear hS
                intro w11 hS
                refine SatL.nil (SatE.thenC ?_)
                refine SatC.seq ?_
                refine SatC.weak (e' := [(2, _), (6, _), (7, _), (9, _), (10, _), (15, _), (16, _), (17, _), (18, _)]) (by repeat constructor) ?_
                refine SatC.region ?_
                refine SatL.pu (RunV.loadN hS rfl rfl (by repeat constructor) (by repeat constructor)) rfl ?_
                refine SatL.pu (RunV.move rfl) rfl ?_
                refine SatL.pu (RunV.loadN hS rfl rfl (by repeat constructor) (by repeat constructor)) rfl ?_
                refine SatL.pu (RunV.loadN hS rfl rfl (by repeat constructor) (by repeat constructor)) rfl ?_
                refine SatL.pu (RunV.build rfl (by simp [go_sem]; try rfl)) rfl ?_
                refine SatL.pu (RunV.bin rfl rfl (guard32 _ _ _ _ _ _ _ _ _ _ _ _ _ _ _ _ _ _) (run_neq32 _ _ _ _ _ _ _ _ _ _ _ _ _ _ _)) rfl ?_
                refine SatL.nil (SatE.thenC ?_)
                refine SatC.cond rfl (fun h6 => ?_) (fun h6 => ?_)
                · (try simp only [cx, ne_eq] at h6)
                  try (exfalso; (first | omega | exact h6 trivial | contradiction | (first | cases h6 | exact h6 rfl)); done)
                  all_goals
                  refine SatC.seq ?_
                  refine SatC.region ?_
                  refine SatL.pu (RunV.assign rfl) rfl ?_
                  refine SatL.nil (SatE.thenC ?_)
                  refine SatC.ret (SatE.then_ret (SatE.blk_ret (SatE.then_ret (SatE.then_ret (SatE.blk_ret (SatE.then_ret ?_))))))
                  refine SatE.ret1 rfl rfl ?_
                  exact ⟨rfl, hS.sel (by repeat constructor)⟩
                · (try simp only [cx, ne_eq] at h6)
                  try (exfalso; (first | omega | exact h6 trivial | contradiction | (first | cases h6 | exact h6 rfl)); done)
                  all_goals
                  refine SatC.skip ?_
                  refine SatE.met (((applyC me m y.2).2, o3, v3, B3)) ?_ (by repeat constructor)
                  exact ⟨ho3, inb_apply hib hyb, has.2, mine_apply hmi, hsl3, hS.sel (by repeat constructor)⟩
            · clear hS
              rintro ⟨m, o1, v1, B1⟩ w64 ⟨ho1, hib, hwf, hmi, hsl1, hS⟩
              refine SatC.weak (e' := [(2, _), (6, _), (7, _), (9, _), (10, _)]) (by repeat constructor) ?_
              refine SatC.seq ?_
              obtain ⟨y, hy⟩ := get_some ys i (by omega)
              have hln : ((seen m 8).map ud).length ≤ 9223372036854775807 := by rw [List.length_map]; have := seen_len m; omega
              refine SatC.region ?_
              refine SatL.pu (RunV.move rfl) rfl ?_
              refine SatL.pu (RunV.move rfl) rfl ?_
              refine SatL.pu (RunV.move rfl) rfl ?_
              first | refine SatL.pu (RunV.indexR (by assumption) rfl rfl rfl (by omega) (by omega) rfl) rfl ?_ | refine SatL.pu (RunV.indexS rfl rfl rfl (by omega) (by omega) rfl) rfl ?_
              first | refine SatL.pu (RunV.fieldAddrL rfl rfl rfl) rfl ?_ | refine SatL.pu (RunV.fieldAddr rfl rfl rfl) rfl ?_
              first | refine SatL.pu (RunV.fieldAddrL rfl rfl rfl) rfl ?_ | refine SatL.pu (RunV.fieldAddr rfl rfl rfl) rfl ?_
              refine SatL.pu (RunV.loadR1f (j := 1) (RdC.st hcl hS List.not_mem_nil) rfl rfl (map_get hy) rfl) rfl ?_
              refine SatL.op rfl (OpW.enter rfl rfl rfl (rfl) (get_any (me := me) y.2.n (hS.ownT (by repeat constructor)) ho1) ?_)
              rintro r65 w65 ⟨rfl, h⟩
              replace hS := St.callN hS h
              refine SatL.pu (RunV.move rfl) rfl ?_
              refine SatL.pu (RunV.extract rfl rfl) rfl ?_
              refine SatL.pu (RunV.extract rfl rfl) rfl ?_
              refine SatL.op rfl (OpW.alloc hS rfl rfl (by repeat constructor) ?_)
              clear hS
              intro b19 w66 _ hS
              refine SatL.op rfl (OpW.store hS rfl rfl (by repeat constructor) (by repeat constructor) (by repeat constructor) rfl rfl ?_)
              clear hS
              intro w67 hS
              refine SatL.pu (RunV.assign rfl) rfl ?_
              refine SatL.nil (SatE.thenC ?_)
              refine SatC.seq ?_
              refine SatC.drawnT 17 hS (hS) (by kernel_rfl) ?_
              clear hS
              intro w68 hh hS hD
              refine SatD.tk 0 rfl hD (fun _ hw => RunV.move rfl) ?_
              first | refine SatD.tk 1 rfl hD (fun _ hw => RunV.nil_ptr rfl) ?_ | refine SatD.tk 1 rfl hD (fun _ hw => RunV.nil_func rfl) ?_ | refine SatD.tk 1 rfl hD (fun _ hw => RunV.nil_yield rfl) ?_
              first | refine SatD.tk 2 rfl hD (fun _ hw => RunV.fieldAddrL rfl rfl rfl) ?_ | refine SatD.tk 2 rfl hD (fun _ hw => RunV.fieldAddr rfl rfl rfl) ?_
              refine SatD.tk 3 rfl hD (fun _ hw => RunV.load1 hw rfl rfl (by repeat constructor) rfl) ?_
              refine SatD.tk 4 rfl hD (fun _ hw => RunV.move rfl) ?_
              refine SatD.tk 5 rfl hD (fun _ hw => RunV.move rfl) ?_
              first | refine SatD.tk 6 rfl hD (fun _ hw => RunV.indexR (by assumption) rfl rfl rfl (by omega) (by omega) rfl) ?_ | refine SatD.tk 6 rfl hD (fun _ hw => RunV.indexS rfl rfl rfl (by omega) (by omega) rfl) ?_
              first | refine SatD.tk 7 rfl hD (fun _ hw => RunV.fieldAddrL rfl rfl rfl) ?_ | refine SatD.tk 7 rfl hD (fun _ hw => RunV.fieldAddr rfl rfl rfl) ?_
              first | refine SatD.tk 8 rfl hD (fun _ hw => RunV.fieldAddrL rfl rfl rfl) ?_ | refine SatD.tk 8 rfl hD (fun _ hw => RunV.fieldAddr rfl rfl rfl) ?_
              refine SatD.tk 9 rfl hD (fun _ hw => RunV.loadR1f (j := 1) (RdC.st hcl hw List.not_mem_nil) rfl rfl (map_get hy) rfl) ?_
              apply SatD.join1
              · intro hK
                refine SatD.effs [10, 14] (by kernel_rfl) ⟨⟨_, rfl, rfl, OpW.enter rfl rfl rfl (rfl) (find_ref v1 (seen m 8) y.2.n _ (hsl1.row hS (by repeat constructor) hln)) ?_⟩, ⟨_, rfl, rfl, OpW.alloc hS rfl rfl (by repeat constructor) ?_⟩, trivial⟩
                · skip
                  rintro r69 w69 ⟨rfl, h⟩
                  replace hS := St.callN hS h
                  rw [find_seen hwf]
                  refine keepS (hS.sel (by repeat constructor)) (fun hD => ?_)
                  refine SatD.tk 11 rfl hD (fun _ hw => RunV.move rfl) ?_
                  refine SatD.tk 12 rfl hD (fun _ hw => RunV.extract rfl rfl) ?_
                  refine SatD.tk 13 rfl hD (fun _ hw => RunV.extract rfl rfl) ?_
                  refine SatD.ef 14 rfl (OpW.alloc hS rfl rfl (by repeat constructor) ?_)
                  intro b21 w70 _ hS
                  refine keepS (hS.sel (by repeat constructor)) (fun hD => ?_)
                  refine SatD.ef 15 rfl (OpW.store hS rfl rfl (by repeat constructor) (by repeat constructor) (by repeat constructor) rfl rfl ?_)
                  intro w71 hS
                  refine keepS (hS.sel (by repeat constructor)) (fun hD => ?_)
                  refine SatD.tk 16 rfl hD (fun _ hw => RunV.assign rfl) ?_
                  refine SatD.done 0 (by kernel_rfl) ?_
                  refine SatE.weak (e' := [(2, _), (6, _), (7, _), (9, _), (10, _), (19, _), (20, _), (21, _), (22, _)]) (by repeat constructor) ?_
                  exact hK b21 w71 hS
                · skip
                  intro b21 w69 _ hS
                  refine keepS (hS.sel (by repeat constructor)) (fun hD => ?_)
                  refine SatD.ef 10 rfl (OpW.enter rfl rfl rfl (rfl) (find_ref v1 (seen m 8) y.2.n _ (hsl1.row hS (by repeat constructor) hln)) ?_)
                  rintro r70 w70 ⟨rfl, h⟩
                  replace hS := St.callN hS h
                  rw [find_seen hwf]
                  refine keepS (hS.sel (by repeat constructor)) (fun hD => ?_)
                  refine SatD.tk 11 rfl hD (fun _ hw => RunV.move rfl) ?_
                  refine SatD.tk 12 rfl hD (fun _ hw => RunV.extract rfl rfl) ?_
                  refine SatD.tk 13 rfl hD (fun _ hw => RunV.extract rfl rfl) ?_
                  refine SatD.ef 15 rfl (OpW.store hS rfl rfl (by repeat constructor) (by repeat constructor) (by repeat constructor) rfl rfl ?_)
                  intro w71 hS
                  refine keepS (hS.sel (by repeat constructor)) (fun hD => ?_)
                  refine SatD.tk 16 rfl hD (fun _ hw => RunV.assign rfl) ?_
                  refine SatD.done 0 (by kernel_rfl) ?_
                  refine SatE.weak (e' := [(2, _), (6, _), (7, _), (9, _), (10, _), (19, _), (20, _), (21, _), (22, _)]) (by repeat constructor) ?_
                  exact hK b21 w71 hS
              intro b21 w119 hS
              refine SatE.thenC ?_
              refine SatC.seq ?_
              refine SatC.drawnT 25 hS (hS) (by kernel_rfl) ?_
              clear hS
              intro w120 hh hS hD
              refine SatD.tk 0 rfl hD (fun _ hw => RunV.loadN hw rfl rfl (by repeat constructor) (by repeat constructor)) ?_
              refine SatD.tk 1 rfl hD (fun _ hw => RunV.loadN hw rfl rfl (by repeat constructor) (by repeat constructor)) ?_
              refine SatD.tk 2 rfl hD (fun _ hw => RunV.bin rfl rfl (guard24 _ _ _ _ _ _ _ _ _ _) (run_neq24 _ _ _ _ _ _ _)) ?_
              refine SatD.tk 3 rfl hD (fun _ hw => RunV.move rfl) ?_
              refine SatD.ways 131 rfl (fun h5 => ?_) (fun h5 => ?_)
              · (try simp only [cx, ne_eq] at h5)
                try (exfalso; (first | omega | exact h5 trivial | contradiction | (first | cases h5 | exact h5 rfl)); done)
                all_goals
                refine SatD.sk 4 rfl [] hD ?_
                refine SatD.sk 5 rfl [] hD ?_
                refine SatD.sk 6 rfl [] hD ?_
                refine SatD.tk 7 rfl hD (fun _ hw => RunV.pick_t rfl rfl) ?_
                refine SatD.tk 8 rfl hD (fun _ hw => RunV.move rfl) ?_
                refine SatD.sk 9 rfl [] hD ?_
                refine SatD.sk 10 rfl [] hD ?_
                refine SatD.sk 11 rfl [] hD ?_
                refine SatD.sk 12 rfl [] hD ?_
                refine SatD.sk 13 rfl [] hD ?_
                refine SatD.tk 14 rfl hD (fun _ hw => RunV.pick_t rfl rfl) ?_
                refine SatD.tk 15 rfl hD (fun _ hw => RunV.move rfl) ?_
                refine SatD.sk 16 rfl [] hD ?_
                refine SatD.sk 17 rfl [] hD ?_
                refine SatD.sk 18 rfl [] hD ?_
                refine SatD.sk 19 rfl [] hD ?_
                refine SatD.sk 20 rfl [] hD ?_
                refine SatD.sk 21 rfl [] hD ?_
                refine SatD.sk 22 rfl [] hD ?_
                refine SatD.sk 23 rfl [] hD ?_
                refine SatD.tk 24 rfl hD (fun _ hw => RunV.pick_t rfl rfl) ?_
                refine SatD.done 0 (by kernel_rfl) (SatE.thenC ?_)
                clear hD
                refine SatC.weak (e' := [(2, _), (6, _), (7, _), (9, _), (10, _), (152, _)]) (by repeat constructor) ?_
                refine SatC.cond_t rfl ?_
                refine SatC.seq ?_
                refine SatC.region ?_
                refine SatL.pu (RunV.assign rfl) rfl ?_
                refine SatL.nil (SatE.thenC ?_)
                refine SatC.ret (SatE.blk_ret (SatE.then_ret (SatE.then_ret (SatE.blk_ret (SatE.then_ret ?_)))))
                refine SatE.ret1 rfl rfl ?_
                exact ⟨rfl, hS.sel (by repeat constructor)⟩
              · (try simp only [cx, ne_eq] at h5)
                try (exfalso; (first | omega | exact h5 trivial | contradiction | (first | cases h5 | exact h5 rfl)); done)
                all_goals
                refine SatD.tk 4 rfl hD (fun _ hw => RunV.move rfl) ?_
                refine SatD.tk 5 rfl hD (fun _ hw => RunV.move rfl) ?_
                refine SatD.tk 6 rfl hD (fun _ hw => RunV.bneq rfl rfl rfl) ?_
                refine SatD.tk 7 rfl hD (fun _ hw => RunV.pick_f rfl rfl) ?_
                refine SatD.tk 8 rfl hD (fun _ hw => RunV.move rfl) ?_
                refine SatD.ways 136 rfl (fun h6 => ?_) (fun h6 => ?_)
                · (try simp only [cx, ne_eq] at h6)
                  try (exfalso; (first | omega | exact h6 trivial | contradiction | (first | cases h6 | exact h6 rfl)); done)
                  all_goals
                  refine SatD.sk 9 rfl [] hD ?_
                  refine SatD.sk 10 rfl [] hD ?_
                  refine SatD.sk 11 rfl [] hD ?_
                  refine SatD.sk 12 rfl [] hD ?_
                  refine SatD.sk 13 rfl [] hD ?_
                  refine SatD.tk 14 rfl hD (fun _ hw => RunV.pick_t rfl rfl) ?_
                  refine SatD.tk 15 rfl hD (fun _ hw => RunV.move rfl) ?_
                  refine SatD.sk 16 rfl [] hD ?_
                  refine SatD.sk 17 rfl [] hD ?_
                  refine SatD.sk 18 rfl [] hD ?_
                  refine SatD.sk 19 rfl [] hD ?_
                  refine SatD.sk 20 rfl [] hD ?_
                  refine SatD.sk 21 rfl [] hD ?_
                  refine SatD.sk 22 rfl [] hD ?_
                  refine SatD.sk 23 rfl [] hD ?_
                  refine SatD.tk 24 rfl hD (fun _ hw => RunV.pick_t rfl rfl) ?_
                  refine SatD.done 0 (by kernel_rfl) (SatE.thenC ?_)
                  clear hD
                  refine SatC.weak (e' := [(2, _), (6, _), (7, _), (9, _), (10, _), (152, _)]) (by repeat constructor) ?_
                  refine SatC.cond_t rfl ?_
                  refine SatC.seq ?_
                  refine SatC.region ?_
                  refine SatL.pu (RunV.assign rfl) rfl ?_
                  refine SatL.nil (SatE.thenC ?_)
                  refine SatC.ret (SatE.blk_ret (SatE.then_ret (SatE.then_ret (SatE.blk_ret (SatE.then_ret ?_)))))
                  refine SatE.ret1 rfl rfl ?_
                  exact ⟨rfl, hS.sel (by repeat constructor)⟩
                · (try simp only [cx, ne_eq] at h6)
                  try (exfalso; (first | omega | exact h6 trivial | contradiction | (first | cases h6 | exact h6 rfl)); done)
                  all_goals
                  refine SatD.tk 9 rfl hD (fun _ hw => RunV.move rfl) ?_
                  refine SatD.tk 11 rfl hD (fun _ hw => RunV.move rfl) ?_
                  refine SatD.ef 10 rfl (OpW.enter rfl rfl rfl (rfl) (self_any (me := me) (hS.ownT (by repeat constructor)) ho1) ?_)
                  rintro r121 w121 ⟨rfl, h⟩
                  replace hS := St.callN hS h
                  refine keepS (hS.sel (by repeat constructor)) (fun hD => ?_)
                  refine SatD.ef 12 rfl (OpW.enter rfl rfl rfl (rfl) (self_ref (l := seen m 8) (me := me) (v := v1) (B := B1) (hS.ownT (A := (rb, C 54 (rf me v1)) :: B1) (by repeat constructor)) hsl1 (seen_len m)) ?_)
                  rintro r122 w122 ⟨rfl, h⟩
                  replace hS := St.callN hS h
                  rw [find_seen hwf]
                  refine keepS (hS.sel (by repeat constructor)) (fun hD => ?_)
                  refine SatD.tk 13 rfl hD (fun _ hw => RunV.bin rfl rfl (guard24 _ _ _ _ _ _ _ _ _ _) (run_neq24 _ _ _ _ _ _ _)) ?_
                  refine SatD.tk 14 rfl hD (fun _ hw => RunV.pick_f rfl rfl) ?_
                  refine SatD.tk 15 rfl hD (fun _ hw => RunV.move rfl) ?_
                  refine SatD.ways 143 rfl (fun h7 => ?_) (fun h7 => ?_)
                  · (try simp only [cx, ne_eq] at h7)
                    try (exfalso; (first | omega | exact h7 trivial | contradiction | (first | cases h7 | exact h7 rfl)); done)
                    all_goals
                    refine SatD.sk 16 rfl [] hD ?_
                    refine SatD.sk 17 rfl [] hD ?_
                    refine SatD.sk 18 rfl [] hD ?_
                    refine SatD.sk 19 rfl [] hD ?_
                    refine SatD.sk 20 rfl [] hD ?_
                    refine SatD.sk 21 rfl [] hD ?_
                    refine SatD.sk 22 rfl [] hD ?_
                    refine SatD.sk 23 rfl [] hD ?_
                    refine SatD.tk 24 rfl hD (fun _ hw => RunV.pick_t rfl rfl) ?_
                    refine SatD.done 0 (by kernel_rfl) (SatE.thenC ?_)
                    clear hD
                    refine SatC.weak (e' := [(2, _), (6, _), (7, _), (9, _), (10, _), (152, _)]) (by repeat constructor) ?_
                    refine SatC.cond_t rfl ?_
                    refine SatC.seq ?_
                    refine SatC.region ?_
                    refine SatL.pu (RunV.assign rfl) rfl ?_
                    refine SatL.nil (SatE.thenC ?_)
                    refine SatC.ret (SatE.blk_ret (SatE.then_ret (SatE.then_ret (SatE.blk_ret (SatE.then_ret ?_)))))
                    refine SatE.ret1 rfl rfl ?_
                    exact ⟨rfl, hS.sel (by repeat constructor)⟩
                  · (try simp only [cx, ne_eq] at h7)
                    try (exfalso; (first | omega | exact h7 trivial | contradiction | (first | cases h7 | exact h7 rfl)); done)
                    all_goals
                    refine SatD.tk 16 rfl hD (fun _ hw => RunV.move rfl) ?_
                    refine SatD.tk 18 rfl hD (fun _ hw => RunV.move rfl) ?_
                    first | refine SatD.tk 19 rfl hD (fun _ hw => RunV.nil_ptr rfl) ?_ | refine SatD.tk 19 rfl hD (fun _ hw => RunV.nil_func rfl) ?_ | refine SatD.tk 19 rfl hD (fun _ hw => RunV.nil_yield rfl) ?_
                    first | refine SatD.tk 20 rfl hD (fun _ hw => RunV.fieldAddrL rfl rfl rfl) ?_ | refine SatD.tk 20 rfl hD (fun _ hw => RunV.fieldAddr rfl rfl rfl) ?_
                    refine SatD.tk 21 rfl hD (fun _ hw => RunV.load1 hw rfl rfl (by repeat constructor) rfl) ?_
                    refine SatD.ef 17 rfl (OpW.enter rfl rfl rfl (rfl) (list_any (me := me) (hS.ownT (by repeat constructor)) ho1) ?_)
                    rintro r123 w123 ⟨B3, hsl3, h⟩
                    replace hS := hS.call0 h
                    refine keepS (hS.sel (by repeat constructor)) (fun hD => ?_)
                    refine SatD.ef 22 rfl (OpW.enter rfl rfl rfl (rfl) (same_any _ _ (seen m 8) (seen m 8) _ (hsl3.row hS (by repeat constructor) hln) (hsl1.row hS (by repeat constructor) hln)) ?_)
                    rintro r124 w124 ⟨rfl, h⟩
                    replace hS := St.callN hS h
                    refine keepS (hS.sel (by repeat constructor)) (fun hD => ?_)
                    refine SatD.tk 23 rfl hD (fun _ hw => RunV.not rfl) ?_
                    refine SatD.tk 24 rfl hD (fun _ hw => RunV.pick_f rfl rfl) ?_
                    refine SatD.done 0 (by kernel_rfl) (SatE.thenC ?_)
                    clear hD
                    refine SatC.weak (e' := [(2, _), (6, _), (7, _), (9, _), (10, _), (152, _)]) (by repeat constructor) ?_
                    refine SatC.cond rfl (fun h8 => ?_) (fun h8 => ?_)
                    · (try simp only [cx, ne_eq] at h8)
                      try (exfalso; (first | omega | exact h8 trivial | contradiction | (first | cases h8 | exact h8 rfl)); done)
                      all_goals
                      refine SatC.seq ?_
                      refine SatC.region ?_
                      refine SatL.pu (RunV.assign rfl) rfl ?_
                      refine SatL.nil (SatE.thenC ?_)
                      refine SatC.ret (SatE.blk_ret (SatE.then_ret (SatE.then_ret (SatE.blk_ret (SatE.then_ret ?_)))))
                      refine SatE.ret1 rfl rfl ?_
                      exact ⟨rfl, hS.sel (by repeat constructor)⟩
                    · (try simp only [cx, ne_eq] at h8)
                      try (exfalso; (first | omega | exact h8 trivial | contradiction | (first | cases h8 | exact h8 rfl)); done)
                      all_goals
                      refine SatC.skip (SatE.blk_normal (SatE.thenC ?_))
                      refine SatC.region ?_
                      refine SatL.pu (RunV.move rfl) rfl ?_
                      refine SatL.pu (RunV.add rfl rfl (by first | exact wrapI64 (by omega) | rfl)) rfl ?_
                      refine SatL.pu (RunV.assign rfl) rfl ?_
                      refine SatL.nil ?_
                      refine SatE.again ((i + 1, m, o1, v1, B1)) ?_ (by first | omega | (dsimp only; omega)) (by repeat constructor)
                      exact ⟨by omega, by omega, ho1, hib, hwf, hmi, hsl1, hS.sel (by repeat constructor)⟩
          · (try simp only [cx, ne_eq] at h4)
            try (exfalso; (first | omega | exact h4 trivial | contradiction | (first | cases h4 | exact h4 rfl)); done)
            all_goals
            refine SatC.exit (SatE.then_exit (SatE.then_exit (SatE.blk_exit (SatE.thenC ?_))))
            refine SatC.seq ?_
            have hln : ((seen m 8).map ud).length ≤ 9223372036854775807 := by rw [List.length_map]; have := seen_len m; omega
            have hlv : ((lv (seen m 8)).map iR).length ≤ 9223372036854775807 := by rw [List.length_map]; have := lv_len m; omega
            have hlp : (((lv (seen m 8)).filter fun n => decide (¬ n = me)).map iR).length ≤ 9223372036854775807 := by rw [List.length_map]; have h1 := lv_len m; have h2 := List.length_filter_le (fun n => decide (¬ n = me)) (lv (seen m 8)); omega
            refine SatC.drawnT 25 hS (hS) (by kernel_rfl) ?_
            clear hS
            intro w4 hh hS hD
            refine SatD.tk 0 rfl hD (fun _ hw => RunV.move rfl) ?_
            refine SatD.tk 2 rfl hD (fun _ hw => RunV.move rfl) ?_
            refine SatD.ef 1 rfl (OpW.enter rfl rfl rfl (rfl) (live_any (me := me) (hS.ownT (by repeat constructor)) ho1) ?_)
            rintro r5 w5 ⟨B3, hsl3, h⟩
            replace hS := hS.call0 h
            refine keepS (hS.sel (by repeat constructor)) (fun hD => ?_)
            refine SatD.ef 3 rfl (OpW.enter rfl rfl rfl (rfl) (live_ref (l := seen m 8) (me := me) (v := v1) (B := B1) _ (hS.ownT (A := (rb, C 54 (rf me v1)) :: B1) (by repeat constructor)) hsl1 (seen_len m)) ?_)
            rintro r6 w6 ⟨B4, hsl4, h⟩
            replace hS := hS.call0 h
            (first | rw [lv_same hwf] at hsl4 | rw [peers_same hwf] at hsl4)
            refine keepS (hS.sel (by repeat constructor)) (fun hD => ?_)
            refine SatD.ef 4 rfl (OpW.enter rfl rfl rfl (rfl) ((by first | exact ints_any _ _ (lv (seen m 8)) (lv (seen m 8)) _ (hsl3.row hS (by repeat constructor) hlv) (hsl4.row hS (by repeat constructor) hlv) | exact ints_any _ _ ((lv (seen m 8)).filter fun n => decide (¬ n = me)) ((lv (seen m 8)).filter fun n => decide (¬ n = me)) _ (hsl3.row hS (by repeat constructor) hlp) (hsl4.row hS (by repeat constructor) hlp))) ?_)
            rintro r7 w7 ⟨rfl, h⟩
            replace hS := St.callN hS h
            refine keepS (hS.sel (by repeat constructor)) (fun hD => ?_)
            refine SatD.tk 5 rfl hD (fun _ hw => RunV.move rfl) ?_
            refine SatD.ways 158 rfl (fun h5 => ?_) (fun h5 => ?_)
            · (try simp only [cx, ne_eq] at h5)
              try (exfalso; (first | omega | exact h5 trivial | contradiction | (first | cases h5 | exact h5 rfl)); done)
              all_goals
              refine SatD.tk 6 rfl hD (fun _ hw => RunV.move rfl) ?_
              refine SatD.tk 8 rfl hD (fun _ hw => RunV.move rfl) ?_
              refine SatD.ef 7 rfl (OpW.enter rfl rfl rfl (rfl) (peers_any (me := me) (hS.ownT (by repeat constructor)) ho1) ?_)
              rintro r8 w8 ⟨B3, hsl3, h⟩
              replace hS := hS.call0 h
              refine keepS (hS.sel (by repeat constructor)) (fun hD => ?_)
              refine SatD.ef 9 rfl (OpW.enter rfl rfl rfl (rfl) (live_ref (l := seen m 8) (me := me) (v := v1) (B := B1) _ (hS.ownT (A := (rb, C 54 (rf me v1)) :: B1) (by repeat constructor)) hsl1 (seen_len m)) ?_)
              rintro r9 w9 ⟨B4, hsl4, h⟩
              replace hS := hS.call0 h
              (first | rw [lv_same hwf] at hsl4 | rw [peers_same hwf] at hsl4)
              refine keepS (hS.sel (by repeat constructor)) (fun hD => ?_)
              refine SatD.ef 10 rfl (OpW.enter rfl rfl rfl (rfl) ((by first | exact ints_any _ _ (lv (seen m 8)) (lv (seen m 8)) _ (hsl3.row hS (by repeat constructor) hlv) (hsl4.row hS (by repeat constructor) hlv) | exact ints_any _ _ ((lv (seen m 8)).filter fun n => decide (¬ n = me)) ((lv (seen m 8)).filter fun n => decide (¬ n = me)) _ (hsl3.row hS (by repeat constructor) hlp) (hsl4.row hS (by repeat constructor) hlp))) ?_)
              rintro r10 w10 ⟨rfl, h⟩
              replace hS := St.callN hS h
              refine keepS (hS.sel (by repeat constructor)) (fun hD => ?_)
              refine SatD.tk 11 rfl hD (fun _ hw => RunV.pick_t rfl rfl) ?_
              refine SatD.tk 12 rfl hD (fun _ hw => RunV.move rfl) ?_
              refine SatD.ways 165 rfl (fun h6 => ?_) (fun h6 => ?_)
              · (try simp only [cx, ne_eq] at h6)
                try (exfalso; (first | omega | exact h6 trivial | contradiction | (first | cases h6 | exact h6 rfl)); done)
                all_goals
                refine SatD.tk 13 rfl hD (fun _ hw => RunV.move rfl) ?_
                refine SatD.tk 15 rfl hD (fun _ hw => RunV.move rfl) ?_
                first | refine SatD.tk 16 rfl hD (fun _ hw => RunV.nil_ptr rfl) ?_ | refine SatD.tk 16 rfl hD (fun _ hw => RunV.nil_func rfl) ?_ | refine SatD.tk 16 rfl hD (fun _ hw => RunV.nil_yield rfl) ?_
                first | refine SatD.tk 17 rfl hD (fun _ hw => RunV.fieldAddrL rfl rfl rfl) ?_ | refine SatD.tk 17 rfl hD (fun _ hw => RunV.fieldAddr rfl rfl rfl) ?_
                refine SatD.tk 18 rfl hD (fun _ hw => RunV.load1 hw rfl rfl (by repeat constructor) rfl) ?_
                refine SatD.ef 14 rfl (OpW.enter rfl rfl rfl (rfl) (list_any (me := me) (hS.ownT (by repeat constructor)) ho1) ?_)
                rintro r11 w11 ⟨B3, hsl3, h⟩
                replace hS := hS.call0 h
                refine keepS (hS.sel (by repeat constructor)) (fun hD => ?_)
                refine SatD.ef 19 rfl (OpW.enter rfl rfl rfl (rfl) (same_any _ _ (seen m 8) (seen m 8) _ (hsl3.row hS (by repeat constructor) hln) (hsl1.row hS (by repeat constructor) hln)) ?_)
                rintro r12 w12 ⟨rfl, h⟩
                replace hS := St.callN hS h
                refine keepS (hS.sel (by repeat constructor)) (fun hD => ?_)
                refine SatD.tk 20 rfl hD (fun _ hw => RunV.pick_t rfl rfl) ?_
                refine SatD.tk 21 rfl hD (fun _ hw => RunV.move rfl) ?_
                refine SatD.ways 174 rfl (fun h7 => ?_) (fun h7 => ?_)
                · (try simp only [cx, ne_eq] at h7)
                  try (exfalso; (first | omega | exact h7 trivial | contradiction | (first | cases h7 | exact h7 rfl)); done)
                  all_goals
                  refine SatD.ef 22 rfl (OpW.enter rfl rfl rfl (rfl) (works_any _) ?_)
                  rintro r13 w13 ⟨rfl, h⟩
                  replace hS := St.callN hS h
                  refine keepS (hS.sel (by repeat constructor)) (fun hD => ?_)
                  refine SatD.tk 23 rfl hD (fun _ hw => RunV.pick_t rfl rfl) ?_
                  refine SatD.tk 24 rfl hD (fun _ hw => RunV.assign rfl) ?_
                  refine SatD.done 0 (by kernel_rfl) (SatE.thenC ?_)
                  clear hD
                  refine SatC.ret ?_
                  refine SatE.ret1 rfl rfl ?_
                  exact ⟨rfl, hS.sel (by repeat constructor)⟩
                · (try simp only [cx, ne_eq] at h7)
                  try (exfalso; (first | omega | exact h7 trivial | contradiction | (first | cases h7 | exact h7 rfl)); done)
                  all_goals
                  refine SatD.sk 22 rfl [] hD ?_
                  refine SatD.tk 23 rfl hD (fun _ hw => RunV.pick_f rfl rfl) ?_
                  refine SatD.tk 24 rfl hD (fun _ hw => RunV.assign rfl) ?_
                  refine SatD.done 0 (by kernel_rfl) (SatE.thenC ?_)
                  clear hD
                  refine SatC.ret ?_
                  refine SatE.ret1 rfl rfl ?_
                  exact ⟨rfl, hS.sel (by repeat constructor)⟩
              · (try simp only [cx, ne_eq] at h6)
                try (exfalso; (first | omega | exact h6 trivial | contradiction | (first | cases h6 | exact h6 rfl)); done)
                all_goals
                refine SatD.sk 13 rfl [] hD ?_
                refine SatD.sk 14 rfl [] hD ?_
                refine SatD.sk 15 rfl [] hD ?_
                refine SatD.sk 16 rfl [] hD ?_
                refine SatD.sk 17 rfl [] hD ?_
                refine SatD.sk 18 rfl [] hD ?_
                refine SatD.sk 19 rfl [] hD ?_
                refine SatD.tk 20 rfl hD (fun _ hw => RunV.pick_f rfl rfl) ?_
                refine SatD.tk 21 rfl hD (fun _ hw => RunV.move rfl) ?_
                refine SatD.sk 22 rfl [] hD ?_
                refine SatD.tk 23 rfl hD (fun _ hw => RunV.pick_f rfl rfl) ?_
                refine SatD.tk 24 rfl hD (fun _ hw => RunV.assign rfl) ?_
                refine SatD.done 0 (by kernel_rfl) (SatE.thenC ?_)
                clear hD
                refine SatC.ret ?_
                refine SatE.ret1 rfl rfl ?_
                exact ⟨rfl, hS.sel (by repeat constructor)⟩
            · (try simp only [cx, ne_eq] at h5)
              try (exfalso; (first | omega | exact h5 trivial | contradiction | (first | cases h5 | exact h5 rfl)); done)
              all_goals
              refine SatD.sk 6 rfl [] hD ?_
              refine SatD.sk 7 rfl [] hD ?_
              refine SatD.sk 8 rfl [] hD ?_
              refine SatD.sk 9 rfl [] hD ?_
              refine SatD.sk 10 rfl [] hD ?_
              refine SatD.tk 11 rfl hD (fun _ hw => RunV.pick_f rfl rfl) ?_
              refine SatD.tk 12 rfl hD (fun _ hw => RunV.move rfl) ?_
              refine SatD.sk 13 rfl [] hD ?_
              refine SatD.sk 14 rfl [] hD ?_
              refine SatD.sk 15 rfl [] hD ?_
              refine SatD.sk 16 rfl [] hD ?_
              refine SatD.sk 17 rfl [] hD ?_
              refine SatD.sk 18 rfl [] hD ?_
              refine SatD.sk 19 rfl [] hD ?_
              refine SatD.tk 20 rfl hD (fun _ hw => RunV.pick_f rfl rfl) ?_
              refine SatD.tk 21 rfl hD (fun _ hw => RunV.move rfl) ?_
              refine SatD.sk 22 rfl [] hD ?_
              refine SatD.tk 23 rfl hD (fun _ hw => RunV.pick_f rfl rfl) ?_
              refine SatD.tk 24 rfl hD (fun _ hw => RunV.assign rfl) ?_
              refine SatD.done 0 (by kernel_rfl) (SatE.thenC ?_)
              clear hD
              refine SatC.ret ?_
              refine SatE.ret1 rfl rfl ?_
              exact ⟨rfl, hS.sel (by repeat constructor)⟩
        · (try simp only [cx, ne_eq] at h3)
          try (exfalso; (first | omega | exact h3 trivial | contradiction | (first | cases h3 | exact h3 rfl)); done)
          all_goals
          refine SatL.guard_n rfl rfl rfl rfl ?_
          refine SatL.pu (RunV.pick_f rfl rfl) rfl ?_
          refine SatL.nil (SatE.thenC ?_)
          refine SatC.cond_f rfl ?_
          refine SatC.exit (SatE.then_exit (SatE.then_exit (SatE.blk_exit (SatE.thenC ?_))))
          refine SatC.seq ?_
          have hln : ((seen m 8).map ud).length ≤ 9223372036854775807 := by rw [List.length_map]; have := seen_len m; omega
          have hlv : ((lv (seen m 8)).map iR).length ≤ 9223372036854775807 := by rw [List.length_map]; have := lv_len m; omega
          have hlp : (((lv (seen m 8)).filter fun n => decide (¬ n = me)).map iR).length ≤ 9223372036854775807 := by rw [List.length_map]; have h1 := lv_len m; have h2 := List.length_filter_le (fun n => decide (¬ n = me)) (lv (seen m 8)); omega
          refine SatC.drawnT 25 hS (hS) (by kernel_rfl) ?_
          clear hS
          intro w4 hh hS hD
          refine SatD.tk 0 rfl hD (fun _ hw => RunV.move rfl) ?_
          refine SatD.tk 2 rfl hD (fun _ hw => RunV.move rfl) ?_
          refine SatD.ef 1 rfl (OpW.enter rfl rfl rfl (rfl) (live_any (me := me) (hS.ownT (by repeat constructor)) ho1) ?_)
          rintro r5 w5 ⟨B3, hsl3, h⟩
          replace hS := hS.call0 h
          refine keepS (hS.sel (by repeat constructor)) (fun hD => ?_)
          refine SatD.ef 3 rfl (OpW.enter rfl rfl rfl (rfl) (live_ref (l := seen m 8) (me := me) (v := v1) (B := B1) _ (hS.ownT (A := (rb, C 54 (rf me v1)) :: B1) (by repeat constructor)) hsl1 (seen_len m)) ?_)
          rintro r6 w6 ⟨B4, hsl4, h⟩
          replace hS := hS.call0 h
          (first | rw [lv_same hwf] at hsl4 | rw [peers_same hwf] at hsl4)
          refine keepS (hS.sel (by repeat constructor)) (fun hD => ?_)
          refine SatD.ef 4 rfl (OpW.enter rfl rfl rfl (rfl) ((by first | exact ints_any _ _ (lv (seen m 8)) (lv (seen m 8)) _ (hsl3.row hS (by repeat constructor) hlv) (hsl4.row hS (by repeat constructor) hlv) | exact ints_any _ _ ((lv (seen m 8)).filter fun n => decide (¬ n = me)) ((lv (seen m 8)).filter fun n => decide (¬ n = me)) _ (hsl3.row hS (by repeat constructor) hlp) (hsl4.row hS (by repeat constructor) hlp))) ?_)
          rintro r7 w7 ⟨rfl, h⟩
          replace hS := St.callN hS h
          refine keepS (hS.sel (by repeat constructor)) (fun hD => ?_)
          refine SatD.tk 5 rfl hD (fun _ hw => RunV.move rfl) ?_
          refine SatD.ways 158 rfl (fun h4 => ?_) (fun h4 => ?_)
          · (try simp only [cx, ne_eq] at h4)
            try (exfalso; (first | omega | exact h4 trivial | contradiction | (first | cases h4 | exact h4 rfl)); done)
            all_goals
            refine SatD.tk 6 rfl hD (fun _ hw => RunV.move rfl) ?_
            refine SatD.tk 8 rfl hD (fun _ hw => RunV.move rfl) ?_
            refine SatD.ef 7 rfl (OpW.enter rfl rfl rfl (rfl) (peers_any (me := me) (hS.ownT (by repeat constructor)) ho1) ?_)
            rintro r8 w8 ⟨B3, hsl3, h⟩
            replace hS := hS.call0 h
            refine keepS (hS.sel (by repeat constructor)) (fun hD => ?_)
            refine SatD.ef 9 rfl (OpW.enter rfl rfl rfl (rfl) (live_ref (l := seen m 8) (me := me) (v := v1) (B := B1) _ (hS.ownT (A := (rb, C 54 (rf me v1)) :: B1) (by repeat constructor)) hsl1 (seen_len m)) ?_)
            rintro r9 w9 ⟨B4, hsl4, h⟩
            replace hS := hS.call0 h
            (first | rw [lv_same hwf] at hsl4 | rw [peers_same hwf] at hsl4)
            refine keepS (hS.sel (by repeat constructor)) (fun hD => ?_)
            refine SatD.ef 10 rfl (OpW.enter rfl rfl rfl (rfl) ((by first | exact ints_any _ _ (lv (seen m 8)) (lv (seen m 8)) _ (hsl3.row hS (by repeat constructor) hlv) (hsl4.row hS (by repeat constructor) hlv) | exact ints_any _ _ ((lv (seen m 8)).filter fun n => decide (¬ n = me)) ((lv (seen m 8)).filter fun n => decide (¬ n = me)) _ (hsl3.row hS (by repeat constructor) hlp) (hsl4.row hS (by repeat constructor) hlp))) ?_)
            rintro r10 w10 ⟨rfl, h⟩
            replace hS := St.callN hS h
            refine keepS (hS.sel (by repeat constructor)) (fun hD => ?_)
            refine SatD.tk 11 rfl hD (fun _ hw => RunV.pick_t rfl rfl) ?_
            refine SatD.tk 12 rfl hD (fun _ hw => RunV.move rfl) ?_
            refine SatD.ways 165 rfl (fun h5 => ?_) (fun h5 => ?_)
            · (try simp only [cx, ne_eq] at h5)
              try (exfalso; (first | omega | exact h5 trivial | contradiction | (first | cases h5 | exact h5 rfl)); done)
              all_goals
              refine SatD.tk 13 rfl hD (fun _ hw => RunV.move rfl) ?_
              refine SatD.tk 15 rfl hD (fun _ hw => RunV.move rfl) ?_
              first | refine SatD.tk 16 rfl hD (fun _ hw => RunV.nil_ptr rfl) ?_ | refine SatD.tk 16 rfl hD (fun _ hw => RunV.nil_func rfl) ?_ | refine SatD.tk 16 rfl hD (fun _ hw => RunV.nil_yield rfl) ?_
              first | refine SatD.tk 17 rfl hD (fun _ hw => RunV.fieldAddrL rfl rfl rfl) ?_ | refine SatD.tk 17 rfl hD (fun _ hw => RunV.fieldAddr rfl rfl rfl) ?_
              refine SatD.tk 18 rfl hD (fun _ hw => RunV.load1 hw rfl rfl (by repeat constructor) rfl) ?_
              refine SatD.ef 14 rfl (OpW.enter rfl rfl rfl (rfl) (list_any (me := me) (hS.ownT (by repeat constructor)) ho1) ?_)
              rintro r11 w11 ⟨B3, hsl3, h⟩
              replace hS := hS.call0 h
              refine keepS (hS.sel (by repeat constructor)) (fun hD => ?_)
              refine SatD.ef 19 rfl (OpW.enter rfl rfl rfl (rfl) (same_any _ _ (seen m 8) (seen m 8) _ (hsl3.row hS (by repeat constructor) hln) (hsl1.row hS (by repeat constructor) hln)) ?_)
              rintro r12 w12 ⟨rfl, h⟩
              replace hS := St.callN hS h
              refine keepS (hS.sel (by repeat constructor)) (fun hD => ?_)
              refine SatD.tk 20 rfl hD (fun _ hw => RunV.pick_t rfl rfl) ?_
              refine SatD.tk 21 rfl hD (fun _ hw => RunV.move rfl) ?_
              refine SatD.ways 174 rfl (fun h6 => ?_) (fun h6 => ?_)
              · (try simp only [cx, ne_eq] at h6)
                try (exfalso; (first | omega | exact h6 trivial | contradiction | (first | cases h6 | exact h6 rfl)); done)
                all_goals
                refine SatD.ef 22 rfl (OpW.enter rfl rfl rfl (rfl) (works_any _) ?_)
                rintro r13 w13 ⟨rfl, h⟩
                replace hS := St.callN hS h
                refine keepS (hS.sel (by repeat constructor)) (fun hD => ?_)
                refine SatD.tk 23 rfl hD (fun _ hw => RunV.pick_t rfl rfl) ?_
                refine SatD.tk 24 rfl hD (fun _ hw => RunV.assign rfl) ?_
                refine SatD.done 0 (by kernel_rfl) (SatE.thenC ?_)
                clear hD
                refine SatC.ret ?_
                refine SatE.ret1 rfl rfl ?_
                exact ⟨rfl, hS.sel (by repeat constructor)⟩
              · (try simp only [cx, ne_eq] at h6)
                try (exfalso; (first | omega | exact h6 trivial | contradiction | (first | cases h6 | exact h6 rfl)); done)
                all_goals
                refine SatD.sk 22 rfl [] hD ?_
                refine SatD.tk 23 rfl hD (fun _ hw => RunV.pick_f rfl rfl) ?_
                refine SatD.tk 24 rfl hD (fun _ hw => RunV.assign rfl) ?_
                refine SatD.done 0 (by kernel_rfl) (SatE.thenC ?_)
                clear hD
                refine SatC.ret ?_
                refine SatE.ret1 rfl rfl ?_
                exact ⟨rfl, hS.sel (by repeat constructor)⟩
            · (try simp only [cx, ne_eq] at h5)
              try (exfalso; (first | omega | exact h5 trivial | contradiction | (first | cases h5 | exact h5 rfl)); done)
              all_goals
              refine SatD.sk 13 rfl [] hD ?_
              refine SatD.sk 14 rfl [] hD ?_
              refine SatD.sk 15 rfl [] hD ?_
              refine SatD.sk 16 rfl [] hD ?_
              refine SatD.sk 17 rfl [] hD ?_
              refine SatD.sk 18 rfl [] hD ?_
              refine SatD.sk 19 rfl [] hD ?_
              refine SatD.tk 20 rfl hD (fun _ hw => RunV.pick_f rfl rfl) ?_
              refine SatD.tk 21 rfl hD (fun _ hw => RunV.move rfl) ?_
              refine SatD.sk 22 rfl [] hD ?_
              refine SatD.tk 23 rfl hD (fun _ hw => RunV.pick_f rfl rfl) ?_
              refine SatD.tk 24 rfl hD (fun _ hw => RunV.assign rfl) ?_
              refine SatD.done 0 (by kernel_rfl) (SatE.thenC ?_)
              clear hD
              refine SatC.ret ?_
              refine SatE.ret1 rfl rfl ?_
              exact ⟨rfl, hS.sel (by repeat constructor)⟩
          · (try simp only [cx, ne_eq] at h4)
            try (exfalso; (first | omega | exact h4 trivial | contradiction | (first | cases h4 | exact h4 rfl)); done)
            all_goals
            refine SatD.sk 6 rfl [] hD ?_
            refine SatD.sk 7 rfl [] hD ?_
            refine SatD.sk 8 rfl [] hD ?_
            refine SatD.sk 9 rfl [] hD ?_
            refine SatD.sk 10 rfl [] hD ?_
            refine SatD.tk 11 rfl hD (fun _ hw => RunV.pick_f rfl rfl) ?_
            refine SatD.tk 12 rfl hD (fun _ hw => RunV.move rfl) ?_
            refine SatD.sk 13 rfl [] hD ?_
            refine SatD.sk 14 rfl [] hD ?_
            refine SatD.sk 15 rfl [] hD ?_
            refine SatD.sk 16 rfl [] hD ?_
            refine SatD.sk 17 rfl [] hD ?_
            refine SatD.sk 18 rfl [] hD ?_
            refine SatD.sk 19 rfl [] hD ?_
            refine SatD.tk 20 rfl hD (fun _ hw => RunV.pick_f rfl rfl) ?_
            refine SatD.tk 21 rfl hD (fun _ hw => RunV.move rfl) ?_
            refine SatD.sk 22 rfl [] hD ?_
            refine SatD.tk 23 rfl hD (fun _ hw => RunV.pick_f rfl rfl) ?_
            refine SatD.tk 24 rfl hD (fun _ hw => RunV.assign rfl) ?_
            refine SatD.done 0 (by kernel_rfl) (SatE.thenC ?_)
            clear hD
            refine SatC.ret ?_
            refine SatE.ret1 rfl rfl ?_
            exact ⟨rfl, hS.sel (by repeat constructor)⟩
  · refine Ret.enter Try.func6 Try.ntmps6 rfl rfl ?_
    simp only [argEnv, Nat.reduceAdd]
    refine SatC.seq ?_
    refine SatC.region ?_
    refine SatL.pu (RunV.assign rfl) rfl ?_
    refine SatL.nil (SatE.thenC ?_)
    refine SatC.seq ?_
    refine SatC.region ?_
    refine SatL.pu (RunV.move rfl) rfl ?_
    refine SatL.pu (RunV.move rfl) rfl ?_
    refine SatL.op rfl (OpW.enter rfl rfl rfl (rfl) (new_no _ _ _ hme) ?_)
    rintro r1 w1 ⟨rfl, h⟩
    replace hS := St.callN hS h
    refine SatL.pu (RunV.move rfl) rfl ?_
    refine SatL.pu (RunV.extract rfl rfl) rfl ?_
    refine SatL.pu (RunV.extract rfl rfl) rfl ?_
    refine SatL.pu (RunV.assign rfl) rfl ?_
    refine SatL.pu (RunV.assign rfl) rfl ?_
    refine SatL.nil (SatE.thenC ?_)
    refine SatC.seq ?_
    refine SatC.region ?_
    refine SatL.pu (RunV.move rfl) rfl ?_
    refine SatL.pu (RunV.move rfl) rfl ?_
    refine SatL.op rfl (OpW.enter rfl rfl rfl (rfl) (new_refno _ a ha _ hme) ?_)
    rintro r2 w2 ⟨rfl, h⟩
    replace hS := St.callN hS h
    refine SatL.pu (RunV.assign rfl) rfl ?_
    refine SatL.nil (SatE.thenC ?_)
    refine SatC.seq ?_
    refine SatC.seq ?_
    refine SatC.region ?_
    refine SatL.pu (RunV.move rfl) rfl ?_
    refine SatL.pu (RunV.eqlPtrNil rfl rfl rfl) rfl ?_
    refine SatL.nil (SatE.thenC ?_)
    refine SatC.weak (e' := [(2, _), (6, _), (7, _), (8, _), (9, _), (33, _)]) (by repeat constructor) ?_
    refine SatC.cond rfl (fun h1 => ?_) (fun h1 => ?_)
    · (try simp only [cx, ne_eq] at h1)
      try (exfalso; (first | omega | exact h1 trivial | contradiction | (first | cases h1 | exact h1 rfl)); done)
      all_goals
      refine SatC.seq ?_
      refine SatC.region ?_
      refine SatL.pu (RunV.move rfl) rfl ?_
      refine SatL.pu (RunV.eql rfl rfl) rfl ?_
      refine SatL.pu (RunV.move rfl) rfl ?_
      refine SatL.guard rfl rfl rfl (fun h2 => ?_) (fun h2 => ?_)
      · (try simp only [cx, ne_eq] at h2)
        try (exfalso; (first | omega | exact h2 trivial | contradiction | (first | cases h2 | exact h2 rfl)); done)
        all_goals
        refine SatL.pu (RunV.move rfl) rfl ?_
        refine SatL.guard_y rfl rfl ?_
        refine SatL.pu (RunV.eqlPtrNil rfl rfl rfl) rfl ?_
        refine SatL.pu (RunV.pick_t rfl rfl) rfl ?_
        refine SatL.pu (RunV.move rfl) rfl ?_
        refine SatL.guard rfl rfl rfl (fun h3 => ?_) (fun h3 => ?_)
        · (try simp only [cx, ne_eq] at h3)
          try (exfalso; (first | omega | exact h3 trivial | contradiction | (first | cases h3 | exact h3 rfl)); done)
          all_goals
          refine SatL.op rfl (OpW.enter rfl rfl rfl (rfl) (works_any _) ?_)
          rintro r3 w3 ⟨rfl, h⟩
          replace hS := St.callN hS h
          refine SatL.pu (RunV.pick_t rfl rfl) rfl ?_
          refine SatL.pu (RunV.assign rfl) rfl ?_
          refine SatL.nil (SatE.thenC ?_)
          refine SatC.ret (SatE.then_ret ?_)
          refine SatE.ret1 rfl rfl ?_
          exact ⟨rfl, hS.sel (by repeat constructor)⟩
        · (try simp only [cx, ne_eq] at h3)
          try (exfalso; (first | omega | exact h3 trivial | contradiction | (first | cases h3 | exact h3 rfl)); done)
          all_goals
          refine SatL.pu (RunV.pick_f rfl rfl) rfl ?_
          refine SatL.pu (RunV.assign rfl) rfl ?_
          refine SatL.nil (SatE.thenC ?_)
          refine SatC.ret (SatE.then_ret ?_)
          refine SatE.ret1 rfl rfl ?_
          exact ⟨rfl, hS.sel (by repeat constructor)⟩
      · (try simp only [cx, ne_eq] at h2)
        try (exfalso; (first | omega | exact h2 trivial | contradiction | (first | cases h2 | exact h2 rfl)); done)
        all_goals
        refine SatL.guard_n rfl rfl rfl rfl ?_
        refine SatL.pu (RunV.pick_f rfl rfl) rfl ?_
        refine SatL.pu (RunV.move rfl) rfl ?_
        refine SatL.guard_n rfl rfl rfl rfl ?_
        refine SatL.pu (RunV.pick_f rfl rfl) rfl ?_
        refine SatL.pu (RunV.assign rfl) rfl ?_
        refine SatL.nil (SatE.thenC ?_)
        refine SatC.ret (SatE.then_ret ?_)
        refine SatE.ret1 rfl rfl ?_
        exact ⟨rfl, hS.sel (by repeat constructor)⟩
    · (try simp only [cx, ne_eq] at h1)
      try (exfalso; (first | omega | exact h1 trivial | contradiction | (first | cases h1 | exact h1 rfl)); done)
      all_goals
      refine SatC.skip (SatE.thenC ?_)
      refine SatC.seq ?_
      refine SatC.seq ?_
      refine SatC.region ?_
      refine SatL.pu (RunV.move rfl) rfl ?_
      refine SatL.pu (RunV.neq rfl rfl) rfl ?_
      refine SatL.nil (SatE.thenC ?_)
      refine SatC.cond rfl (fun h2 => ?_) (fun h2 => ?_)
      · (try simp only [cx, ne_eq] at h2)
        try (exfalso; (first | omega | exact h2 trivial | contradiction | (first | cases h2 | exact h2 rfl)); done)
        all_goals
        refine SatC.seq ?_
        refine SatC.region ?_
        refine SatL.pu (RunV.assign rfl) rfl ?_
        refine SatL.nil (SatE.thenC ?_)
        refine SatC.ret (SatE.then_ret ?_)
        refine SatE.ret1 rfl rfl ?_
        exact ⟨rfl, hS.sel (by repeat constructor)⟩
      · (try simp only [cx, ne_eq] at h2)
        try (exfalso; (first | omega | exact h2 trivial | contradiction | (first | cases h2 | exact h2 rfl)); done)
        all_goals
        refine SatC.skip (SatE.thenC ?_)
        refine SatC.seq ?_
        refine SatC.seq ?_
        refine SatC.region ?_
        refine SatL.pu (RunV.assign rfl) rfl ?_
        refine SatL.nil (SatE.thenC ?_)
        refine SatC.block ?_
        -- LOOP 1: turn [6, 10], stay [2, 7, 9]
        -- STOP loop 1
        trace_state
        sorry
theorem rollPlays_lifted (os : Os) (started : os.Started) (H : Type) (enc : TypeId × Value → H) :
    ReturnsInHanded {} Try.checked os 6 .any (Rows.rollPlaysSpec.pre6 enc Try.prog Try.f6 Rows.rollPlaysRow.domain false) (Rows.rollPlaysSpec.post enc Try.prog Try.f6 false true false false) := by
  refine law_returns (C := Try.checked) (b := 4) (by kernel_rfl) started (by kernel_rfl) Try.func6
    (ChangeSpec.witness6 (enc := enc) (C := Try.checked) false ⟨#[], #[.int .i64 0, .int .u32 0, .slice none 0 0], []⟩ 8 (by kernel_rfl) (by kernel_rfl) (by kernel_rfl) (by kernel_rfl))
    rfl rfl (by kernel_rfl) (by kernel_rfl) (by kernel_rfl) (fun ds h => ?_) ?_
  · rw [Try.params6] at h
    match ds, h with
    | [_, _, _], _ => rfl
  intro W base args ds ps hval hA hsz
  rw [Try.params6] at hA hval
  obtain ⟨v0, v1, v2, d0, d1, d2, q0, q1, q2, hargs, rfl, rfl, h0, h1, h2⟩ := trodAll_three hA
  subst hargs
  obtain ⟨a0, rfl, rfl, rfl, b0⟩ := open_int Try.underlying3 (hval 0 3 v0 rfl rfl) h0
  replace b0 := bnd_i64 b0
  obtain ⟨a1, rfl, rfl, rfl, b1⟩ := open_int Try.underlying22 (hval 1 22 v1 rfl rfl) h1
  replace b1 := bnd_u32 b1
  obtain ⟨xs2, hr2, hx2⟩ := open_rows (l := [3, 3, 22, 3]) 6 Try.underlying38 (by kernel_rfl) (by kernel_rfl) (by decide) (hval 2 38 v2 rfl rfl) h2
  obtain ⟨ys2, rfl, hy2⟩ := rows_map (enc' := sr) (q := fun y => 0 ≤ y.2.i ∧ y.2.i ≤ 4294967295) (fun r hr => by
    obtain ⟨u0, u1, u2, u3, rfl, l0, l1, l2, l3⟩ := allLeaf_list4 hr
    obtain ⟨n0, rfl, e0⟩ := leaf_int Try.underlying3 l0
    obtain ⟨n1, rfl, e1⟩ := leaf_int Try.underlying3 l1
    obtain ⟨n2, rfl, e2⟩ := leaf_int Try.underlying22 l2
    obtain ⟨n3, rfl, e3⟩ := leaf_int Try.underlying3 l3
    exact ⟨⟨n0, n1, n2, n3⟩, rfl, bnd_u32 e2⟩) xs2 hx2
  exact law_done (plays_any a0 a1 _ ys2 W b1 hr2 hy2)
theorem rollPlays_holds : Rows.RollPlaysSaid :=
  OpenClaim.holds_of_wide 6 Try.f6 rfl rfl rfl rfl rfl rfl rfl ⟨rfl, rfl, rfl, rfl, rfl⟩ rfl rfl rfl rfl rfl (by kernel_rfl) Try.func6 (by kernel_rfl)
    (of_decide_eq_true (by kernel_rfl)) (by unfold Func.isWrapper; first | (rw [if_pos (by decide +kernel)]; kernel_rfl) | (rw [if_neg (by decide +kernel)]; exact ⟨rfl, rfl⟩))
    (fun os started H enc _ => rollPlays_lifted os started H enc)
end Go.Proofs.Ytpbfjadkimojeaa
