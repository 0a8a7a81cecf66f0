/- LocalPlays: whatever is laid, let go, told and ticked, an agent has, and each call answers, what the document says. No condition. -/
import Derived.Test.YtbnkcagcfbpiiaaMf
import Derived.Test.YtbnkcagcfbpiiaaRows
set_option linter.unusedSimpArgs false
set_option linter.unusedVariables false
set_option maxRecDepth 100000
set_option maxHeartbeats 16000000
namespace Go.Proofs.Ytbnkcagcfbpiiaa
open Go Go.Proofs Go.RowKit Go.ChangeShapes Go.WideShapes Go.ChangeAt
theorem plays_no (n : Int) (a : List UInt8) (v : Value) (W : World) (hal : a.length ≤ 9223372036854775807) (hno : ¬ ((0 ≤ n ∧ n < 8) ∧ a.length ≤ 32)) : Ret Try.prog 5 #[.int .i64 n, str a, v] W fun u w' => u = .bool true ∧ St W [] [] w' := by
  have hS := St.init0 W
  have h1 := fun w => lnew_no n a w hno hal
  have h2 := fun w => err_no n a w hal hno
  generalize he : (if 0 ≤ n ∧ n < 8 then (3 : Int) else 2) = e at h1 h2
  have he2 : e = 2 ∨ e = 3 := by rw [← he]; split <;> simp
  refine Ret.enter Try.func5 Try.ntmps5 rfl rfl ?_
  simp only [argEnv, Nat.reduceAdd]
  refine SatC.seq ?_
  refine SatC.region ?_
  refine SatL.pu (RunV.assign rfl) rfl ?_
  refine SatL.nil (SatE.thenC ?_)
  refine SatC.seq ?_
  refine SatC.region ?_
  refine SatL.pu (RunV.move rfl) rfl ?_
  refine SatL.pu (RunV.move rfl) rfl ?_
  refine SatL.op rfl (OpW.enter rfl rfl rfl (rfl) (h1 _) ?_)
  rintro r1 w1 ⟨rfl, h⟩
  replace hS := St.callN hS h
  refine SatL.pu (RunV.move rfl) rfl ?_
  refine SatL.pu (RunV.extract rfl rfl) rfl ?_
  refine SatL.pu (RunV.extract rfl rfl) rfl ?_
  refine SatL.pu (RunV.assign rfl) rfl ?_
  refine SatL.pu (RunV.assign rfl) rfl ?_
  refine SatL.nil (SatE.thenC ?_)
  refine SatC.seq ?_
  refine SatC.seq ?_
  refine SatC.region ?_
  refine SatL.pu (RunV.move rfl) rfl ?_
  refine SatL.pu (RunV.move rfl) rfl ?_
  refine SatL.op rfl (OpW.enter rfl rfl rfl (rfl) (h2 _) ?_)
  rintro r2 w2 ⟨rfl, h⟩
  replace hS := St.callN hS h
  refine SatL.pu (RunV.assign rfl) rfl ?_
  refine SatL.nil (SatE.thenC ?_)
  refine SatC.seq ?_
  refine SatC.region ?_
  refine SatL.pu (RunV.move rfl) rfl ?_
  refine SatL.pu (RunV.neq rfl rfl) rfl ?_
  refine SatL.nil (SatE.thenC ?_)
  refine SatC.cond rfl (fun h1 => ?_) (fun h1 => ?_)
  · (try simp only [cx, ne_eq] at h1)
    try (exfalso; (first | omega | exact h1 trivial | contradiction | (first | omega | (simp at h1; done))); done)
    all_goals
    refine SatC.seq ?_
    refine SatC.weak (e' := [(6, _), (7, _), (8, _), (9, _)]) (by repeat constructor) ?_
    refine SatC.region ?_
    refine SatL.pu (RunV.move rfl) rfl ?_
    refine SatL.pu (RunV.move rfl) rfl ?_
    refine SatL.pu (RunV.eql rfl rfl) rfl ?_
    refine SatL.pu (RunV.move rfl) rfl ?_
    refine SatL.guard rfl rfl rfl (fun h2 => ?_) (fun h2 => ?_)
    · (try simp only [cx, ne_eq] at h2)
      try (exfalso; (first | omega | exact h2 trivial | contradiction | (first | omega | (simp at h2; done))); done)
      all_goals
      refine SatL.pu (RunV.move rfl) rfl ?_
      refine SatL.guard_y rfl rfl ?_
      refine SatL.pu (RunV.eqlPtrNil rfl rfl rfl) rfl ?_
      refine SatL.pu (RunV.pick_t rfl rfl) rfl ?_
      refine SatL.pu (RunV.move rfl) rfl ?_
      refine SatL.guard rfl rfl rfl (fun h3 => ?_) (fun h3 => ?_)
      · (try simp only [cx, ne_eq] at h3)
        try (exfalso; (first | omega | exact h3 trivial | contradiction | (first | omega | (simp at h3; done))); done)
        all_goals
        refine SatL.op rfl (OpW.enter rfl rfl rfl (rfl) (works_any _) ?_)
        rintro r3 w3 ⟨rfl, h⟩
        replace hS := St.callN hS h
        refine SatL.pu (RunV.pick_t rfl rfl) rfl ?_
        refine SatL.pu (RunV.assign rfl) rfl ?_
        refine SatL.nil (SatE.thenC ?_)
        refine SatC.ret (SatE.then_ret ?_)
        refine SatE.ret1 rfl rfl ?_
        exact ⟨rfl, hS.sel (by repeat constructor)⟩
      · (try simp only [cx, ne_eq] at h3)
        try (exfalso; (first | omega | exact h3 trivial | contradiction | (first | omega | (simp at h3; done))); done)
        all_goals
        refine SatL.pu (RunV.pick_f rfl rfl) rfl ?_
        refine SatL.pu (RunV.assign rfl) rfl ?_
        refine SatL.nil (SatE.thenC ?_)
        refine SatC.ret (SatE.then_ret ?_)
        refine SatE.ret1 rfl rfl ?_
        exact ⟨rfl, hS.sel (by repeat constructor)⟩
    · (try simp only [cx, ne_eq] at h2)
      try (exfalso; (first | omega | exact h2 trivial | contradiction | (first | omega | (simp at h2; done))); done)
      all_goals
      refine SatL.guard_n rfl rfl rfl rfl ?_
      refine SatL.pu (RunV.pick_f rfl rfl) rfl ?_
      refine SatL.pu (RunV.move rfl) rfl ?_
      refine SatL.guard_n rfl rfl rfl rfl ?_
      refine SatL.pu (RunV.pick_f rfl rfl) rfl ?_
      refine SatL.pu (RunV.assign rfl) rfl ?_
      refine SatL.nil (SatE.thenC ?_)
      refine SatC.ret (SatE.then_ret ?_)
      refine SatE.ret1 rfl rfl ?_
      exact ⟨rfl, hS.sel (by repeat constructor)⟩
  · (try simp only [cx, ne_eq] at h1)
    try (exfalso; (first | omega | exact h1 trivial | contradiction | (first | omega | (simp at h1; done))); done)
    all_goals
    refine SatC.skip (SatE.thenC ?_)
    refine SatC.seq ?_
    refine SatC.seq ?_
    refine SatC.weak (e' := [(0, _), (1, _), (2, _), (6, _), (7, _), (8, _)]) (by repeat constructor) ?_
    refine SatC.region ?_
    refine SatL.pu (RunV.move rfl) rfl ?_
    refine SatL.pu (RunV.neq rfl rfl) rfl ?_
    refine SatL.nil (SatE.thenC ?_)
    refine SatC.cond rfl (fun h2 => ?_) (fun h2 => ?_)
    · (try simp only [cx, ne_eq] at h2)
      try (exfalso; (first | omega | exact h2 trivial | contradiction | (first | omega | (simp at h2; done))); done)
      all_goals
      refine SatC.seq ?_
      refine SatC.region ?_
      refine SatL.pu (RunV.assign rfl) rfl ?_
      refine SatL.nil (SatE.thenC ?_)
      refine SatC.ret (SatE.then_ret ?_)
      refine SatE.ret1 rfl rfl ?_
      exact ⟨rfl, hS.sel (by repeat constructor)⟩
    · (try simp only [cx, ne_eq] at h2)
      try (exfalso; (first | omega | exact h2 trivial | contradiction | (first | omega | (simp at h2; done))); done)
      all_goals
      refine SatC.skip (SatE.thenC ?_)
      refine SatC.seq ?_
      refine SatC.region ?_
      refine SatL.pu (RunV.move rfl) rfl ?_
      refine SatL.pu (RunV.move rfl) rfl ?_
      refine SatL.pu (RunV.build rfl (by simp [go_sem]; try rfl)) rfl ?_
      refine SatL.op rfl (OpW.box hS rfl rfl (by repeat constructor) ?_)
      clear hS
      intro b40 w3 _ hS
      refine SatL.pu (RunV.assign rfl) rfl ?_
      refine SatL.nil (SatE.thenC ?_)
      refine SatC.seq ?_
      refine SatC.seq ?_
      refine SatC.region ?_
      refine SatL.pu (RunV.assign rfl) rfl ?_
      refine SatL.nil (SatE.thenC ?_)
      refine SatC.block ?_
      -- LOOP 1: turn [6, 11], stay [0, 1, 2, 7, 10]
      -- STOP loop 1
      done
theorem plays_any (n : Int) (a : List UInt8) (ys : List Sp) (v : Value) (W : World) (hal : a.length ≤ 9223372036854775807) (hr : RdRow W v 23 (ys.map spr)) (hys : ∀ y ∈ ys, SpOk W y) : Ret Try.prog 5 #[.int .i64 n, str a, v] W fun u w' => u = .bool true ∧ St W [] [] w' := by
  by_cases hn : (0 ≤ n ∧ n < 8) ∧ a.length ≤ 32
  · have hS := St.init0 W
    obtain ⟨bs, os, cs, hv, hmx, hrc, _⟩ := hr.open
    rw [List.length_map] at hv hmx
    refine Ret.enter Try.func5 Try.ntmps5 rfl rfl ?_
    simp only [argEnv, Nat.reduceAdd]
    refine SatC.seq ?_
    refine SatC.region ?_
    refine SatL.pu (RunV.assign rfl) rfl ?_
    refine SatL.nil (SatE.thenC ?_)
    refine SatC.seq ?_
    refine SatC.region ?_
    refine SatL.pu (RunV.move rfl) rfl ?_
    refine SatL.pu (RunV.move rfl) rfl ?_
    refine SatL.op rfl (OpW.enter rfl rfl rfl (rfl) (lnew_any n a _ hn.1 hn.2) ?_)
    rintro r1 w1 ⟨b, L, rfl, hA, h⟩
    replace hS := hS.callT (A := []) .nil h
    refine SatL.pu (RunV.move rfl) rfl ?_
    refine SatL.pu (RunV.extract rfl rfl) rfl ?_
    refine SatL.pu (RunV.extract rfl rfl) rfl ?_
    refine SatL.pu (RunV.assign rfl) rfl ?_
    refine SatL.pu (RunV.assign rfl) rfl ?_
    refine SatL.nil (SatE.thenC ?_)
    refine SatC.seq ?_
    refine SatC.seq ?_
    refine SatC.region ?_
    refine SatL.pu (RunV.move rfl) rfl ?_
    refine SatL.pu (RunV.move rfl) rfl ?_
    refine SatL.op rfl (OpW.enter rfl rfl rfl (rfl) (err_ok n a _ hn) ?_)
    rintro r2 w2 ⟨rfl, h⟩
    replace hS := St.callN hS h
    refine SatL.pu (RunV.assign rfl) rfl ?_
    refine SatL.nil (SatE.thenC ?_)
    refine SatC.seq ?_
    refine SatC.region ?_
    refine SatL.pu (RunV.move rfl) rfl ?_
    refine SatL.pu (RunV.neq rfl rfl) rfl ?_
    refine SatL.nil (SatE.thenC ?_)
    refine SatC.cond rfl (fun h1 => ?_) (fun h1 => ?_)
    · (try simp only [cx, ne_eq] at h1)
      try (exfalso; (first | omega | exact h1 trivial | contradiction | (first | omega | (simp at h1; done))); done)
      all_goals
      refine SatC.seq ?_
      refine SatC.weak (e' := [(6, _), (7, _), (8, _), (9, _)]) (by repeat constructor) ?_
      refine SatC.region ?_
      refine SatL.pu (RunV.move rfl) rfl ?_
      refine SatL.pu (RunV.move rfl) rfl ?_
      refine SatL.pu (RunV.eql rfl rfl) rfl ?_
      refine SatL.pu (RunV.move rfl) rfl ?_
      refine SatL.guard rfl rfl rfl (fun h2 => ?_) (fun h2 => ?_)
      · (try simp only [cx, ne_eq] at h2)
        try (exfalso; (first | omega | exact h2 trivial | contradiction | (first | omega | (simp at h2; done))); done)
        all_goals
        refine SatL.pu (RunV.move rfl) rfl ?_
        refine SatL.guard_y rfl rfl ?_
        refine SatL.pu (RunV.eqlPtrNil rfl rfl rfl) rfl ?_
        refine SatL.pu (RunV.pick_t rfl rfl) rfl ?_
        refine SatL.pu (RunV.move rfl) rfl ?_
        refine SatL.guard rfl rfl rfl (fun h3 => ?_) (fun h3 => ?_)
        · (try simp only [cx, ne_eq] at h3)
          try (exfalso; (first | omega | exact h3 trivial | contradiction | (first | omega | (simp at h3; done))); done)
          all_goals
          refine SatL.op rfl (OpW.enter rfl rfl rfl (rfl) (works_any _) ?_)
          rintro r3 w3 ⟨rfl, h⟩
          replace hS := St.callN hS h
          refine SatL.pu (RunV.pick_t rfl rfl) rfl ?_
          refine SatL.pu (RunV.assign rfl) rfl ?_
          refine SatL.nil (SatE.thenC ?_)
          refine SatC.ret (SatE.then_ret ?_)
          refine SatE.ret1 rfl rfl ?_
          exact ⟨rfl, hS.sel (by repeat constructor)⟩
        · (try simp only [cx, ne_eq] at h3)
          try (exfalso; (first | omega | exact h3 trivial | contradiction | (first | omega | (simp at h3; done))); done)
          all_goals
          refine SatL.pu (RunV.pick_f rfl rfl) rfl ?_
          refine SatL.pu (RunV.assign rfl) rfl ?_
          refine SatL.nil (SatE.thenC ?_)
          refine SatC.ret (SatE.then_ret ?_)
          refine SatE.ret1 rfl rfl ?_
          exact ⟨rfl, hS.sel (by repeat constructor)⟩
      · (try simp only [cx, ne_eq] at h2)
        try (exfalso; (first | omega | exact h2 trivial | contradiction | (first | omega | (simp at h2; done))); done)
        all_goals
        refine SatL.guard_n rfl rfl rfl rfl ?_
        refine SatL.pu (RunV.pick_f rfl rfl) rfl ?_
        refine SatL.pu (RunV.move rfl) rfl ?_
        refine SatL.guard_n rfl rfl rfl rfl ?_
        refine SatL.pu (RunV.pick_f rfl rfl) rfl ?_
        refine SatL.pu (RunV.assign rfl) rfl ?_
        refine SatL.nil (SatE.thenC ?_)
        refine SatC.ret (SatE.then_ret ?_)
        refine SatE.ret1 rfl rfl ?_
        exact ⟨rfl, hS.sel (by repeat constructor)⟩
    · (try simp only [cx, ne_eq] at h1)
      try (exfalso; (first | omega | exact h1 trivial | contradiction | (first | omega | (simp at h1; done))); done)
      all_goals
      refine SatC.skip (SatE.thenC ?_)
      refine SatC.seq ?_
      refine SatC.seq ?_
      refine SatC.weak (e' := [(0, _), (1, _), (2, _), (6, _), (7, _), (8, _)]) (by repeat constructor) ?_
      refine SatC.region ?_
      refine SatL.pu (RunV.move rfl) rfl ?_
      refine SatL.pu (RunV.neq rfl rfl) rfl ?_
      refine SatL.nil (SatE.thenC ?_)
      refine SatC.cond rfl (fun h2 => ?_) (fun h2 => ?_)
      · (try simp only [cx, ne_eq] at h2)
        try (exfalso; (first | omega | exact h2 trivial | contradiction | (first | omega | (simp at h2; done))); done)
        all_goals
        refine SatC.seq ?_
        refine SatC.region ?_
        refine SatL.pu (RunV.assign rfl) rfl ?_
        refine SatL.nil (SatE.thenC ?_)
        refine SatC.ret (SatE.then_ret ?_)
        refine SatE.ret1 rfl rfl ?_
        exact ⟨rfl, hS.sel (by repeat constructor)⟩
      · (try simp only [cx, ne_eq] at h2)
        try (exfalso; (first | omega | exact h2 trivial | contradiction | (first | omega | (simp at h2; done))); done)
        all_goals
        refine SatC.skip (SatE.thenC ?_)
        refine SatC.seq ?_
        refine SatC.region ?_
        refine SatL.pu (RunV.move rfl) rfl ?_
        refine SatL.pu (RunV.move rfl) rfl ?_
        refine SatL.pu (RunV.build rfl (by simp [go_sem]; try rfl)) rfl ?_
        refine SatL.op rfl (OpW.box hS rfl rfl (by repeat constructor) ?_)
        clear hS
        intro b40 w3 _ hS
        refine SatL.pu (RunV.assign rfl) rfl ?_
        refine SatL.nil (SatE.thenC ?_)
        refine SatC.seq ?_
        refine SatC.seq ?_
        refine SatC.region ?_
        refine SatL.pu (RunV.assign rfl) rfl ?_
        refine SatL.nil (SatE.thenC ?_)
        refine SatC.block ?_
        refine SatC.loopK (G := Nat × Lc × Dl × List (Nat × Obj) × List (Nat × Obj)) (V := fun ⟨i, S1, D1, L1, R1⟩ => [(11, .int .i64 (i : Int))]) (Cn := [(0, _), (1, _), (2, _), (7, _), (10, _), (6, _)]) (I := fun ⟨i, S1, D1, L1, R1⟩ w' => i ≤ ys.length ∧ i ≤ 60 ∧ PI W n a b b40 (4 * (i : Int)) S1 D1 L1 R1 ∧ St W [] (L1 ++ R1) w') (μ := fun ⟨i, S1, D1, L1, R1⟩ => ys.length - i) (0, ⟨n, a, [], []⟩, ⟨n, a, [], []⟩, L, [(b40, C 44 [.int .i64 n, str a, .slice none 0 0, .slice none 0 0])]) ?_ (by repeat constructor) ?_
        · exact ⟨Nat.zero_le _, by decide, PI.init hA, hS.sel (by repeat constructor)⟩
        clear hS
        rintro ⟨i, S1, D1, L1, R1⟩ w4 ⟨hi, hi6, hP, hS⟩
        refine SatC.weak (e' := [(0, _), (1, _), (2, _), (6, _), (7, _), (10, _), (11, _)]) (by repeat constructor) ?_
        refine SatC.seq ?_
        refine SatC.seq ?_
        refine SatC.region ?_
        refine SatL.pu (RunV.move rfl) rfl ?_
        refine SatL.pu (RunV.move rfl) rfl ?_
        refine SatL.pu (RunV.lenR hv rfl rfl) rfl ?_
        refine SatL.pu (RunV.lss rfl rfl) rfl ?_
        refine SatL.pu (RunV.move rfl) rfl ?_
        refine SatL.guard rfl rfl rfl (fun h3 => ?_) (fun h3 => ?_)
        · (try simp only [cx, ne_eq] at h3)
          try (exfalso; (first | omega | exact h3 trivial | contradiction | (first | omega | (simp at h3; done))); done)
          all_goals
          refine SatL.pu (RunV.move rfl) rfl ?_
          refine SatL.guard_y rfl rfl ?_
          refine SatL.pu (RunV.lss rfl rfl) rfl ?_
          refine SatL.pu (RunV.pick_t rfl rfl) rfl ?_
          refine SatL.nil (SatE.thenC ?_)
          refine SatC.cond rfl (fun h4 => ?_) (fun h4 => ?_)
          · (try simp only [cx, ne_eq] at h4)
            try (exfalso; (first | omega | exact h4 trivial | contradiction | (first | omega | (simp at h4; done))); done)
            all_goals
            refine SatC.skip (SatE.thenC ?_)
            refine SatC.seq ?_
            refine SatC.block ?_
            refine SatC.seq ?_
            obtain ⟨y, hy⟩ := get_some ys i (by omega)
            have hyo := hys y (List.mem_of_getElem? hy)
            refine SatC.drawnT 50 hS (hS.sel (R := []) (by repeat constructor)) (by kernel_rfl) ?_
            clear hS
            intro w5 hh hS hD
            refine SatD.tk 0 rfl hD (fun _ hw => RunV.move rfl) ?_
            refine SatD.tk 1 rfl hD (fun _ hw => RunV.move rfl) ?_
            refine SatD.tk 2 rfl hD (fun _ hw => RunV.move rfl) ?_
            refine SatD.tk 3 rfl hD (fun _ hw => RunV.move rfl) ?_
            refine SatD.tk 4 rfl hD (fun _ hw => RunV.indexR hv rfl rfl rfl (by omega) (by omega) rfl) ?_
            refine SatD.tk 5 rfl hD (fun _ hw => RunV.loadSeg i 0 (hrc.st hw List.not_mem_nil) rfl rfl (by omega) (map_get hy) (by repeat constructor)) ?_
            refine SatD.ef 6 rfl (OpW.enter rfl rfl rfl (rfl) (do_s y (by omega) hyo hS hP.bs hP.bd hP.ag hP.dk) ?_)
            rintro r6 w6 ⟨bb, S2, D2, L2, R2, rfl, hd, h⟩
            replace hS := hS.whole h
            obtain ⟨rfl, _, hP2⟩ := hP.next hyo hd
            refine keepS (hS.sel (by repeat constructor)) (fun hD => ?_)
            refine SatD.tk 7 rfl hD (fun _ hw => RunV.not rfl) ?_
            refine SatD.tk 8 rfl hD (fun _ hw => RunV.move rfl) ?_
            refine SatD.ways 59 rfl (fun h5 => ?_) (fun h5 => ?_)
            · (try simp only [cx, ne_eq] at h5)
              try (exfalso; (first | omega | exact h5 trivial | contradiction | (first | omega | (simp at h5; done))); done)
              all_goals
              refine SatD.sk 9 rfl [] hD ?_
              refine SatD.sk 10 rfl [] hD ?_
              refine SatD.sk 11 rfl [] hD ?_
              refine SatD.sk 12 rfl [] hD ?_
              refine SatD.tk 13 rfl hD (fun _ hw => RunV.pick_t rfl rfl) ?_
              refine SatD.tk 14 rfl hD (fun _ hw => RunV.move rfl) ?_
              refine SatD.sk 15 rfl [] hD ?_
              refine SatD.sk 16 rfl [] hD ?_
              refine SatD.sk 17 rfl [] hD ?_
              refine SatD.sk 18 rfl [] hD ?_
              refine SatD.sk 19 rfl [] hD ?_
              refine SatD.sk 20 rfl [] hD ?_
              refine SatD.sk 21 rfl [] hD ?_
              refine SatD.sk 22 rfl [] hD ?_
              refine SatD.sk 23 rfl [] hD ?_
              refine SatD.sk 24 rfl [] hD ?_
              refine SatD.sk 25 rfl [] hD ?_
              refine SatD.sk 26 rfl [] hD ?_
              refine SatD.sk 27 rfl [] hD ?_
              refine SatD.sk 28 rfl [] hD ?_
              refine SatD.sk 29 rfl [] hD ?_
              refine SatD.tk 30 rfl hD (fun _ hw => RunV.pick_t rfl rfl) ?_
              refine SatD.tk 31 rfl hD (fun _ hw => RunV.move rfl) ?_
              refine SatD.sk 32 rfl [] hD ?_
              refine SatD.sk 33 rfl [] hD ?_
              refine SatD.sk 34 rfl [] hD ?_
              refine SatD.sk 35 rfl [] hD ?_
              refine SatD.sk 36 rfl [] hD ?_
              refine SatD.sk 37 rfl [] hD ?_
              refine SatD.sk 38 rfl [] hD ?_
              refine SatD.sk 39 rfl [] hD ?_
              refine SatD.sk 40 rfl [] hD ?_
              refine SatD.sk 41 rfl [] hD ?_
              refine SatD.sk 42 rfl [] hD ?_
              refine SatD.sk 43 rfl [] hD ?_
              refine SatD.sk 44 rfl [] hD ?_
              refine SatD.sk 45 rfl [] hD ?_
              refine SatD.sk 46 rfl [] hD ?_
              refine SatD.sk 47 rfl [] hD ?_
              refine SatD.sk 48 rfl [] hD ?_
              refine SatD.tk 49 rfl hD (fun _ hw => RunV.pick_t rfl rfl) ?_
              refine SatD.done 0 (by kernel_rfl) (SatE.thenC ?_)
              clear hD
              refine SatC.weak (e' := [(0, _), (1, _), (2, _), (6, _), (7, _), (10, _), (11, _), (100, _)]) (by repeat constructor) ?_
              refine SatC.cond_t rfl ?_
              refine SatC.seq ?_
              refine SatC.region ?_
              refine SatL.pu (RunV.assign rfl) rfl ?_
              refine SatL.nil (SatE.thenC ?_)
              refine SatC.ret (SatE.blk_ret (SatE.then_ret (SatE.then_ret (SatE.blk_ret (SatE.then_ret ?_)))))
              refine SatE.ret1 rfl rfl ?_
              exact ⟨rfl, hS.sel (by repeat constructor)⟩
            · (try simp only [cx, ne_eq] at h5)
              try (exfalso; (first | omega | exact h5 trivial | contradiction | (first | omega | (simp at h5; done))); done)
              all_goals
              refine SatD.tk 9 rfl hD (fun _ hw => RunV.move rfl) ?_
              refine SatD.tk 10 rfl hD (fun _ hw => RunV.move rfl) ?_
              refine SatD.ef 11 rfl (OpW.enter rfl rfl rfl (rfl) (same_d hP2.rel hP2.ag hP2.dk hS.toOwn (fun s hs => (hP2.tg s hs).st hS)) ?_)
              rintro r7 w7 ⟨rfl, h⟩
              replace hS := St.callN hS h
              refine keepS (hS.sel (by repeat constructor)) (fun hD => ?_)
              refine SatD.tk 12 rfl hD (fun _ hw => RunV.not rfl) ?_
              refine SatD.tk 13 rfl hD (fun _ hw => RunV.pick_f rfl rfl) ?_
              refine SatD.tk 14 rfl hD (fun _ hw => RunV.move rfl) ?_
              refine SatD.ways 65 rfl (fun h6 => ?_) (fun h6 => ?_)
              · (try simp only [cx, ne_eq] at h6)
                try (exfalso; (first | omega | exact h6 trivial | contradiction | (first | omega | (simp at h6; done))); done)
                all_goals
                refine SatD.sk 15 rfl [] hD ?_
                refine SatD.sk 16 rfl [] hD ?_
                refine SatD.sk 17 rfl [] hD ?_
                refine SatD.sk 18 rfl [] hD ?_
                refine SatD.sk 19 rfl [] hD ?_
                refine SatD.sk 20 rfl [] hD ?_
                refine SatD.sk 21 rfl [] hD ?_
                refine SatD.sk 22 rfl [] hD ?_
                refine SatD.sk 23 rfl [] hD ?_
                refine SatD.sk 24 rfl [] hD ?_
                refine SatD.sk 25 rfl [] hD ?_
                refine SatD.sk 26 rfl [] hD ?_
                refine SatD.sk 27 rfl [] hD ?_
                refine SatD.sk 28 rfl [] hD ?_
                refine SatD.sk 29 rfl [] hD ?_
                refine SatD.tk 30 rfl hD (fun _ hw => RunV.pick_t rfl rfl) ?_
                refine SatD.tk 31 rfl hD (fun _ hw => RunV.move rfl) ?_
                refine SatD.sk 32 rfl [] hD ?_
                refine SatD.sk 33 rfl [] hD ?_
                refine SatD.sk 34 rfl [] hD ?_
                refine SatD.sk 35 rfl [] hD ?_
                refine SatD.sk 36 rfl [] hD ?_
                refine SatD.sk 37 rfl [] hD ?_
                refine SatD.sk 38 rfl [] hD ?_
                refine SatD.sk 39 rfl [] hD ?_
                refine SatD.sk 40 rfl [] hD ?_
                refine SatD.sk 41 rfl [] hD ?_
                refine SatD.sk 42 rfl [] hD ?_
                refine SatD.sk 43 rfl [] hD ?_
                refine SatD.sk 44 rfl [] hD ?_
                refine SatD.sk 45 rfl [] hD ?_
                refine SatD.sk 46 rfl [] hD ?_
                refine SatD.sk 47 rfl [] hD ?_
                refine SatD.sk 48 rfl [] hD ?_
                refine SatD.tk 49 rfl hD (fun _ hw => RunV.pick_t rfl rfl) ?_
                refine SatD.done 0 (by kernel_rfl) (SatE.thenC ?_)
                clear hD
                refine SatC.weak (e' := [(0, _), (1, _), (2, _), (6, _), (7, _), (10, _), (11, _), (100, _)]) (by repeat constructor) ?_
                refine SatC.cond_t rfl ?_
                refine SatC.seq ?_
                refine SatC.region ?_
                refine SatL.pu (RunV.assign rfl) rfl ?_
                refine SatL.nil (SatE.thenC ?_)
                refine SatC.ret (SatE.blk_ret (SatE.then_ret (SatE.then_ret (SatE.blk_ret (SatE.then_ret ?_)))))
                refine SatE.ret1 rfl rfl ?_
                exact ⟨rfl, hS.sel (by repeat constructor)⟩
              · (try simp only [cx, ne_eq] at h6)
                try (exfalso; (first | omega | exact h6 trivial | contradiction | (first | omega | (simp at h6; done))); done)
                all_goals
                refine SatD.tk 15 rfl hD (fun _ hw => RunV.move rfl) ?_
                refine SatD.tk 16 rfl hD (fun _ hw => RunV.move rfl) ?_
                refine SatD.tk 17 rfl hD (fun _ hw => RunV.move rfl) ?_
                refine SatD.tk 18 rfl hD (fun _ hw => RunV.indexR hv rfl rfl rfl (by omega) (by omega) rfl) ?_
                first | refine SatD.tk 19 rfl hD (fun _ hw => RunV.fieldAddrL rfl rfl rfl) ?_ | refine SatD.tk 19 rfl hD (fun _ hw => RunV.fieldAddr rfl rfl rfl) ?_
                refine SatD.tk 20 rfl hD (fun _ hw => RunV.loadR1g i 2 (hrc.st hw List.not_mem_nil) rfl rfl (by omega) (map_get hy) rfl) ?_
                refine SatD.tk 22 rfl hD (fun _ hw => RunV.move rfl) ?_
                refine SatD.tk 23 rfl hD (fun _ hw => RunV.move rfl) ?_
                refine SatD.tk 24 rfl hD (fun _ hw => RunV.move rfl) ?_
                refine SatD.tk 25 rfl hD (fun _ hw => RunV.indexR hv rfl rfl rfl (by omega) (by omega) rfl) ?_
                first | refine SatD.tk 26 rfl hD (fun _ hw => RunV.fieldAddrL rfl rfl rfl) ?_ | refine SatD.tk 26 rfl hD (fun _ hw => RunV.fieldAddr rfl rfl rfl) ?_
                refine SatD.tk 27 rfl hD (fun _ hw => RunV.loadR1g i 2 (hrc.st hw List.not_mem_nil) rfl rfl (by omega) (map_get hy) rfl) ?_
                refine SatD.ef 21 rfl (OpW.enter rfl rfl rfl (rfl) (health_e y.id hP2.rel hP2.ag (hS.ownT (A := L2) (by repeat constructor))) ?_)
                rintro r8 w8 ⟨rfl, h⟩
                replace hS := St.callN hS h
                refine keepS (hS.sel (by repeat constructor)) (fun hD => ?_)
                refine SatD.ef 28 rfl (OpW.enter rfl rfl rfl (rfl) (dhealth_ref y.id false hP2.dk (hS.ownT (A := R2) (by repeat constructor))) ?_)
                rintro r9 w9 ⟨rfl, h⟩
                replace hS := St.callN hS h
                refine keepS (hS.sel (by repeat constructor)) (fun hD => ?_)
                refine SatD.tk 29 rfl hD (fun _ hw => RunV.neq rfl rfl) ?_
                refine SatD.tk 30 rfl hD (fun _ hw => RunV.pick_f rfl rfl) ?_
                refine SatD.tk 31 rfl hD (fun _ hw => RunV.move rfl) ?_
                refine SatD.ways 82 rfl (fun h7 => ?_) (fun h7 => ?_)
                · (try simp only [cx, ne_eq] at h7)
                  try (exfalso; (first | omega | exact h7 trivial | contradiction | (first | omega | (simp at h7; done))); done)
                  all_goals
                  refine SatD.sk 32 rfl [] hD ?_
                  refine SatD.sk 33 rfl [] hD ?_
                  refine SatD.sk 34 rfl [] hD ?_
                  refine SatD.sk 35 rfl [] hD ?_
                  refine SatD.sk 36 rfl [] hD ?_
                  refine SatD.sk 37 rfl [] hD ?_
                  refine SatD.sk 38 rfl [] hD ?_
                  refine SatD.sk 39 rfl [] hD ?_
                  refine SatD.sk 40 rfl [] hD ?_
                  refine SatD.sk 41 rfl [] hD ?_
                  refine SatD.sk 42 rfl [] hD ?_
                  refine SatD.sk 43 rfl [] hD ?_
                  refine SatD.sk 44 rfl [] hD ?_
                  refine SatD.sk 45 rfl [] hD ?_
                  refine SatD.sk 46 rfl [] hD ?_
                  refine SatD.sk 47 rfl [] hD ?_
                  refine SatD.sk 48 rfl [] hD ?_
                  refine SatD.tk 49 rfl hD (fun _ hw => RunV.pick_t rfl rfl) ?_
                  refine SatD.done 0 (by kernel_rfl) (SatE.thenC ?_)
                  clear hD
                  refine SatC.weak (e' := [(0, _), (1, _), (2, _), (6, _), (7, _), (10, _), (11, _), (100, _)]) (by repeat constructor) ?_
                  refine SatC.cond_t rfl ?_
                  refine SatC.seq ?_
                  refine SatC.region ?_
                  refine SatL.pu (RunV.assign rfl) rfl ?_
                  refine SatL.nil (SatE.thenC ?_)
                  refine SatC.ret (SatE.blk_ret (SatE.then_ret (SatE.then_ret (SatE.blk_ret (SatE.then_ret ?_)))))
                  refine SatE.ret1 rfl rfl ?_
                  exact ⟨rfl, hS.sel (by repeat constructor)⟩
                · (try simp only [cx, ne_eq] at h7)
                  try (exfalso; (first | omega | exact h7 trivial | contradiction | (first | omega | (simp at h7; done))); done)
                  all_goals
                  refine SatD.tk 32 rfl hD (fun _ hw => RunV.move rfl) ?_
                  refine SatD.tk 33 rfl hD (fun _ hw => RunV.move rfl) ?_
                  refine SatD.tk 34 rfl hD (fun _ hw => RunV.move rfl) ?_
                  refine SatD.tk 35 rfl hD (fun _ hw => RunV.indexR hv rfl rfl rfl (by omega) (by omega) rfl) ?_
                  first | refine SatD.tk 36 rfl hD (fun _ hw => RunV.fieldAddrL rfl rfl rfl) ?_ | refine SatD.tk 36 rfl hD (fun _ hw => RunV.fieldAddr rfl rfl rfl) ?_
                  first | refine SatD.tk 37 rfl hD (fun _ hw => RunV.fieldAddrL rfl rfl rfl) ?_ | refine SatD.tk 37 rfl hD (fun _ hw => RunV.fieldAddr rfl rfl rfl) ?_
                  refine SatD.tk 38 rfl hD (fun _ hw => RunV.loadR1g i 4 (hrc.st hw List.not_mem_nil) rfl rfl (by omega) (map_get hy) rfl) ?_
                  refine SatD.tk 40 rfl hD (fun _ hw => RunV.move rfl) ?_
                  refine SatD.tk 41 rfl hD (fun _ hw => RunV.move rfl) ?_
                  refine SatD.tk 42 rfl hD (fun _ hw => RunV.move rfl) ?_
                  refine SatD.tk 43 rfl hD (fun _ hw => RunV.indexR hv rfl rfl rfl (by omega) (by omega) rfl) ?_
                  first | refine SatD.tk 44 rfl hD (fun _ hw => RunV.fieldAddrL rfl rfl rfl) ?_ | refine SatD.tk 44 rfl hD (fun _ hw => RunV.fieldAddr rfl rfl rfl) ?_
                  first | refine SatD.tk 45 rfl hD (fun _ hw => RunV.fieldAddrL rfl rfl rfl) ?_ | refine SatD.tk 45 rfl hD (fun _ hw => RunV.fieldAddr rfl rfl rfl) ?_
                  refine SatD.tk 46 rfl hD (fun _ hw => RunV.loadR1g i 4 (hrc.st hw List.not_mem_nil) rfl rfl (by omega) (map_get hy) rfl) ?_
                  refine SatD.ef 39 rfl (OpW.enter rfl rfl rfl (rfl) (health_e y.sid hP2.rel hP2.ag (hS.ownT (A := L2) (by repeat constructor))) ?_)
                  rintro r10 w10 ⟨rfl, h⟩
                  replace hS := St.callN hS h
                  refine keepS (hS.sel (by repeat constructor)) (fun hD => ?_)
                  refine SatD.ef 47 rfl (OpW.enter rfl rfl rfl (rfl) (dhealth_ref y.sid false hP2.dk (hS.ownT (A := R2) (by repeat constructor))) ?_)
                  rintro r11 w11 ⟨rfl, h⟩
                  replace hS := St.callN hS h
                  refine keepS (hS.sel (by repeat constructor)) (fun hD => ?_)
                  refine SatD.tk 48 rfl hD (fun _ hw => RunV.neq rfl rfl) ?_
                  refine SatD.tk 49 rfl hD (fun _ hw => RunV.pick_f rfl rfl) ?_
                  refine SatD.done 0 (by kernel_rfl) (SatE.thenC ?_)
                  clear hD
                  refine SatC.weak (e' := [(0, _), (1, _), (2, _), (6, _), (7, _), (10, _), (11, _), (100, _)]) (by repeat constructor) ?_
                  refine SatC.cond rfl (fun h8 => ?_) (fun h8 => ?_)
                  · (try simp only [cx, ne_eq] at h8)
                    try (exfalso; (first | omega | exact h8 trivial | contradiction | (first | omega | (simp at h8; done))); done)
                    all_goals
                    refine SatC.seq ?_
                    refine SatC.region ?_
                    refine SatL.pu (RunV.assign rfl) rfl ?_
                    refine SatL.nil (SatE.thenC ?_)
                    refine SatC.ret (SatE.blk_ret (SatE.then_ret (SatE.then_ret (SatE.blk_ret (SatE.then_ret ?_)))))
                    refine SatE.ret1 rfl rfl ?_
                    exact ⟨rfl, hS.sel (by repeat constructor)⟩
                  · (try simp only [cx, ne_eq] at h8)
                    try (exfalso; (first | omega | exact h8 trivial | contradiction | (first | omega | (simp at h8; done))); done)
                    all_goals
                    refine SatC.skip (SatE.blk_normal (SatE.thenC ?_))
                    refine SatC.region ?_
                    refine SatL.pu (RunV.move rfl) rfl ?_
                    refine SatL.pu (RunV.add rfl rfl (by first | exact wrapI64 (by omega) | rfl)) rfl ?_
                    refine SatL.pu (RunV.assign rfl) rfl ?_
                    refine SatL.nil ?_
                    refine SatE.again ((i + 1, S2, D2, L2, R2)) ?_ (by first | omega | (dsimp only; omega)) (by repeat constructor)
                    exact ⟨by omega, by omega, hP2.at (by omega), hS.sel (by repeat constructor)⟩
          · (try simp only [cx, ne_eq] at h4)
            try (exfalso; (first | omega | exact h4 trivial | contradiction | (first | omega | (simp at h4; done))); done)
            all_goals
            refine SatC.exit (SatE.then_exit (SatE.then_exit (SatE.blk_exit (SatE.thenC ?_))))
            refine SatC.seq ?_
            refine SatC.region ?_
            refine SatL.pu (RunV.move rfl) rfl ?_
            refine SatL.op rfl (OpW.enter rfl rfl rfl (rfl) (node_e hP.nd hP.ag (hS.ownT (A := L1) (by repeat constructor))) ?_)
            rintro r5 w5 ⟨rfl, h⟩
            replace hS := St.callN hS h
            refine SatL.pu (RunV.move rfl) rfl ?_
            refine SatL.pu (RunV.extract rfl rfl) rfl ?_
            refine SatL.pu (RunV.extract rfl rfl) rfl ?_
            refine SatL.pu (RunV.assign rfl) rfl ?_
            refine SatL.pu (RunV.assign rfl) rfl ?_
            refine SatL.nil (SatE.thenC ?_)
            refine SatC.seq ?_
            refine SatC.weak (e' := [(0, _), (1, _), (6, _), (12, _), (13, _)]) (by repeat constructor) ?_
            refine SatC.region ?_
            refine SatL.pu (RunV.move rfl) rfl ?_
            refine SatL.pu (RunV.move rfl) rfl ?_
            refine SatL.pu (RunV.eql rfl rfl) rfl ?_
            refine SatL.pu (RunV.move rfl) rfl ?_
            refine SatL.guard rfl rfl rfl (fun h5 => ?_) (fun h5 => ?_)
            · (try simp only [cx, ne_eq] at h5)
              try (exfalso; (first | omega | exact h5 trivial | contradiction | (first | omega | (simp at h5; done))); done)
              all_goals
              refine SatL.pu (RunV.move rfl) rfl ?_
              refine SatL.guard_y rfl rfl ?_
              refine SatL.pu (RunV.move rfl) rfl ?_
              refine SatL.guard_y rfl rfl ?_
              refine SatL.pu (RunV.seql rfl rfl) rfl ?_
              refine SatL.pu (RunV.pick_t rfl rfl) rfl ?_
              refine SatL.pu (RunV.move rfl) rfl ?_
              refine SatL.guard rfl rfl rfl (fun h6 => ?_) (fun h6 => ?_)
              · (try simp only [cx, ne_eq] at h6)
                try (exfalso; (first | omega | exact h6 trivial | contradiction | (first | omega | (simp at h6; done))); done)
                all_goals
                refine SatL.op rfl (OpW.enter rfl rfl rfl (rfl) (works_any _) ?_)
                rintro r6 w6 ⟨rfl, h⟩
                replace hS := St.callN hS h
                refine SatL.pu (RunV.pick_t rfl rfl) rfl ?_
                refine SatL.pu (RunV.assign rfl) rfl ?_
                refine SatL.nil (SatE.thenC ?_)
                refine SatC.ret ?_
                refine SatE.ret1 rfl rfl ?_
                exact ⟨rfl, hS.sel (by repeat constructor)⟩
              · (try simp only [cx, ne_eq] at h6)
                try (exfalso; (first | omega | exact h6 trivial | contradiction | (first | omega | (simp at h6; done))); done)
                all_goals
                refine SatL.pu (RunV.pick_f rfl rfl) rfl ?_
                refine SatL.pu (RunV.assign rfl) rfl ?_
                refine SatL.nil (SatE.thenC ?_)
                refine SatC.ret ?_
                refine SatE.ret1 rfl rfl ?_
                exact ⟨rfl, hS.sel (by repeat constructor)⟩
            · (try simp only [cx, ne_eq] at h5)
              try (exfalso; (first | omega | exact h5 trivial | contradiction | (first | omega | (simp at h5; done))); done)
              all_goals
              refine SatL.guard_n rfl rfl rfl rfl ?_
              refine SatL.guard_n rfl rfl rfl rfl ?_
              refine SatL.pu (RunV.pick_f rfl rfl) rfl ?_
              refine SatL.pu (RunV.move rfl) rfl ?_
              refine SatL.guard_n rfl rfl rfl rfl ?_
              refine SatL.pu (RunV.pick_f rfl rfl) rfl ?_
              refine SatL.pu (RunV.assign rfl) rfl ?_
              refine SatL.nil (SatE.thenC ?_)
              refine SatC.ret ?_
              refine SatE.ret1 rfl rfl ?_
              exact ⟨rfl, hS.sel (by repeat constructor)⟩
        · (try simp only [cx, ne_eq] at h3)
          try (exfalso; (first | omega | exact h3 trivial | contradiction | (first | omega | (simp at h3; done))); done)
          all_goals
          refine SatL.guard_n rfl rfl rfl rfl ?_
          refine SatL.pu (RunV.pick_f rfl rfl) rfl ?_
          refine SatL.nil (SatE.thenC ?_)
          refine SatC.cond_f rfl ?_
          refine SatC.exit (SatE.then_exit (SatE.then_exit (SatE.blk_exit (SatE.thenC ?_))))
          refine SatC.seq ?_
          refine SatC.region ?_
          refine SatL.pu (RunV.move rfl) rfl ?_
          refine SatL.op rfl (OpW.enter rfl rfl rfl (rfl) (node_e hP.nd hP.ag (hS.ownT (A := L1) (by repeat constructor))) ?_)
          rintro r5 w5 ⟨rfl, h⟩
          replace hS := St.callN hS h
          refine SatL.pu (RunV.move rfl) rfl ?_
          refine SatL.pu (RunV.extract rfl rfl) rfl ?_
          refine SatL.pu (RunV.extract rfl rfl) rfl ?_
          refine SatL.pu (RunV.assign rfl) rfl ?_
          refine SatL.pu (RunV.assign rfl) rfl ?_
          refine SatL.nil (SatE.thenC ?_)
          refine SatC.seq ?_
          refine SatC.weak (e' := [(0, _), (1, _), (6, _), (12, _), (13, _)]) (by repeat constructor) ?_
          refine SatC.region ?_
          refine SatL.pu (RunV.move rfl) rfl ?_
          refine SatL.pu (RunV.move rfl) rfl ?_
          refine SatL.pu (RunV.eql rfl rfl) rfl ?_
          refine SatL.pu (RunV.move rfl) rfl ?_
          refine SatL.guard rfl rfl rfl (fun h4 => ?_) (fun h4 => ?_)
          · (try simp only [cx, ne_eq] at h4)
            try (exfalso; (first | omega | exact h4 trivial | contradiction | (first | omega | (simp at h4; done))); done)
            all_goals
            refine SatL.pu (RunV.move rfl) rfl ?_
            refine SatL.guard_y rfl rfl ?_
            refine SatL.pu (RunV.move rfl) rfl ?_
            refine SatL.guard_y rfl rfl ?_
            refine SatL.pu (RunV.seql rfl rfl) rfl ?_
            refine SatL.pu (RunV.pick_t rfl rfl) rfl ?_
            refine SatL.pu (RunV.move rfl) rfl ?_
            refine SatL.guard rfl rfl rfl (fun h5 => ?_) (fun h5 => ?_)
            · (try simp only [cx, ne_eq] at h5)
              try (exfalso; (first | omega | exact h5 trivial | contradiction | (first | omega | (simp at h5; done))); done)
              all_goals
              refine SatL.op rfl (OpW.enter rfl rfl rfl (rfl) (works_any _) ?_)
              rintro r6 w6 ⟨rfl, h⟩
              replace hS := St.callN hS h
              refine SatL.pu (RunV.pick_t rfl rfl) rfl ?_
              refine SatL.pu (RunV.assign rfl) rfl ?_
              refine SatL.nil (SatE.thenC ?_)
              refine SatC.ret ?_
              refine SatE.ret1 rfl rfl ?_
              exact ⟨rfl, hS.sel (by repeat constructor)⟩
            · (try simp only [cx, ne_eq] at h5)
              try (exfalso; (first | omega | exact h5 trivial | contradiction | (first | omega | (simp at h5; done))); done)
              all_goals
              refine SatL.pu (RunV.pick_f rfl rfl) rfl ?_
              refine SatL.pu (RunV.assign rfl) rfl ?_
              refine SatL.nil (SatE.thenC ?_)
              refine SatC.ret ?_
              refine SatE.ret1 rfl rfl ?_
              exact ⟨rfl, hS.sel (by repeat constructor)⟩
          · (try simp only [cx, ne_eq] at h4)
            try (exfalso; (first | omega | exact h4 trivial | contradiction | (first | omega | (simp at h4; done))); done)
            all_goals
            refine SatL.guard_n rfl rfl rfl rfl ?_
            refine SatL.guard_n rfl rfl rfl rfl ?_
            refine SatL.pu (RunV.pick_f rfl rfl) rfl ?_
            refine SatL.pu (RunV.move rfl) rfl ?_
            refine SatL.guard_n rfl rfl rfl rfl ?_
            refine SatL.pu (RunV.pick_f rfl rfl) rfl ?_
            refine SatL.pu (RunV.assign rfl) rfl ?_
            refine SatL.nil (SatE.thenC ?_)
            refine SatC.ret ?_
            refine SatE.ret1 rfl rfl ?_
            exact ⟨rfl, hS.sel (by repeat constructor)⟩
  · exact plays_no n a v W hal hn
theorem localPlays_lifted (os : Os) (started : os.Started) (H : Type) (enc : TypeId × Value → H) :
    ReturnsInHanded {} Try.checked os 5 .any (Rows.localPlaysSpec.pre6 enc Try.prog Try.f5 Rows.localPlaysRow.domain false) (Rows.localPlaysSpec.post enc Try.prog Try.f5 false true false false) := by
  refine law_returns (C := Try.checked) (b := 4) (by kernel_rfl) started (by kernel_rfl) Try.func5
    (ChangeSpec.witness6 (enc := enc) (C := Try.checked) false ⟨#[], #[.int .i64 0, .string ⟨#[]⟩, .slice none 0 0], []⟩ 8 (by kernel_rfl) (by kernel_rfl) (by kernel_rfl) (by kernel_rfl))
    rfl rfl (by kernel_rfl) (by kernel_rfl) (by kernel_rfl) (fun ds h => ?_) ?_
  · rw [Try.params5] at h
    match ds, h with
    | [_, _, _], _ => rfl
  intro W base args ds ps hval hA hsz
  rw [Try.params5] at hA hval
  obtain ⟨v0, v1, v2, d0, d1, d2, q0, q1, q2, hargs, rfl, rfl, h0, h1, h2⟩ := trodAll_three hA
  subst hargs
  obtain ⟨a0, rfl, rfl, rfl, b0⟩ := open_int Try.underlying3 (hval 0 3 v0 rfl rfl) h0
  replace b0 := bnd_i64 b0
  obtain ⟨a1, rfl, rfl, rfl, b1⟩ := open_string Try.underlying9 (hval 1 9 v1 rfl rfl) h1
  obtain ⟨xs2, hr2, hx2⟩ := open_rows (l := [3, 3, 9, 3, 9, 9, 27, 3, 28, 28, 3, 9, 9, 9, 3, 28, 28, 3, 3, 3, 3, 9, 3]) 6 Try.underlying22 (by kernel_rfl) (by kernel_rfl) (by decide) (hval 2 22 v2 rfl rfl) h2
  obtain ⟨ys2, rfl, hy2⟩ := sp_rows hx2
  exact law_done (plays_any a0 a1.data.toList ys2 _ W (str_max b1) hr2 hy2)
theorem localPlays_holds : Rows.LocalPlaysSaid :=
  OpenClaim.holds_of_wide 5 Try.f5 rfl rfl rfl rfl rfl rfl rfl ⟨rfl, rfl, rfl, rfl, rfl⟩ rfl rfl rfl rfl rfl (by kernel_rfl) Try.func5 (by kernel_rfl)
    (of_decide_eq_true (by kernel_rfl)) (by unfold Func.isWrapper; first | (rw [if_pos (by decide +kernel)]; kernel_rfl) | (rw [if_neg (by decide +kernel)]; exact ⟨rfl, rfl⟩))
    (fun os started H enc _ => localPlays_lifted os started H enc)
end Go.Proofs.Ytbnkcagcfbpiiaa
