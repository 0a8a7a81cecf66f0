/- NameSorts: sets of texts, both sides. -/
import Derived.Test.YtkmgnplaokogbaaR
import Derived.Test.YtkmgnplaokogbaaSo
import Derived.Test.YtkmgnplaokogbaaK7
import Derived.Test.YtkmgnplaokogbaaK16
import Derived.Test.YtkmgnplaokogbaaRows
set_option linter.unusedSimpArgs false
set_option linter.unusedVariables false
set_option maxRecDepth 100000
set_option maxHeartbeats 1000000
namespace Go.Proofs.Ytkmgnplaokogbaa
open Go.RowKit Go.ChangeShapes Go.WideShapes Go.ChangeAt
theorem sorts_any (v : Value) (ys : List Tx) (x : Tx) (w : World) (hr : RdRow w v 1 (ys.map rs)) : Ret Try.prog 7 #[v, str x] w fun u w' => u = .bool true ∧ St w [] [] w' := by
  have hS := St.init0 w
  obtain ⟨bl, ol, cl, hvl, hmaxl, hcl, hltl⟩ := hr.open
  simp only [List.length_map] at hvl hmaxl hltl
  refine Ret.enter Try.func7 Try.ntmps7 rfl rfl ?_
  simp only [argEnv, Nat.reduceAdd]
  refine SatC.seq ?_
  refine SatC.region ?_
  refine SatL.pu (RunV.assign rfl) rfl ?_
  refine SatL.nil (SatE.thenC ?_)
  refine SatC.merge (G := List Tx × Value) (V := fun ⟨zs, vz⟩ => [(0, vz)]) (Cn := [(1, _), (4, _)]) (I := fun ⟨zs, vz⟩ w' => RdRow w vz 1 (zs.map rs) ∧ zs.length ≤ 60 ∧ St w [] [] w') (by repeat constructor) ?_ ?_
  · skip
    refine SatC.seq ?_
    refine SatC.region ?_
    refine SatL.pu (RunV.move rfl) rfl ?_
    first | refine SatL.pu (RunV.lenR (by assumption) rfl rfl) rfl ?_ | refine SatL.pu (RunV.lenS rfl rfl) rfl ?_
    refine SatL.pu (RunV.gtr rfl rfl) rfl ?_
    refine SatL.nil (SatE.thenC ?_)
    refine SatC.cond rfl (fun h1 => ?_) (fun h1 => ?_)
    · (try simp only [cx, ne_eq] at h1)
      try (exfalso; (first | omega | exact h1 trivial | contradiction | exact h1 rfl); done)
      all_goals
      refine SatC.region ?_
      refine SatL.pu (RunV.move rfl) rfl ?_
      refine SatL.op rfl (OpW.cutH (by assumption) rfl rfl rfl rfl (by omega) (by omega) rfl ?_)
      intro v12 hv12
      refine SatL.pu (RunV.assign rfl) rfl ?_
      refine SatL.nil ?_
      refine SatE.met ((ys.take 60, v12)) ?_ (by repeat constructor)
      refine ⟨RdRow.of hv12 (by simp; omega) (by simp; omega) ?_ (by decide), by rw [List.length_take]; omega, hS⟩
      rw [List.map_take]
      exact hcl.take
    · (try simp only [cx, ne_eq] at h1)
      try (exfalso; (first | omega | exact h1 trivial | contradiction | exact h1 rfl); done)
      all_goals
      refine SatC.skip ?_
      refine SatE.met ((ys, v)) ?_ (by repeat constructor)
      exact ⟨hr, by omega, hS⟩
  · clear hS
    rintro ⟨zs, vz⟩ w61 ⟨hrz, hlz, hS⟩
    refine SatC.weak (e' := [(0, _), (1, _), (4, _)]) (by repeat constructor) ?_
    refine SatC.seq ?_
    obtain ⟨bz, oz, cz, hvz, hmz, hcz, hltz⟩ := hrz.open
    simp only [List.length_map] at hvz hmz hltz
    refine SatC.region ?_
    refine SatL.op rfl (OpW.buildSlice0 hS rfl rfl rfl ?_)
    clear hS
    intro v13 b13 w62 _ hsl13 hv13 hS
    refine SatL.pu (RunV.move rfl) rfl ?_
    refine SatL.op rfl (OpW.appendN hsl13 hS (by repeat constructor) hvz (hcz.st hS List.not_mem_nil) (by rw [List.length_map]) rfl rfl rfl rfl rfl rfl rfl (tx_one zs) (by simp only [List.length_nil]; omega) rfl ?_)
    clear hS
    intro v15 B15 w63 hsl15 hS
    rw [List.nil_append] at hsl15
    refine SatL.pu (RunV.assign rfl) rfl ?_
    refine SatL.nil (SatE.thenC ?_)
    refine SatC.seq ?_
    refine SatC.region ?_
    refine SatL.pu (RunV.move rfl) rfl ?_
    refine SatL.op rfl (OpW.enter rfl rfl rfl (rfl) (sorted_any _ zs _ (RdRow.st hrz hS) (by omega)) ?_)
    rintro r64 w64 ⟨r1, B1, hset1, hs1, h⟩
    replace hS := hS.call0 h
    have hlen1 := set_len hset1
    refine SatL.pu (RunV.assign rfl) rfl ?_
    refine SatL.nil (SatE.thenC ?_)
    refine SatC.seq ?_
    refine SatC.region ?_
    refine SatL.pu (RunV.move rfl) rfl ?_
    refine SatL.op rfl (OpW.enter rfl rfl rfl (rfl) (rsorted_any _ zs _ (RdRow.st hrz hS) (by omega)) ?_)
    rintro r65 w65 ⟨r2, B2, hset2, hs2, h⟩
    replace hS := hS.call0 h
    obtain rfl : r1 = r2 := set_eq hset1 hset2 (fun _ => Iff.rfl)
    refine SatL.pu (RunV.assign rfl) rfl ?_
    refine SatL.nil (SatE.thenC ?_)
    refine SatC.seq ?_
    refine SatC.seq ?_
    refine SatC.region ?_
    refine SatL.pu (RunV.move rfl) rfl ?_
    refine SatL.pu (RunV.move rfl) rfl ?_
    refine SatL.op rfl (OpW.enter rfl rfl rfl (rfl) (same_any _ _ _ _ _ (by first | assumption | exact RdRow.st (by assumption) hS | exact Sl.row (by assumption) hS (by repeat constructor) (by first | omega | (simp only [List.length_map, List.length_append, List.length_take]; omega)) | exact RdRow.nil) (by first | assumption | exact RdRow.st (by assumption) hS | exact Sl.row (by assumption) hS (by repeat constructor) (by first | omega | (simp only [List.length_map, List.length_append, List.length_take]; omega)) | exact RdRow.nil)) ?_)
    rintro r66 w66 ⟨rfl, h⟩
    replace hS := St.callN hS h
    refine SatL.pu (RunV.not rfl) rfl ?_
    refine SatL.pu (RunV.move rfl) rfl ?_
    refine SatL.guard rfl rfl rfl (fun h1 => ?_) (fun h1 => ?_)
    · (try simp only [cx, ne_eq] at h1)
      try (exfalso; (first | omega | exact h1 trivial | contradiction | exact h1 rfl); done)
      all_goals
      refine SatL.pu (RunV.move rfl) rfl ?_
      refine SatL.guard_y rfl rfl ?_
      refine SatL.pu (RunV.move rfl) rfl ?_
      refine SatL.guard_y rfl rfl ?_
      refine SatL.op rfl (OpW.enter rfl rfl rfl (rfl) (same_any _ _ zs zs _ (RdRow.st hrz hS) (by first | assumption | exact RdRow.st (by assumption) hS | exact Sl.row (by assumption) hS (by repeat constructor) (by first | omega | (simp only [List.length_map, List.length_append, List.length_take]; omega)) | exact RdRow.nil)) ?_)
      rintro r67 w67 ⟨rfl, h⟩
      replace hS := St.callN hS h
      refine SatL.guard_y rfl rfl ?_
      refine SatL.pu (RunV.not rfl) rfl ?_
      refine SatL.pu (RunV.pick_f rfl rfl) rfl ?_
      refine SatL.nil (SatE.thenC ?_)
      refine SatC.weak (e' := [(1, _), (4, _), (6, _), (7, _), (29, _)]) (by repeat constructor) ?_
      refine SatC.cond rfl (fun h2 => ?_) (fun h2 => ?_)
      · (try simp only [cx, ne_eq] at h2)
        try (exfalso; (first | omega | exact h2 trivial | contradiction | exact h2 rfl); done)
        all_goals
        refine SatC.seq ?_
        refine SatC.region ?_
        refine SatL.pu (RunV.assign rfl) rfl ?_
        refine SatL.nil (SatE.thenC ?_)
        refine SatC.ret (SatE.then_ret ?_)
        refine SatE.ret1 rfl rfl ?_
        exact ⟨by first | rfl | simp, hS.sub (List.nil_sublist _)⟩
      · (try simp only [cx, ne_eq] at h2)
        try (exfalso; (first | omega | exact h2 trivial | contradiction | exact h2 rfl); done)
        all_goals
        refine SatC.skip (SatE.thenC ?_)
        refine SatC.seq ?_
        refine SatC.seq ?_
        refine SatC.region ?_
        refine SatL.pu (RunV.move rfl) rfl ?_
        refine SatL.pu (RunV.move rfl) rfl ?_
        refine SatL.op rfl (OpW.enter rfl rfl rfl (rfl) (has_any _ _ _ _ (by first | assumption | exact RdRow.st (by assumption) hS | exact Sl.row (by assumption) hS (by repeat constructor) (by first | omega | (simp only [List.length_map, List.length_append, List.length_take]; omega)) | exact RdRow.nil) (by omega) hset1.1) ?_)
        rintro r68 w68 ⟨rfl, h⟩
        replace hS := St.callN hS h
        refine SatL.pu (RunV.move rfl) rfl ?_
        refine SatL.pu (RunV.move rfl) rfl ?_
        refine SatL.op rfl (OpW.enter rfl rfl rfl (rfl) (rhas_any _ _ _ _ (by first | assumption | exact RdRow.st (by assumption) hS | exact Sl.row (by assumption) hS (by repeat constructor) (by first | omega | (simp only [List.length_map, List.length_append, List.length_take]; omega)) | exact RdRow.nil)) ?_)
        rintro r69 w69 ⟨rfl, h⟩
        replace hS := St.callN hS h
        refine SatL.pu (RunV.bneq rfl rfl rfl) rfl ?_
        refine SatL.pu (RunV.move rfl) rfl ?_
        refine SatL.guard rfl rfl rfl (fun h3 => ?_) (fun h3 => ?_)
        · (try simp only [cx, ne_eq] at h3)
          try (exfalso; (first | omega | exact h3 trivial | contradiction | exact h3 rfl); done)
          all_goals
          refine SatL.pu (RunV.move rfl) rfl ?_
          refine SatL.guard_y rfl rfl ?_
          refine SatL.pu (RunV.move rfl) rfl ?_
          refine SatL.guard_y rfl rfl ?_
          refine SatL.op rfl (OpW.enter rfl rfl rfl (rfl) (with_any _ r1 x _ (by first | assumption | exact RdRow.st (by assumption) hS | exact Sl.row (by assumption) hS (by repeat constructor) (by first | omega | (simp only [List.length_map, List.length_append, List.length_take]; omega)) | exact RdRow.nil) (by omega)) ?_)
          rintro r70 w70 ⟨r3, B3, hset3, hs3, h⟩
          replace hS := hS.call0 h
          have hlen3 := set_len hset3
          rw [List.length_cons] at hlen3
          refine SatL.guard_y rfl rfl ?_
          refine SatL.pu (RunV.move rfl) rfl ?_
          refine SatL.guard_y rfl rfl ?_
          refine SatL.pu (RunV.move rfl) rfl ?_
          refine SatL.guard_y rfl rfl ?_
          refine SatL.op rfl (OpW.enter rfl rfl rfl (rfl) (rwith_any _ r1 x _ (by first | assumption | exact RdRow.st (by assumption) hS | exact Sl.row (by assumption) hS (by repeat constructor) (by first | omega | (simp only [List.length_map, List.length_append, List.length_take]; omega)) | exact RdRow.nil) (by omega) hset1.1) ?_)
          rintro r71 w71 ⟨r4, B4, hset4, hl4, hs4, h⟩
          replace hS := hS.call0 h
          obtain rfl : r3 = r4 := set_eq hset3 hset4 (fun _ => Iff.rfl)
          refine SatL.guard_y rfl rfl ?_
          refine SatL.op rfl (OpW.enter rfl rfl rfl (rfl) (same_any _ _ _ _ _ (by first | assumption | exact RdRow.st (by assumption) hS | exact Sl.row (by assumption) hS (by repeat constructor) (by first | omega | (simp only [List.length_map, List.length_append, List.length_take]; omega)) | exact RdRow.nil) (by first | assumption | exact RdRow.st (by assumption) hS | exact Sl.row (by assumption) hS (by repeat constructor) (by first | omega | (simp only [List.length_map, List.length_append, List.length_take]; omega)) | exact RdRow.nil)) ?_)
          rintro r72 w72 ⟨rfl, h⟩
          replace hS := St.callN hS h
          refine SatL.guard_y rfl rfl ?_
          refine SatL.pu (RunV.not rfl) rfl ?_
          refine SatL.pu (RunV.pick_f rfl rfl) rfl ?_
          refine SatL.pu (RunV.move rfl) rfl ?_
          refine SatL.guard rfl rfl rfl (fun h4 => ?_) (fun h4 => ?_)
          · (try simp only [cx, ne_eq] at h4)
            try (exfalso; (first | omega | exact h4 trivial | contradiction | exact h4 rfl); done)
            all_goals
            refine SatL.pu (RunV.move rfl) rfl ?_
            refine SatL.guard_y rfl rfl ?_
            refine SatL.pu (RunV.move rfl) rfl ?_
            refine SatL.guard_y rfl rfl ?_
            refine SatL.op rfl (OpW.enter rfl rfl rfl (rfl) (without_any _ r1 x _ (by first | assumption | exact RdRow.st (by assumption) hS | exact Sl.row (by assumption) hS (by repeat constructor) (by first | omega | (simp only [List.length_map, List.length_append, List.length_take]; omega)) | exact RdRow.nil) (by omega)) ?_)
            rintro r73 w73 ⟨B5, hs5, h⟩
            replace hS := hS.call0 h
            have hlen5 : (r1.filter fun y => decide (¬ y = x)).length ≤ 60 := Nat.le_trans (List.length_filter_le ..) (by omega)
            refine SatL.guard_y rfl rfl ?_
            refine SatL.pu (RunV.move rfl) rfl ?_
            refine SatL.guard_y rfl rfl ?_
            refine SatL.pu (RunV.move rfl) rfl ?_
            refine SatL.guard_y rfl rfl ?_
            refine SatL.op rfl (OpW.enter rfl rfl rfl (rfl) (rwithout_any _ r1 x _ (by first | assumption | exact RdRow.st (by assumption) hS | exact Sl.row (by assumption) hS (by repeat constructor) (by first | omega | (simp only [List.length_map, List.length_append, List.length_take]; omega)) | exact RdRow.nil) (by omega)) ?_)
            rintro r74 w74 ⟨B6, hs6, h⟩
            replace hS := hS.call0 h
            refine SatL.guard_y rfl rfl ?_
            refine SatL.op rfl (OpW.enter rfl rfl rfl (rfl) (same_any _ _ _ _ _ (by first | assumption | exact RdRow.st (by assumption) hS | exact Sl.row (by assumption) hS (by repeat constructor) (by first | omega | (simp only [List.length_map, List.length_append, List.length_take]; omega)) | exact RdRow.nil) (by first | assumption | exact RdRow.st (by assumption) hS | exact Sl.row (by assumption) hS (by repeat constructor) (by first | omega | (simp only [List.length_map, List.length_append, List.length_take]; omega)) | exact RdRow.nil)) ?_)
            rintro r75 w75 ⟨rfl, h⟩
            replace hS := St.callN hS h
            refine SatL.guard_y rfl rfl ?_
            refine SatL.pu (RunV.not rfl) rfl ?_
            refine SatL.pu (RunV.pick_f rfl rfl) rfl ?_
            refine SatL.nil (SatE.thenC ?_)
            refine SatC.weak (e' := [(4, _), (6, _), (7, _), (56, _)]) (by repeat constructor) ?_
            refine SatC.cond rfl (fun h5 => ?_) (fun h5 => ?_)
            · (try simp only [cx, ne_eq] at h5)
              try (exfalso; (first | omega | exact h5 trivial | contradiction | exact h5 rfl); done)
              all_goals
              refine SatC.seq ?_
              refine SatC.region ?_
              refine SatL.pu (RunV.assign rfl) rfl ?_
              refine SatL.nil (SatE.thenC ?_)
              refine SatC.ret (SatE.then_ret ?_)
              refine SatE.ret1 rfl rfl ?_
              exact ⟨by first | rfl | simp, hS.sub (List.nil_sublist _)⟩
            · (try simp only [cx, ne_eq] at h5)
              try (exfalso; (first | omega | exact h5 trivial | contradiction | exact h5 rfl); done)
              all_goals
              refine SatC.skip (SatE.thenC ?_)
              refine SatC.seq ?_
              refine SatC.region ?_
              refine SatL.pu (RunV.move rfl) rfl ?_
              refine SatL.pu (RunV.move rfl) rfl ?_
              refine SatL.op rfl (OpW.enter rfl rfl rfl (rfl) (same_any _ _ _ _ _ (by first | assumption | exact RdRow.st (by assumption) hS | exact Sl.row (by assumption) hS (by repeat constructor) (by first | omega | (simp only [List.length_map, List.length_append, List.length_take]; omega)) | exact RdRow.nil) (by first | assumption | exact RdRow.st (by assumption) hS | exact Sl.row (by assumption) hS (by repeat constructor) (by first | omega | (simp only [List.length_map, List.length_append, List.length_take]; omega)) | exact RdRow.nil)) ?_)
              rintro r76 w76 ⟨rfl, h⟩
              replace hS := St.callN hS h
              refine SatL.pu (RunV.move rfl) rfl ?_
              refine SatL.guard rfl rfl rfl (fun h6 => ?_) (fun h6 => ?_)
              · (try simp only [cx, ne_eq] at h6)
                try (exfalso; (first | omega | exact h6 trivial | contradiction | exact h6 rfl); done)
                all_goals
                refine SatL.op rfl (OpW.enter rfl rfl rfl (rfl) (works_any _) ?_)
                rintro r77 w77 ⟨rfl, h⟩
                replace hS := St.callN hS h
                refine SatL.pu (RunV.pick_t rfl rfl) rfl ?_
                refine SatL.pu (RunV.assign rfl) rfl ?_
                refine SatL.nil (SatE.thenC ?_)
                refine SatC.ret ?_
                refine SatE.ret1 rfl rfl ?_
                exact ⟨by first | rfl | simp, hS.sub (List.nil_sublist _)⟩
              · (try simp only [cx, ne_eq] at h6)
                try (exfalso; (first | omega | exact h6 trivial | contradiction | exact h6 rfl); done)
                all_goals
                refine SatL.pu (RunV.pick_f rfl rfl) rfl ?_
                refine SatL.pu (RunV.assign rfl) rfl ?_
                refine SatL.nil (SatE.thenC ?_)
                refine SatC.ret ?_
                refine SatE.ret1 rfl rfl ?_
                exact ⟨by first | rfl | simp, hS.sub (List.nil_sublist _)⟩
          · (try simp only [cx, ne_eq] at h4)
            try (exfalso; (first | omega | exact h4 trivial | contradiction | exact h4 rfl); done)
            all_goals
            refine SatL.guard_n rfl rfl rfl rfl ?_
            refine SatL.guard_n rfl rfl rfl rfl ?_
            refine SatL.guard_n rfl rfl rfl rfl ?_
            refine SatL.guard_n rfl rfl rfl rfl ?_
            refine SatL.guard_n rfl rfl rfl rfl ?_
            refine SatL.guard_n rfl rfl rfl rfl ?_
            refine SatL.guard_n rfl rfl rfl rfl ?_
            refine SatL.pu (RunV.pick_t rfl rfl) rfl ?_
            refine SatL.nil (SatE.thenC ?_)
            refine SatC.weak (e' := [(4, _), (6, _), (7, _), (56, _)]) (by repeat constructor) ?_
            refine SatC.cond_t rfl ?_
            refine SatC.seq ?_
            refine SatC.region ?_
            refine SatL.pu (RunV.assign rfl) rfl ?_
            refine SatL.nil (SatE.thenC ?_)
            refine SatC.ret (SatE.then_ret ?_)
            refine SatE.ret1 rfl rfl ?_
            exact ⟨by first | rfl | simp, hS.sub (List.nil_sublist _)⟩
        · (try simp only [cx, ne_eq] at h3)
          try (exfalso; (first | omega | exact h3 trivial | contradiction | exact h3 rfl); done)
          all_goals
          refine SatL.guard_n rfl rfl rfl rfl ?_
          refine SatL.guard_n rfl rfl rfl rfl ?_
          refine SatL.guard_n rfl rfl rfl rfl ?_
          refine SatL.guard_n rfl rfl rfl rfl ?_
          refine SatL.guard_n rfl rfl rfl rfl ?_
          refine SatL.guard_n rfl rfl rfl rfl ?_
          refine SatL.guard_n rfl rfl rfl rfl ?_
          refine SatL.pu (RunV.pick_t rfl rfl) rfl ?_
          refine SatL.pu (RunV.move rfl) rfl ?_
          refine SatL.guard_n rfl rfl rfl rfl ?_
          refine SatL.guard_n rfl rfl rfl rfl ?_
          refine SatL.guard_n rfl rfl rfl rfl ?_
          refine SatL.guard_n rfl rfl rfl rfl ?_
          refine SatL.guard_n rfl rfl rfl rfl ?_
          refine SatL.guard_n rfl rfl rfl rfl ?_
          refine SatL.guard_n rfl rfl rfl rfl ?_
          refine SatL.guard_n rfl rfl rfl rfl ?_
          refine SatL.pu (RunV.pick_t rfl rfl) rfl ?_
          refine SatL.nil (SatE.thenC ?_)
          refine SatC.weak (e' := [(4, _), (6, _), (7, _), (56, _)]) (by repeat constructor) ?_
          refine SatC.cond_t rfl ?_
          refine SatC.seq ?_
          refine SatC.region ?_
          refine SatL.pu (RunV.assign rfl) rfl ?_
          refine SatL.nil (SatE.thenC ?_)
          refine SatC.ret (SatE.then_ret ?_)
          refine SatE.ret1 rfl rfl ?_
          exact ⟨by first | rfl | simp, hS.sub (List.nil_sublist _)⟩
    · (try simp only [cx, ne_eq] at h1)
      try (exfalso; (first | omega | exact h1 trivial | contradiction | exact h1 rfl); done)
      all_goals
      refine SatL.guard_n rfl rfl rfl rfl ?_
      refine SatL.guard_n rfl rfl rfl rfl ?_
      refine SatL.guard_n rfl rfl rfl rfl ?_
      refine SatL.pu (RunV.pick_t rfl rfl) rfl ?_
      refine SatL.nil (SatE.thenC ?_)
      refine SatC.weak (e' := [(1, _), (4, _), (6, _), (7, _), (29, _)]) (by repeat constructor) ?_
      refine SatC.cond_t rfl ?_
      refine SatC.seq ?_
      refine SatC.region ?_
      refine SatL.pu (RunV.assign rfl) rfl ?_
      refine SatL.nil (SatE.thenC ?_)
      refine SatC.ret (SatE.then_ret ?_)
      refine SatE.ret1 rfl rfl ?_
      exact ⟨by first | rfl | simp, hS.sub (List.nil_sublist _)⟩
theorem nameSorts_lifted (os : Os) (started : os.Started) (H : Type) (enc : TypeId × Value → H) :
    ReturnsInHanded {} Try.checked os 7 .any (Rows.nameSortsSpec.pre6 enc Try.prog Try.f7 Rows.nameSortsRow.domain false) (Rows.nameSortsSpec.post enc Try.prog Try.f7 false true false false) := by
  refine law_returns (C := Try.checked) (b := 4) (by kernel_rfl) started (by kernel_rfl) Try.func7
    (ChangeSpec.witness6 (enc := enc) (C := Try.checked) false ⟨#[], #[.slice none 0 0, .string ⟨#[]⟩], []⟩ 8 (by kernel_rfl) (by kernel_rfl) (by kernel_rfl) (by kernel_rfl))
    rfl rfl (by kernel_rfl) (by kernel_rfl) (by kernel_rfl) (fun ds h => ?_) ?_
  · rw [Try.params7] at h
    match ds, h with
    | [_, _], _ => rfl
  intro W base args ds ps hval hA hsz
  rw [Try.params7] at hA hval
  obtain ⟨v0, v1, d0, d1, q0, q1, hargs, rfl, rfl, h0, h1⟩ := trodAll_two hA
  subst hargs
  obtain ⟨xs0, hr0, hx0⟩ := open_rows (l := [9]) 6 Try.underlying25 (by kernel_rfl) (by kernel_rfl) (by decide) (hval 0 25 v0 rfl rfl) h0
  obtain ⟨ys0, rfl, hy0⟩ := rows_map (enc' := rs) (q := fun y => y.length ≤ 9223372036854775807) (fun r hr => by
    obtain ⟨u0, rfl, l0⟩ := allLeaf_list1 hr
    obtain ⟨n0, rfl, e0⟩ := leaf_string Try.underlying9 l0
    exact ⟨n0.data.toList, rfl, str_max e0⟩) xs0 hx0
  obtain ⟨a1, rfl, rfl, rfl, b1⟩ := open_string Try.underlying9 (hval 1 9 v1 rfl rfl) h1
  exact law_done (sorts_any _ ys0 a1.data.toList W hr0)
theorem nameSorts_holds : Rows.NameSortsSaid :=
  OpenClaim.holds_of_wide 7 Try.f7 rfl rfl rfl rfl rfl rfl rfl ⟨rfl, rfl, rfl, rfl, rfl⟩ rfl rfl rfl rfl rfl (by kernel_rfl) Try.func7 (by kernel_rfl)
    (of_decide_eq_true (by kernel_rfl)) (by unfold Func.isWrapper; first | (rw [if_pos (by decide +kernel)]; kernel_rfl) | (rw [if_neg (by decide +kernel)]; exact ⟨rfl, rfl⟩))
    (fun os started H enc _ => nameSorts_lifted os started H enc)
end Go.Proofs.Ytkmgnplaokogbaa
