/- NameAgain: what is done twice is done once. -/
import Derived.Test.YtkmgnplaokogbaaR
import Derived.Test.YtkmgnplaokogbaaSo
import Derived.Test.YtkmgnplaokogbaaK7
import Derived.Test.YtkmgnplaokogbaaK16
import Derived.Test.YtkmgnplaokogbaaRows
set_option linter.unusedSimpArgs false
set_option linter.unusedVariables false
set_option maxRecDepth 100000
set_option maxHeartbeats 1000000
namespace Go.Proofs.Ytkmgnplaokogbaa
open Go.RowKit Go.ChangeShapes Go.WideShapes Go.ChangeAt
theorem ag1 {r3 r1 : List Tx} {x : Tx} (h : SetOf r3 (x :: r1)) (z : Tx) : z ∈ x :: r3 ↔ z ∈ x :: r1 := by
  rw [List.mem_cons, h.2, List.mem_cons]
  constructor
  · rintro (h | h)
    · exact .inl h
    · exact h
  · exact .inr
theorem ag2 {r3 r1 l : List Tx} {x : Tx} (h1 : SetOf r1 l) (h : SetOf r3 (x :: r1)) (hx : ¬ x ∈ r1) : (r3.filter fun y => decide (¬ y = x)) = r1 := by
  refine asc_eq (h.1.filter _) h1.1 fun z => ?_
  rw [List.mem_filter, h.2, List.mem_cons, decide_eq_true_eq]
  constructor
  · rintro ⟨h2 | h2, h3⟩
    · exact absurd h2 h3
    · exact h2
  · intro hz
    exact ⟨.inr hz, fun e => hx (by rw [← e]; exact hz)⟩
theorem ag_rise {r : List Tx} (h : r.Pairwise (· < ·)) : rising r = true := (rising_iff r).2 fun k h0 hk => by
  have := List.pairwise_iff_getElem.1 h (k - 1) k (by omega) hk (by omega)
  simpa [List.getD, List.getElem?_eq_getElem hk, List.getElem?_eq_getElem (show k - 1 < r.length by omega)] using this
theorem again_any (v : Value) (ys : List Tx) (x : Tx) (w : World) (hr : RdRow w v 1 (ys.map rs)) : Ret Try.prog 8 #[v, str x] w fun u w' => u = .bool true ∧ St w [] [] w' := by
  have hS := St.init0 w
  obtain ⟨bl, ol, cl, hvl, hmaxl, hcl, hltl⟩ := hr.open
  simp only [List.length_map] at hvl hmaxl hltl
  refine Ret.enter Try.func8 Try.ntmps8 rfl rfl ?_
  simp only [argEnv, Nat.reduceAdd]
  refine SatC.seq ?_
  refine SatC.region ?_
  refine SatL.pu (RunV.assign rfl) rfl ?_
  refine SatL.nil (SatE.thenC ?_)
  refine SatC.merge (G := List Tx × Value) (V := fun ⟨zs, vz⟩ => [(0, vz)]) (Cn := [(1, _), (4, _)]) (I := fun ⟨zs, vz⟩ w' => RdRow w vz 1 (zs.map rs) ∧ zs.length ≤ 60 ∧ St w [] [] w') (by repeat constructor) ?_ ?_
  · skip
    refine SatC.seq ?_
    refine SatC.region ?_
    refine SatL.pu (RunV.move rfl) rfl ?_
    first | refine SatL.pu (RunV.lenR (by assumption) rfl rfl) rfl ?_ | refine SatL.pu (RunV.lenS rfl rfl) rfl ?_
    refine SatL.pu (RunV.gtr rfl rfl) rfl ?_
    refine SatL.nil (SatE.thenC ?_)
    refine SatC.cond rfl (fun h1 => ?_) (fun h1 => ?_)
    · (try simp only [cx, ne_eq] at h1)
      try (exfalso; (first | omega | exact h1 trivial | contradiction | exact h1 rfl | (rw [ag_rise hset1.1] at h1; cases h1) | exact h1 ((hset3.2 x).2 List.mem_cons_self) | (simp at h1; done) | exact h1 (ag2 hset1 hset3 (by assumption))); done)
      all_goals
      refine SatC.region ?_
      refine SatL.pu (RunV.move rfl) rfl ?_
      refine SatL.op rfl (OpW.cutH (by assumption) rfl rfl rfl rfl (by omega) (by omega) rfl ?_)
      intro v11 hv11
      refine SatL.pu (RunV.assign rfl) rfl ?_
      refine SatL.nil ?_
      refine SatE.met ((ys.take 60, v11)) ?_ (by repeat constructor)
      refine ⟨RdRow.of hv11 (by simp; omega) (by simp; omega) ?_ (by decide), by rw [List.length_take]; omega, hS⟩
      rw [List.map_take]
      exact hcl.take
    · (try simp only [cx, ne_eq] at h1)
      try (exfalso; (first | omega | exact h1 trivial | contradiction | exact h1 rfl | (rw [ag_rise hset1.1] at h1; cases h1) | exact h1 ((hset3.2 x).2 List.mem_cons_self) | (simp at h1; done) | exact h1 (ag2 hset1 hset3 (by assumption))); done)
      all_goals
      refine SatC.skip ?_
      refine SatE.met ((ys, v)) ?_ (by repeat constructor)
      exact ⟨hr, by omega, hS⟩
  · clear hS
    rintro ⟨zs, vz⟩ w61 ⟨hrz, hlz, hS⟩
    refine SatC.weak (e' := [(0, _), (1, _), (4, _)]) (by repeat constructor) ?_
    refine SatC.seq ?_
    refine SatC.region ?_
    refine SatL.pu (RunV.move rfl) rfl ?_
    refine SatL.op rfl (OpW.enter rfl rfl rfl (rfl) (sorted_any _ zs _ (RdRow.st hrz hS) (by omega)) ?_)
    rintro r62 w62 ⟨r1, B1, hset1, hs1, h⟩
    replace hS := hS.call0 h
    have hlen1 := set_len hset1
    refine SatL.pu (RunV.assign rfl) rfl ?_
    refine SatL.nil (SatE.thenC ?_)
    refine SatC.seq ?_
    refine SatC.seq ?_
    refine SatC.region ?_
    refine SatL.pu (RunV.move rfl) rfl ?_
    refine SatL.op rfl (OpW.enter rfl rfl rfl (rfl) (sorted_any _ r1 _ (by first | assumption | exact RdRow.st (by assumption) hS | exact Sl.row (by assumption) hS (by repeat constructor) (by first | omega | (simp only [List.length_map, List.length_append, List.length_take]; omega)) | exact RdRow.nil) (by omega)) ?_)
    rintro r63 w63 ⟨r2, B2, hset2, hs2, h⟩
    replace hS := hS.call0 h
    obtain rfl : r1 = r2 := (set_eq hset2 (⟨hset1.1, fun _ => Iff.rfl⟩ : SetOf r1 r1) (fun _ => Iff.rfl)).symm
    refine SatL.pu (RunV.move rfl) rfl ?_
    refine SatL.op rfl (OpW.enter rfl rfl rfl (rfl) (same_any _ _ _ _ _ (by first | assumption | exact RdRow.st (by assumption) hS | exact Sl.row (by assumption) hS (by repeat constructor) (by first | omega | (simp only [List.length_map, List.length_append, List.length_take]; omega)) | exact RdRow.nil) (by first | assumption | exact RdRow.st (by assumption) hS | exact Sl.row (by assumption) hS (by repeat constructor) (by first | omega | (simp only [List.length_map, List.length_append, List.length_take]; omega)) | exact RdRow.nil)) ?_)
    rintro r64 w64 ⟨rfl, h⟩
    replace hS := St.callN hS h
    refine SatL.pu (RunV.not rfl) rfl ?_
    refine SatL.pu (RunV.move rfl) rfl ?_
    refine SatL.guard rfl rfl rfl (fun h1 => ?_) (fun h1 => ?_)
    · (try simp only [cx, ne_eq] at h1)
      try (exfalso; (first | omega | exact h1 trivial | contradiction | exact h1 rfl | (rw [ag_rise hset1.1] at h1; cases h1) | exact h1 ((hset3.2 x).2 List.mem_cons_self) | (simp at h1; done) | exact h1 (ag2 hset1 hset3 (by assumption))); done)
      all_goals
      refine SatL.pu (RunV.move rfl) rfl ?_
      refine SatL.guard_y rfl rfl ?_
      refine SatL.op rfl (OpW.enter rfl rfl rfl (rfl) (rising_ref _ r1 _ (by first | assumption | exact RdRow.st (by assumption) hS | exact Sl.row (by assumption) hS (by repeat constructor) (by first | omega | (simp only [List.length_map, List.length_append, List.length_take]; omega)) | exact RdRow.nil)) ?_)
      rintro r65 w65 ⟨rfl, h⟩
      replace hS := St.callN hS h
      refine SatL.guard_y rfl rfl ?_
      refine SatL.pu (RunV.not rfl) rfl ?_
      refine SatL.pu (RunV.pick_f rfl rfl) rfl ?_
      refine SatL.nil (SatE.thenC ?_)
      refine SatC.weak (e' := [(1, _), (4, _), (5, _), (23, _)]) (by repeat constructor) ?_
      refine SatC.cond rfl (fun h2 => ?_) (fun h2 => ?_)
      · (try simp only [cx, ne_eq] at h2)
        try (exfalso; (first | omega | exact h2 trivial | contradiction | exact h2 rfl | (rw [ag_rise hset1.1] at h2; cases h2) | exact h2 ((hset3.2 x).2 List.mem_cons_self) | (simp at h2; done) | exact h2 (ag2 hset1 hset3 (by assumption))); done)
        all_goals
        refine SatC.seq ?_
        refine SatC.region ?_
        refine SatL.pu (RunV.assign rfl) rfl ?_
        refine SatL.nil (SatE.thenC ?_)
        refine SatC.ret (SatE.then_ret ?_)
        refine SatE.ret1 rfl rfl ?_
        exact ⟨by first | rfl | simp, hS.sub (List.nil_sublist _)⟩
      · (try simp only [cx, ne_eq] at h2)
        try (exfalso; (first | omega | exact h2 trivial | contradiction | exact h2 rfl | (rw [ag_rise hset1.1] at h2; cases h2) | exact h2 ((hset3.2 x).2 List.mem_cons_self) | (simp at h2; done) | exact h2 (ag2 hset1 hset3 (by assumption))); done)
        all_goals
        refine SatC.skip (SatE.thenC ?_)
        refine SatC.seq ?_
        refine SatC.region ?_
        refine SatL.pu (RunV.move rfl) rfl ?_
        refine SatL.pu (RunV.move rfl) rfl ?_
        refine SatL.op rfl (OpW.enter rfl rfl rfl (rfl) (with_any _ r1 x _ (by first | assumption | exact RdRow.st (by assumption) hS | exact Sl.row (by assumption) hS (by repeat constructor) (by first | omega | (simp only [List.length_map, List.length_append, List.length_take]; omega)) | exact RdRow.nil) (by omega)) ?_)
        rintro r66 w66 ⟨r3, B3, hset3, hs3, h⟩
        replace hS := hS.call0 h
        have hlen3 := set_len hset3
        rw [List.length_cons] at hlen3
        refine SatL.pu (RunV.assign rfl) rfl ?_
        refine SatL.nil (SatE.thenC ?_)
        refine SatC.seq ?_
        refine SatC.seq ?_
        refine SatC.region ?_
        refine SatL.pu (RunV.move rfl) rfl ?_
        refine SatL.pu (RunV.move rfl) rfl ?_
        refine SatL.op rfl (OpW.enter rfl rfl rfl (rfl) (has_any _ r3 x _ (by first | assumption | exact RdRow.st (by assumption) hS | exact Sl.row (by assumption) hS (by repeat constructor) (by first | omega | (simp only [List.length_map, List.length_append, List.length_take]; omega)) | exact RdRow.nil) (by omega) hset3.1) ?_)
        rintro r67 w67 ⟨rfl, h⟩
        replace hS := St.callN hS h
        refine SatL.pu (RunV.not rfl) rfl ?_
        refine SatL.pu (RunV.move rfl) rfl ?_
        refine SatL.guard rfl rfl rfl (fun h3 => ?_) (fun h3 => ?_)
        · (try simp only [cx, ne_eq] at h3)
          try (exfalso; (first | omega | exact h3 trivial | contradiction | exact h3 rfl | (rw [ag_rise hset1.1] at h3; cases h3) | exact h3 ((hset3.2 x).2 List.mem_cons_self) | (simp at h3; done) | exact h3 (ag2 hset1 hset3 (by assumption))); done)
          all_goals
          refine SatL.pu (RunV.move rfl) rfl ?_
          refine SatL.guard_y rfl rfl ?_
          refine SatL.pu (RunV.move rfl) rfl ?_
          refine SatL.guard_y rfl rfl ?_
          refine SatL.op rfl (OpW.enter rfl rfl rfl (rfl) (without_any _ r3 x _ (by first | assumption | exact RdRow.st (by assumption) hS | exact Sl.row (by assumption) hS (by repeat constructor) (by first | omega | (simp only [List.length_map, List.length_append, List.length_take]; omega)) | exact RdRow.nil) (by omega)) ?_)
          rintro r68 w68 ⟨B5, hs5, h⟩
          replace hS := hS.call0 h
          have hlen5 : (r3.filter fun y => decide (¬ y = x)).length ≤ 61 := Nat.le_trans (List.length_filter_le ..) (by omega)
          refine SatL.guard_y rfl rfl ?_
          refine SatL.pu (RunV.move rfl) rfl ?_
          refine SatL.guard_y rfl rfl ?_
          refine SatL.op rfl (OpW.enter rfl rfl rfl (rfl) (has_any _ (r3.filter fun y => decide (¬ y = x)) x _ (by first | assumption | exact RdRow.st (by assumption) hS | exact Sl.row (by assumption) hS (by repeat constructor) (by first | omega | (simp only [List.length_map, List.length_append, List.length_take]; omega)) | exact RdRow.nil) (by omega) (hset3.1.filter _)) ?_)
          rintro r69 w69 ⟨rfl, h⟩
          replace hS := St.callN hS h
          refine SatL.pu (RunV.pick_f rfl rfl) rfl ?_
          refine SatL.pu (RunV.move rfl) rfl ?_
          refine SatL.guard rfl rfl rfl (fun h4 => ?_) (fun h4 => ?_)
          · (try simp only [cx, ne_eq] at h4)
            try (exfalso; (first | omega | exact h4 trivial | contradiction | exact h4 rfl | (rw [ag_rise hset1.1] at h4; cases h4) | exact h4 ((hset3.2 x).2 List.mem_cons_self) | (simp at h4; done) | exact h4 (ag2 hset1 hset3 (by assumption))); done)
            all_goals
            refine SatL.pu (RunV.move rfl) rfl ?_
            refine SatL.guard_y rfl rfl ?_
            refine SatL.pu (RunV.move rfl) rfl ?_
            refine SatL.guard_y rfl rfl ?_
            refine SatL.op rfl (OpW.enter rfl rfl rfl (rfl) (with_any _ r3 x _ (by first | assumption | exact RdRow.st (by assumption) hS | exact Sl.row (by assumption) hS (by repeat constructor) (by first | omega | (simp only [List.length_map, List.length_append, List.length_take]; omega)) | exact RdRow.nil) (by omega)) ?_)
            rintro r70 w70 ⟨r4, B4, hset4, hs4, h⟩
            replace hS := hS.call0 h
            obtain rfl : r3 = r4 := (set_eq hset4 hset3 (fun z => ag1 hset3 z)).symm
            refine SatL.guard_y rfl rfl ?_
            refine SatL.pu (RunV.move rfl) rfl ?_
            refine SatL.guard_y rfl rfl ?_
            refine SatL.op rfl (OpW.enter rfl rfl rfl (rfl) (same_any _ _ _ _ _ (by first | assumption | exact RdRow.st (by assumption) hS | exact Sl.row (by assumption) hS (by repeat constructor) (by first | omega | (simp only [List.length_map, List.length_append, List.length_take]; omega)) | exact RdRow.nil) (by first | assumption | exact RdRow.st (by assumption) hS | exact Sl.row (by assumption) hS (by repeat constructor) (by first | omega | (simp only [List.length_map, List.length_append, List.length_take]; omega)) | exact RdRow.nil)) ?_)
            rintro r71 w71 ⟨rfl, h⟩
            replace hS := St.callN hS h
            refine SatL.guard_y rfl rfl ?_
            refine SatL.pu (RunV.not rfl) rfl ?_
            refine SatL.pu (RunV.pick_f rfl rfl) rfl ?_
            refine SatL.nil (SatE.thenC ?_)
            refine SatC.weak (e' := [(1, _), (4, _), (5, _), (6, _), (45, _)]) (by repeat constructor) ?_
            refine SatC.cond rfl (fun h5 => ?_) (fun h5 => ?_)
            · (try simp only [cx, ne_eq] at h5)
              try (exfalso; (first | omega | exact h5 trivial | contradiction | exact h5 rfl | (rw [ag_rise hset1.1] at h5; cases h5) | exact h5 ((hset3.2 x).2 List.mem_cons_self) | (simp at h5; done) | exact h5 (ag2 hset1 hset3 (by assumption))); done)
              all_goals
              refine SatC.seq ?_
              refine SatC.region ?_
              refine SatL.pu (RunV.assign rfl) rfl ?_
              refine SatL.nil (SatE.thenC ?_)
              refine SatC.ret (SatE.then_ret ?_)
              refine SatE.ret1 rfl rfl ?_
              exact ⟨by first | rfl | simp, hS.sub (List.nil_sublist _)⟩
            · (try simp only [cx, ne_eq] at h5)
              try (exfalso; (first | omega | exact h5 trivial | contradiction | exact h5 rfl | (rw [ag_rise hset1.1] at h5; cases h5) | exact h5 ((hset3.2 x).2 List.mem_cons_self) | (simp at h5; done) | exact h5 (ag2 hset1 hset3 (by assumption))); done)
              all_goals
              refine SatC.skip (SatE.thenC ?_)
              refine SatC.seq ?_
              refine SatC.region ?_
              refine SatL.pu (RunV.move rfl) rfl ?_
              refine SatL.pu (RunV.move rfl) rfl ?_
              refine SatL.op rfl (OpW.enter rfl rfl rfl (rfl) (has_any _ r1 x _ (by first | assumption | exact RdRow.st (by assumption) hS | exact Sl.row (by assumption) hS (by repeat constructor) (by first | omega | (simp only [List.length_map, List.length_append, List.length_take]; omega)) | exact RdRow.nil) (by omega) hset1.1) ?_)
              rintro r72 w72 ⟨rfl, h⟩
              replace hS := St.callN hS h
              refine SatL.pu (RunV.move rfl) rfl ?_
              refine SatL.guard rfl rfl rfl (fun h6 => ?_) (fun h6 => ?_)
              · (try simp only [cx, ne_eq] at h6)
                try (exfalso; (first | omega | exact h6 trivial | contradiction | exact h6 rfl | (rw [ag_rise hset1.1] at h6; cases h6) | exact h6 ((hset3.2 x).2 List.mem_cons_self) | (simp at h6; done) | exact h6 (ag2 hset1 hset3 (by assumption))); done)
                all_goals
                refine SatL.pu (RunV.move rfl) rfl ?_
                refine SatL.guard_y rfl rfl ?_
                refine SatL.pu (RunV.move rfl) rfl ?_
                refine SatL.guard_y rfl rfl ?_
                refine SatL.op rfl (OpW.enter rfl rfl rfl (rfl) (without_any _ r3 x _ (by first | assumption | exact RdRow.st (by assumption) hS | exact Sl.row (by assumption) hS (by repeat constructor) (by first | omega | (simp only [List.length_map, List.length_append, List.length_take]; omega)) | exact RdRow.nil) (by omega)) ?_)
                rintro r73 w73 ⟨B6, hs6, h⟩
                replace hS := hS.call0 h
                have hlen6 : (r3.filter fun y => decide (¬ y = x)).length ≤ 61 := Nat.le_trans (List.length_filter_le ..) (by omega)
                refine SatL.guard_y rfl rfl ?_
                refine SatL.pu (RunV.move rfl) rfl ?_
                refine SatL.guard_y rfl rfl ?_
                refine SatL.op rfl (OpW.enter rfl rfl rfl (rfl) (same_any _ _ _ _ _ (by first | assumption | exact RdRow.st (by assumption) hS | exact Sl.row (by assumption) hS (by repeat constructor) (by first | omega | (simp only [List.length_map, List.length_append, List.length_take]; omega)) | exact RdRow.nil) (by first | assumption | exact RdRow.st (by assumption) hS | exact Sl.row (by assumption) hS (by repeat constructor) (by first | omega | (simp only [List.length_map, List.length_append, List.length_take]; omega)) | exact RdRow.nil)) ?_)
                rintro r74 w74 ⟨rfl, h⟩
                replace hS := St.callN hS h
                refine SatL.pu (RunV.pick_f rfl rfl) rfl ?_
                refine SatL.pu (RunV.move rfl) rfl ?_
                refine SatL.guard rfl rfl rfl (fun h7 => ?_) (fun h7 => ?_)
                · (try simp only [cx, ne_eq] at h7)
                  try (exfalso; (first | omega | exact h7 trivial | contradiction | exact h7 rfl | (rw [ag_rise hset1.1] at h7; cases h7) | exact h7 ((hset3.2 x).2 List.mem_cons_self) | (simp at h7; done) | exact h7 (ag2 hset1 hset3 (by assumption))); done)
                  all_goals
                  refine SatL.op rfl (OpW.enter rfl rfl rfl (rfl) (works_any _) ?_)
                  rintro r75 w75 ⟨rfl, h⟩
                  replace hS := St.callN hS h
                  refine SatL.pu (RunV.pick_t rfl rfl) rfl ?_
                  refine SatL.pu (RunV.assign rfl) rfl ?_
                  refine SatL.nil (SatE.thenC ?_)
                  refine SatC.ret ?_
                  refine SatE.ret1 rfl rfl ?_
                  exact ⟨by first | rfl | simp, hS.sub (List.nil_sublist _)⟩
                · (try simp only [cx, ne_eq] at h7)
                  try (exfalso; (first | omega | exact h7 trivial | contradiction | exact h7 rfl | (rw [ag_rise hset1.1] at h7; cases h7) | exact h7 ((hset3.2 x).2 List.mem_cons_self) | (simp at h7; done) | exact h7 (ag2 hset1 hset3 (by assumption))); done)
                  all_goals
                  refine SatL.pu (RunV.pick_f rfl rfl) rfl ?_
                  refine SatL.pu (RunV.assign rfl) rfl ?_
                  refine SatL.nil (SatE.thenC ?_)
                  refine SatC.ret ?_
                  refine SatE.ret1 rfl rfl ?_
                  exact ⟨by first | rfl | simp, hS.sub (List.nil_sublist _)⟩
              · (try simp only [cx, ne_eq] at h6)
                try (exfalso; (first | omega | exact h6 trivial | contradiction | exact h6 rfl | (rw [ag_rise hset1.1] at h6; cases h6) | exact h6 ((hset3.2 x).2 List.mem_cons_self) | (simp at h6; done) | exact h6 (ag2 hset1 hset3 (by assumption))); done)
                all_goals
                refine SatL.guard_n rfl rfl rfl rfl ?_
                refine SatL.guard_n rfl rfl rfl rfl ?_
                refine SatL.guard_n rfl rfl rfl rfl ?_
                refine SatL.guard_n rfl rfl rfl rfl ?_
                refine SatL.pu (RunV.pick_t rfl rfl) rfl ?_
                refine SatL.pu (RunV.move rfl) rfl ?_
                refine SatL.guard_y rfl rfl ?_
                refine SatL.op rfl (OpW.enter rfl rfl rfl (rfl) (works_any _) ?_)
                rintro r73 w73 ⟨rfl, h⟩
                replace hS := St.callN hS h
                refine SatL.pu (RunV.pick_t rfl rfl) rfl ?_
                refine SatL.pu (RunV.assign rfl) rfl ?_
                refine SatL.nil (SatE.thenC ?_)
                refine SatC.ret ?_
                refine SatE.ret1 rfl rfl ?_
                exact ⟨by first | rfl | simp, hS.sub (List.nil_sublist _)⟩
          · (try simp only [cx, ne_eq] at h4)
            try (exfalso; (first | omega | exact h4 trivial | contradiction | exact h4 rfl | (rw [ag_rise hset1.1] at h4; cases h4) | exact h4 ((hset3.2 x).2 List.mem_cons_self) | (simp at h4; done) | exact h4 (ag2 hset1 hset3 (by assumption))); done)
            all_goals
            refine SatL.guard_n rfl rfl rfl rfl ?_
            refine SatL.guard_n rfl rfl rfl rfl ?_
            refine SatL.guard_n rfl rfl rfl rfl ?_
            refine SatL.guard_n rfl rfl rfl rfl ?_
            refine SatL.guard_n rfl rfl rfl rfl ?_
            refine SatL.pu (RunV.pick_t rfl rfl) rfl ?_
            refine SatL.nil (SatE.thenC ?_)
            refine SatC.weak (e' := [(1, _), (4, _), (5, _), (6, _), (45, _)]) (by repeat constructor) ?_
            refine SatC.cond_t rfl ?_
            refine SatC.seq ?_
            refine SatC.region ?_
            refine SatL.pu (RunV.assign rfl) rfl ?_
            refine SatL.nil (SatE.thenC ?_)
            refine SatC.ret (SatE.then_ret ?_)
            refine SatE.ret1 rfl rfl ?_
            exact ⟨by first | rfl | simp, hS.sub (List.nil_sublist _)⟩
        · (try simp only [cx, ne_eq] at h3)
          try (exfalso; (first | omega | exact h3 trivial | contradiction | exact h3 rfl | (rw [ag_rise hset1.1] at h3; cases h3) | exact h3 ((hset3.2 x).2 List.mem_cons_self) | (simp at h3; done) | exact h3 (ag2 hset1 hset3 (by assumption))); done)
          all_goals
          refine SatL.guard_n rfl rfl rfl rfl ?_
          refine SatL.guard_n rfl rfl rfl rfl ?_
          refine SatL.guard_n rfl rfl rfl rfl ?_
          refine SatL.guard_n rfl rfl rfl rfl ?_
          refine SatL.pu (RunV.pick_t rfl rfl) rfl ?_
          refine SatL.pu (RunV.move rfl) rfl ?_
          refine SatL.guard_n rfl rfl rfl rfl ?_
          refine SatL.guard_n rfl rfl rfl rfl ?_
          refine SatL.guard_n rfl rfl rfl rfl ?_
          refine SatL.guard_n rfl rfl rfl rfl ?_
          refine SatL.guard_n rfl rfl rfl rfl ?_
          refine SatL.guard_n rfl rfl rfl rfl ?_
          refine SatL.pu (RunV.pick_t rfl rfl) rfl ?_
          refine SatL.nil (SatE.thenC ?_)
          refine SatC.weak (e' := [(1, _), (4, _), (5, _), (6, _), (45, _)]) (by repeat constructor) ?_
          refine SatC.cond_t rfl ?_
          refine SatC.seq ?_
          refine SatC.region ?_
          refine SatL.pu (RunV.assign rfl) rfl ?_
          refine SatL.nil (SatE.thenC ?_)
          refine SatC.ret (SatE.then_ret ?_)
          refine SatE.ret1 rfl rfl ?_
          exact ⟨by first | rfl | simp, hS.sub (List.nil_sublist _)⟩
    · (try simp only [cx, ne_eq] at h1)
      try (exfalso; (first | omega | exact h1 trivial | contradiction | exact h1 rfl | (rw [ag_rise hset1.1] at h1; cases h1) | exact h1 ((hset3.2 x).2 List.mem_cons_self) | (simp at h1; done) | exact h1 (ag2 hset1 hset3 (by assumption))); done)
      all_goals
      refine SatL.guard_n rfl rfl rfl rfl ?_
      refine SatL.guard_n rfl rfl rfl rfl ?_
      refine SatL.pu (RunV.pick_t rfl rfl) rfl ?_
      refine SatL.nil (SatE.thenC ?_)
      refine SatC.weak (e' := [(1, _), (4, _), (5, _), (23, _)]) (by repeat constructor) ?_
      refine SatC.cond_t rfl ?_
      refine SatC.seq ?_
      refine SatC.region ?_
      refine SatL.pu (RunV.assign rfl) rfl ?_
      refine SatL.nil (SatE.thenC ?_)
      refine SatC.ret (SatE.then_ret ?_)
      refine SatE.ret1 rfl rfl ?_
      exact ⟨by first | rfl | simp, hS.sub (List.nil_sublist _)⟩
theorem nameAgain_lifted (os : Os) (started : os.Started) (H : Type) (enc : TypeId × Value → H) :
    ReturnsInHanded {} Try.checked os 8 .any (Rows.nameAgainSpec.pre6 enc Try.prog Try.f8 Rows.nameAgainRow.domain false) (Rows.nameAgainSpec.post enc Try.prog Try.f8 false true false false) := by
  refine law_returns (C := Try.checked) (b := 4) (by kernel_rfl) started (by kernel_rfl) Try.func8
    (ChangeSpec.witness6 (enc := enc) (C := Try.checked) false ⟨#[], #[.slice none 0 0, .string ⟨#[]⟩], []⟩ 8 (by kernel_rfl) (by kernel_rfl) (by kernel_rfl) (by kernel_rfl))
    rfl rfl (by kernel_rfl) (by kernel_rfl) (by kernel_rfl) (fun ds h => ?_) ?_
  · rw [Try.params8] at h
    match ds, h with
    | [_, _], _ => rfl
  intro W base args ds ps hval hA hsz
  rw [Try.params8] at hA hval
  obtain ⟨v0, v1, d0, d1, q0, q1, hargs, rfl, rfl, h0, h1⟩ := trodAll_two hA
  subst hargs
  obtain ⟨xs0, hr0, hx0⟩ := open_rows (l := [9]) 6 Try.underlying25 (by kernel_rfl) (by kernel_rfl) (by decide) (hval 0 25 v0 rfl rfl) h0
  obtain ⟨ys0, rfl, hy0⟩ := rows_map (enc' := rs) (q := fun y => y.length ≤ 9223372036854775807) (fun r hr => by
    obtain ⟨u0, rfl, l0⟩ := allLeaf_list1 hr
    obtain ⟨n0, rfl, e0⟩ := leaf_string Try.underlying9 l0
    exact ⟨n0.data.toList, rfl, str_max e0⟩) xs0 hx0
  obtain ⟨a1, rfl, rfl, rfl, b1⟩ := open_string Try.underlying9 (hval 1 9 v1 rfl rfl) h1
  exact law_done (again_any _ ys0 a1.data.toList W hr0)
theorem nameAgain_holds : Rows.NameAgainSaid :=
  OpenClaim.holds_of_wide 8 Try.f8 rfl rfl rfl rfl rfl rfl rfl ⟨rfl, rfl, rfl, rfl, rfl⟩ rfl rfl rfl rfl rfl (by kernel_rfl) Try.func8 (by kernel_rfl)
    (of_decide_eq_true (by kernel_rfl)) (by unfold Func.isWrapper; first | (rw [if_pos (by decide +kernel)]; kernel_rfl) | (rw [if_neg (by decide +kernel)]; exact ⟨rfl, rfl⟩))
    (fun os started H enc _ => nameAgain_lifted os started H enc)
end Go.Proofs.Ytkmgnplaokogbaa
