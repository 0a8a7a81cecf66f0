/- LocalAlias: behind each tick an alias is as the worst of the checks of its service and of the node that are none. No condition. -/
import Derived.Test.YtbnkcagcfbpiiaaMf
import Derived.Test.YtbnkcagcfbpiiaaRows
set_option linter.unusedSimpArgs false
set_option linter.unusedVariables false
set_option maxRecDepth 100000
set_option maxHeartbeats 16000000
namespace Go.Proofs.Ytbnkcagcfbpiiaa
open Go Go.Proofs Go.RowKit Go.ChangeShapes Go.WideShapes Go.ChangeAt
@[reducible] def al : List UInt8 := [97, 108, 105, 97, 115]
@[reducible] def fA (D : Dl) (y : Sp) : Dl := if ¬ y.cid = al ∧ ¬ y.id = al then stepS y D else D
def runA (ys : List Sp) : Dl := ys.foldl fA ⟨1, [], [], []⟩
section
variable {ys : List Sp} {i : Nat} {y : Sp}
theorem run_step (hy : ys[i]? = some y) : runA (ys.take (i + 1)) = fA (runA (ys.take i)) y := by
  unfold runA
  rw [List.take_add_one, hy, List.foldl_append]
  rfl
theorem run_yes (hy : ys[i]? = some y) (h1 : ¬ y.cid = al) (h2 : ¬ y.id = al) : runA (ys.take (i + 1)) = stepS y (runA (ys.take i)) := (run_step hy).trans (if_pos ⟨h1, h2⟩)
theorem run_no1 (hy : ys[i]? = some y) (h1 : y.cid = al) : runA (ys.take (i + 1)) = runA (ys.take i) := (run_step hy).trans (if_neg fun h => h.1 h1)
theorem run_no2 (hy : ys[i]? = some y) (h1 : y.id = al) : runA (ys.take (i + 1)) = runA (ys.take i) := (run_step hy).trans (if_neg fun h => h.2 h1)
theorem take_all (hi : i ≤ 40) (h : ys.length ≤ i ∨ 40 ≤ i) : ys.take i = ys.take 40 := by
  rcases h with h | h
  · rw [List.take_of_length_le h, List.take_of_length_le (by omega)]
  · rw [show i = 40 from by omega]
theorem runA_free (ys : List Sp) : Free al (runA ys) := by
  have : ∀ (ys : List Sp) (D : Dl), Free al D → Free al (ys.foldl fA D) := by
    intro ys
    induction ys with
    | nil => exact fun D h => h
    | cons y ys ih =>
      intro D h
      refine ih _ ?_
      unfold fA
      split
      · rename_i hc; exact stepD_free h hc.1
      · exact h
  exact this ys _ fun c h => by cases h
end
section
variable {b r : Nat} {S : Lc} {D : Dl} {L R : List (Nat × Obj)} {m : Int} {w W : World} {n : Int} {a : List UInt8}
theorem PI.le {m' : Int} (h : PI W n a b r m S D L R) (e : m ≤ m') : PI W n a b r m' S D L R := ⟨h.rel, h.ag, h.dk, fun c hc => (h.bs c hc).le e, fun c hc => (h.bd c hc).le e, h.tg, h.nd, h.r3⟩
theorem PI.del {L' R' : List (Nat × Obj)} (h : PI W n a b r m S D L R) (hf : Free al D) (hA : Agt b (aDelC S al) L') (hD : Dok r { D with ch := wid al D.ch } R') : PI W n a b r m (aDelC S al) D L' R' := by
  have e : ({ D with ch := wid al D.ch } : Dl) = D := by rw [free_wid hf]
  have hr := h.rel.delc al
  rw [e] at hD hr
  exact ⟨hr, hA, hD, fun c hc => h.bs c ((dl_sub _ _).subset hc), h.bd, h.tg, h.nd, r3_clo.delc S al h.r3⟩
theorem al_ok : okN al = true := by decide +kernel
theorem addc_al (of : List UInt8) (hok : okN of = true) (hl : ¬ 16 ≤ S.ch.length) (h : Agt b S L) (hown : Own w L) :
    Ret Try.prog 16 #[.pointer (some ⟨b, 0, none⟩), .agg #[.int .i64 0, str al, str [], str [], .int .i64 0, .int .u64 0, .int .u64 0], .agg (plc (pal of)).toArray] w fun u w' => u = .int .i64 0 ∧ ∃ hb L', Agt b (aAddC S ⟨al, [], [], hb, ck0 (pal of)⟩) L' ∧ St w (L.map Prod.fst) L' w' := by
  have hp : Pok (pal of) := ⟨⟨by show (0 : Int) ≤ 0; decide, by show (0 : Int) ≤ 262144; decide⟩, .inr (.inr ⟨rfl, hok, rfl, rfl, rfl⟩)⟩
  refine addc_ok 0 0 0 0 al [] [] (pal of) hp ?_ (by decide) h hown
  unfold addCE
  rw [if_neg (fun h => h ⟨al_ok, .inl rfl⟩), if_neg (by decide), if_neg (fun h => h.1 rfl), if_neg (fun h => h hp), if_neg (fun h => hl h.2)]
theorem add_bd {c : Ch} {p : Pl} (hm : 0 ≤ m) (h : ∀ c ∈ S.ch, Bd m c.h) (hc : c.h = ck0 p) : ∀ d ∈ (aAddC S c).ch, Bd m d.h := fun d hd => by
  rcases pt_mem hd with rfl | hd
  · rw [hc]; exact ck0_bd p hm
  · exact h d hd
theorem alias_ret {c : Ch} {hb : Nat} {of : List UInt8} (h : PI W n a b r m S D L R) (hf : Free al D) (hc : c ∈ ordC (aTick (aAddC S ⟨al, [], [], hb, ck0 (pal of)⟩)).1.ch) (hid : c.id = al) (hne : ¬ stat c.h = dw true of (dTick D).ch) : 0 < (dgone D).length := by
  have hr := (h.rel.addc al [] [] hb (ck0 (pal of))).tick.2
  have hm : cdat c ∈ (dTick { D with ch := ins Dc.id (dal al of) false D.ch }).ch := by
    rw [← hr.ordC]
    exact List.mem_map_of_mem hc
  rcases Nat.eq_zero_or_pos (dgone D).length with e | e
  · exact absurd (alias_stat hf (rel_r3 h.rel h.r3) hm hid (List.eq_nil_of_length_eq_zero e)) hne
  · exact e
end
theorem SpOk.st {W w : World} {L : List (Nat × Obj)} {y : Sp} (h : SpOk W y) (hS : St W [] L w) : SpOk w y := ⟨h.1.st hS, h.2⟩
theorem ruled_any (ys : List Sp) (v : Value) (W : World) (hr : RdRow W v 23 (ys.map spr)) (hys : ∀ y ∈ ys, SpOk W y) : Ret Try.prog 19 #[v] W fun u w' => u = .bool (decide (0 < ((dgone (runA (ys.take 40))).length : Int))) ∧ St W [] [] w' := by
  have hS := St.init0 W
  obtain ⟨bs, os, cs, hv, hmx, hrc, _⟩ := hr.open
  rw [List.length_map] at hv hmx
  refine Ret.enter Try.func19 Try.ntmps19 rfl rfl ?_
  simp only [argEnv, Nat.reduceAdd]
  refine SatC.seq ?_
  refine SatC.region ?_
  refine SatL.pu (RunV.assign rfl) rfl ?_
  refine SatL.nil (SatE.thenC ?_)
  refine SatC.seq ?_
  refine SatC.region ?_
  refine SatL.op rfl (OpW.enter rfl rfl rfl (rfl) (lnew_any 1 [] _ (by decide) (by decide)) ?_)
  rintro r1 w1 ⟨b, L, rfl, hA, h⟩
  replace hS := hS.callT (A := []) .nil h
  refine SatL.pu (RunV.move rfl) rfl ?_
  refine SatL.pu (RunV.extract rfl rfl) rfl ?_
  refine SatL.pu (RunV.extract rfl rfl) rfl ?_
  refine SatL.pu (RunV.assign rfl) rfl ?_
  refine SatL.pu (RunV.assign rfl) rfl ?_
  refine SatL.nil (SatE.thenC ?_)
  refine SatC.seq ?_
  refine SatC.region ?_
  refine SatL.pu (RunV.build rfl (by simp [go_sem]; try rfl)) rfl ?_
  refine SatL.op rfl (OpW.box hS rfl rfl (by repeat constructor) ?_)
  clear hS
  intro b12 w2 _ hS
  refine SatL.pu (RunV.assign rfl) rfl ?_
  refine SatL.nil (SatE.thenC ?_)
  refine SatC.seq ?_
  refine SatC.seq ?_
  refine SatC.region ?_
  refine SatL.pu (RunV.assign rfl) rfl ?_
  refine SatL.nil (SatE.thenC ?_)
  refine SatC.block ?_
  refine SatC.loopK (G := Nat × Lc × Dl × List (Nat × Obj) × List (Nat × Obj)) (V := fun ⟨i, S1, D1, L1, R1⟩ => [(6, .int .i64 (i : Int))]) (Cn := [(0, _), (2, _), (3, _), (5, _)]) (I := fun ⟨i, S1, D1, L1, R1⟩ w' => i ≤ ys.length ∧ i ≤ 40 ∧ PI W 1 [] b b12 (4 * (i : Int)) S1 D1 L1 R1 ∧ D1 = runA (ys.take i) ∧ St W [] (L1 ++ R1) w') (μ := fun ⟨i, S1, D1, L1, R1⟩ => ys.length - i) (0, ⟨1, [], [], []⟩, ⟨1, [], [], []⟩, L, [(b12, C 44 [.int .i64 1, str [], .slice none 0 0, .slice none 0 0])]) ?_ (by repeat constructor) ?_
  · exact ⟨Nat.zero_le _, by decide, PI.init hA, rfl, hS.sel (by repeat constructor)⟩
  clear hS
  rintro ⟨i, S1, D1, L1, R1⟩ w3 ⟨hi, hi4, hP, hDr, hS⟩
  refine SatC.weak (e' := [(0, _), (2, _), (3, _), (5, _), (6, _)]) (by repeat constructor) ?_
  refine SatC.seq ?_
  refine SatC.seq ?_
  refine SatC.region ?_
  refine SatL.pu (RunV.move rfl) rfl ?_
  refine SatL.pu (RunV.move rfl) rfl ?_
  refine SatL.pu (RunV.lenR hv rfl rfl) rfl ?_
  refine SatL.pu (RunV.lss rfl rfl) rfl ?_
  refine SatL.pu (RunV.move rfl) rfl ?_
  refine SatL.guard rfl rfl rfl (fun h1 => ?_) (fun h1 => ?_)
  · (try simp only [cx, ne_eq] at h1)
    try (exfalso; (first | omega | exact h1 trivial | contradiction | (first | omega | (simp at h1; done))); done)
    all_goals
    refine SatL.pu (RunV.move rfl) rfl ?_
    refine SatL.guard_y rfl rfl ?_
    refine SatL.pu (RunV.lss rfl rfl) rfl ?_
    refine SatL.pu (RunV.pick_t rfl rfl) rfl ?_
    refine SatL.nil (SatE.thenC ?_)
    refine SatC.cond rfl (fun h2 => ?_) (fun h2 => ?_)
    · (try simp only [cx, ne_eq] at h2)
      try (exfalso; (first | omega | exact h2 trivial | contradiction | (first | omega | (simp at h2; done))); done)
      all_goals
      refine SatC.skip (SatE.thenC ?_)
      refine SatC.seq ?_
      refine SatC.block ?_
      refine SatC.seq ?_
      obtain ⟨y, hy⟩ := get_some ys i (by omega)
      have hyo := hys y (List.mem_of_getElem? hy)
      refine SatC.region ?_
      refine SatL.pu (RunV.move rfl) rfl ?_
      refine SatL.pu (RunV.move rfl) rfl ?_
      refine SatL.pu (RunV.indexR hv rfl rfl rfl (by omega) (by omega) rfl) rfl ?_
      first | refine SatL.pu (RunV.fieldAddrL rfl rfl rfl) rfl ?_ | refine SatL.pu (RunV.fieldAddr rfl rfl rfl) rfl ?_
      first | refine SatL.pu (RunV.fieldAddrL rfl rfl rfl) rfl ?_ | refine SatL.pu (RunV.fieldAddr rfl rfl rfl) rfl ?_
      refine SatL.pu (RunV.loadR1g i 11 (hrc.st hS List.not_mem_nil) rfl rfl (by omega) (map_get hy) rfl) rfl ?_
      refine SatL.pu (RunV.sneq rfl rfl) rfl ?_
      refine SatL.pu (RunV.move rfl) rfl ?_
      refine SatL.guard rfl rfl rfl (fun h3 => ?_) (fun h3 => ?_)
      · (try simp only [cx, ne_eq] at h3)
        try (exfalso; (first | omega | exact h3 trivial | contradiction | (first | omega | (simp at h3; done))); done)
        all_goals
        refine SatL.pu (RunV.move rfl) rfl ?_
        refine SatL.guard_y rfl rfl ?_
        refine SatL.pu (RunV.move rfl) rfl ?_
        refine SatL.guard_y rfl rfl ?_
        refine SatL.pu (RunV.indexR hv rfl rfl rfl (by omega) (by omega) rfl) rfl ?_
        refine SatL.guard_y rfl rfl ?_
        first | refine SatL.pu (RunV.fieldAddrL rfl rfl rfl) rfl ?_ | refine SatL.pu (RunV.fieldAddr rfl rfl rfl) rfl ?_
        refine SatL.guard_y rfl rfl ?_
        refine SatL.pu (RunV.loadR1g i 2 (hrc.st hS List.not_mem_nil) rfl rfl (by omega) (map_get hy) rfl) rfl ?_
        refine SatL.guard_y rfl rfl ?_
        refine SatL.pu (RunV.sneq rfl rfl) rfl ?_
        refine SatL.pu (RunV.pick_t rfl rfl) rfl ?_
        refine SatL.nil (SatE.thenC ?_)
        refine SatC.weak (e' := [(0, _), (2, _), (3, _), (5, _), (6, _), (37, _)]) (by repeat constructor) ?_
        refine SatC.cond rfl (fun h4 => ?_) (fun h4 => ?_)
        · (try simp only [cx, ne_eq] at h4)
          try (exfalso; (first | omega | exact h4 trivial | contradiction | (first | omega | (simp at h4; done))); done)
          all_goals
          refine SatC.region ?_
          refine SatL.pu (RunV.move rfl) rfl ?_
          refine SatL.pu (RunV.move rfl) rfl ?_
          refine SatL.pu (RunV.move rfl) rfl ?_
          refine SatL.pu (RunV.move rfl) rfl ?_
          refine SatL.pu (RunV.indexR hv rfl rfl rfl (by omega) (by omega) rfl) rfl ?_
          refine SatL.pu (RunV.loadSeg i 0 (hrc.st hS List.not_mem_nil) rfl rfl (by omega) (map_get hy) (by repeat constructor)) rfl ?_
          refine SatL.op rfl (OpW.enter rfl rfl rfl (rfl) (do_s (m := 4 * (i : Int)) y (by omega) hyo hS hP.bs hP.bd hP.ag hP.dk) ?_)
          rintro r4 w4 ⟨bb, S2, D2, L2, R2, rfl, hd, h⟩
          replace hS := hS.whole h
          obtain ⟨_, hD2, hP2⟩ := hP.next hyo hd
          refine SatL.nil (SatE.blk_normal (SatE.thenC ?_))
          refine SatC.region ?_
          refine SatL.pu (RunV.move rfl) rfl ?_
          refine SatL.pu (RunV.add rfl rfl (by first | exact wrapI64 (by omega) | rfl)) rfl ?_
          refine SatL.pu (RunV.assign rfl) rfl ?_
          refine SatL.nil ?_
          refine SatE.again ((i + 1, S2, D2, L2, R2)) ?_ (by first | omega | (dsimp only; omega)) (by repeat constructor)
          exact ⟨by omega, by omega, hP2.at (by omega), by rw [run_yes hy (by assumption) (by assumption), ← hDr, hD2], hS.sel (by repeat constructor)⟩
        · (try simp only [cx, ne_eq] at h4)
          try (exfalso; (first | omega | exact h4 trivial | contradiction | (first | omega | (simp at h4; done))); done)
          all_goals
          refine SatC.skip (SatE.blk_normal (SatE.thenC ?_))
          refine SatC.region ?_
          refine SatL.pu (RunV.move rfl) rfl ?_
          refine SatL.pu (RunV.add rfl rfl (by first | exact wrapI64 (by omega) | rfl)) rfl ?_
          refine SatL.pu (RunV.assign rfl) rfl ?_
          refine SatL.nil ?_
          refine SatE.again ((i + 1, S1, D1, L1, R1)) ?_ (by first | omega | (dsimp only; omega)) (by repeat constructor)
          exact ⟨by omega, by omega, hP.le (by omega), by rw [run_no2 hy (by assumption), ← hDr], hS.sel (by repeat constructor)⟩
      · (try simp only [cx, ne_eq] at h3)
        try (exfalso; (first | omega | exact h3 trivial | contradiction | (first | omega | (simp at h3; done))); done)
        all_goals
        refine SatL.guard_n rfl rfl rfl rfl ?_
        refine SatL.guard_n rfl rfl rfl rfl ?_
        refine SatL.guard_n rfl rfl rfl rfl ?_
        refine SatL.guard_n rfl rfl rfl rfl ?_
        refine SatL.guard_n rfl rfl rfl rfl ?_
        refine SatL.pu (RunV.pick_f rfl rfl) rfl ?_
        refine SatL.nil (SatE.thenC ?_)
        refine SatC.weak (e' := [(0, _), (2, _), (3, _), (5, _), (6, _), (37, _)]) (by repeat constructor) ?_
        refine SatC.cond_f rfl ?_
        refine SatC.skip (SatE.blk_normal (SatE.thenC ?_))
        refine SatC.region ?_
        refine SatL.pu (RunV.move rfl) rfl ?_
        refine SatL.pu (RunV.add rfl rfl (by first | exact wrapI64 (by omega) | rfl)) rfl ?_
        refine SatL.pu (RunV.assign rfl) rfl ?_
        refine SatL.nil ?_
        refine SatE.again ((i + 1, S1, D1, L1, R1)) ?_ (by first | omega | (dsimp only; omega)) (by repeat constructor)
        exact ⟨by omega, by omega, hP.le (by omega), by rw [run_no1 hy (by assumption), ← hDr], hS.sel (by repeat constructor)⟩
    · (try simp only [cx, ne_eq] at h2)
      try (exfalso; (first | omega | exact h2 trivial | contradiction | (first | omega | (simp at h2; done))); done)
      all_goals
      refine SatC.exit (SatE.then_exit (SatE.then_exit (SatE.blk_exit (SatE.thenC ?_))))
      refine SatC.seq ?_
      have hDe : D1 = runA (ys.take 40) := by rw [hDr, take_all hi4 (by omega)]
      refine SatC.region ?_
      refine SatL.pu (RunV.move rfl) rfl ?_
      refine SatL.op rfl (OpW.enter rfl rfl rfl (rfl) (dtick_ref (fun c hc => (hP.bd c hc).le (by omega)) hP.dk (hS.ownT (A := R1) (by repeat constructor))) ?_)
      rintro r4 w4 ⟨GD, R2, hsd, hD2, h⟩
      replace hS := hS.callT (A := R1) (by repeat constructor) h
      obtain ⟨cD, hvD⟩ := hsd.slv
      rw [List.length_map] at hvD
      refine SatL.pu (RunV.lenR hvD rfl rfl) rfl ?_
      refine SatL.pu (RunV.gtr rfl rfl) rfl ?_
      refine SatL.pu (RunV.assign rfl) rfl ?_
      refine SatL.nil (SatE.thenC ?_)
      refine SatC.ret ?_
      refine SatE.ret1 rfl rfl ?_
      exact ⟨by rw [hDe], hS.sel (by repeat constructor)⟩
  · (try simp only [cx, ne_eq] at h1)
    try (exfalso; (first | omega | exact h1 trivial | contradiction | (first | omega | (simp at h1; done))); done)
    all_goals
    refine SatL.guard_n rfl rfl rfl rfl ?_
    refine SatL.pu (RunV.pick_f rfl rfl) rfl ?_
    refine SatL.nil (SatE.thenC ?_)
    refine SatC.cond_f rfl ?_
    refine SatC.exit (SatE.then_exit (SatE.then_exit (SatE.blk_exit (SatE.thenC ?_))))
    refine SatC.seq ?_
    have hDe : D1 = runA (ys.take 40) := by rw [hDr, take_all hi4 (by omega)]
    refine SatC.region ?_
    refine SatL.pu (RunV.move rfl) rfl ?_
    refine SatL.op rfl (OpW.enter rfl rfl rfl (rfl) (dtick_ref (fun c hc => (hP.bd c hc).le (by omega)) hP.dk (hS.ownT (A := R1) (by repeat constructor))) ?_)
    rintro r4 w4 ⟨GD, R2, hsd, hD2, h⟩
    replace hS := hS.callT (A := R1) (by repeat constructor) h
    obtain ⟨cD, hvD⟩ := hsd.slv
    rw [List.length_map] at hvD
    refine SatL.pu (RunV.lenR hvD rfl rfl) rfl ?_
    refine SatL.pu (RunV.gtr rfl rfl) rfl ?_
    refine SatL.pu (RunV.assign rfl) rfl ?_
    refine SatL.nil (SatE.thenC ?_)
    refine SatC.ret ?_
    refine SatE.ret1 rfl rfl ?_
    exact ⟨by rw [hDe], hS.sel (by repeat constructor)⟩
theorem alias_law (ys : List Sp) (v : Value) (of : List UInt8) (W : World) (hr : RdRow W v 23 (ys.map spr)) (hys : ∀ y ∈ ys, SpOk W y) : Ret Try.prog 4 #[v, str of] W fun u w' => u = .bool true ∧ St W [] [] w' := by
  have hS := St.init0 W
  obtain ⟨bs, os, cs, hv, hmx, hrc, _⟩ := hr.open
  rw [List.length_map] at hv hmx
  refine Ret.enter Try.func4 Try.ntmps4 rfl rfl ?_
  simp only [argEnv, Nat.reduceAdd]
  refine SatC.seq ?_
  refine SatC.region ?_
  refine SatL.pu (RunV.assign rfl) rfl ?_
  refine SatL.nil (SatE.thenC ?_)
  refine SatC.seq ?_
  refine SatC.region ?_
  refine SatL.op rfl (OpW.enter rfl rfl rfl (rfl) (lnew_any 1 [] _ (by decide) (by decide)) ?_)
  rintro r1 w1 ⟨b, L, rfl, hA, h⟩
  replace hS := hS.callT (A := []) .nil h
  refine SatL.pu (RunV.move rfl) rfl ?_
  refine SatL.pu (RunV.extract rfl rfl) rfl ?_
  refine SatL.pu (RunV.extract rfl rfl) rfl ?_
  refine SatL.pu (RunV.assign rfl) rfl ?_
  refine SatL.pu (RunV.assign rfl) rfl ?_
  refine SatL.nil (SatE.thenC ?_)
  refine SatC.seq ?_
  refine SatC.seq ?_
  refine SatC.region ?_
  refine SatL.pu (RunV.move rfl) rfl ?_
  refine SatL.pu (RunV.neq rfl rfl) rfl ?_
  refine SatL.nil (SatE.thenC ?_)
  refine SatC.cond rfl (fun h1 => ?_) (fun h1 => ?_)
  · (try simp only [cx, ne_eq] at h1)
    try (exfalso; (first | omega | exact h1 trivial | contradiction | (first | omega | (simp at h1; done))); done)
    all_goals
    refine SatC.seq ?_
    refine SatC.region ?_
    refine SatL.pu (RunV.assign rfl) rfl ?_
    refine SatL.nil (SatE.thenC ?_)
    refine SatC.ret (SatE.then_ret ?_)
    refine SatE.ret1 rfl rfl ?_
    exact ⟨rfl, hS.sel (by repeat constructor)⟩
  · (try simp only [cx, ne_eq] at h1)
    try (exfalso; (first | omega | exact h1 trivial | contradiction | (first | omega | (simp at h1; done))); done)
    all_goals
    refine SatC.skip (SatE.thenC ?_)
    refine SatC.seq ?_
    refine SatC.region ?_
    refine SatL.pu (RunV.build rfl (by simp [go_sem]; try rfl)) rfl ?_
    refine SatL.op rfl (OpW.box hS rfl rfl (by repeat constructor) ?_)
    clear hS
    intro b19 w2 _ hS
    refine SatL.pu (RunV.assign rfl) rfl ?_
    refine SatL.nil (SatE.thenC ?_)
    refine SatC.merge (G := Lc × List (Nat × Obj) × List (Nat × Obj)) (V := fun ⟨S1, L1, R1⟩ => [(4, .bool false)]) (Cn := [(0, _), (1, _), (5, _), (7, _)]) (I := fun ⟨S1, L1, R1⟩ w' => PI W 1 [] b b19 160 S1 (runA (ys.take 40)) L1 R1 ∧ St W [] (L1 ++ R1) w') (by repeat constructor) ?_ ?_
    · skip
      refine SatC.seq ?_
      refine SatC.region ?_
      refine SatL.pu (RunV.assign rfl) rfl ?_
      refine SatL.nil (SatE.thenC ?_)
      refine SatC.block ?_
      refine SatC.loopK (G := Nat × Lc × Dl × List (Nat × Obj) × List (Nat × Obj)) (V := fun ⟨i, S1, D1, L1, R1⟩ => [(8, .int .i64 (i : Int))]) (Cn := [(0, _), (1, _), (4, _), (5, _), (7, _)]) (I := fun ⟨i, S1, D1, L1, R1⟩ w' => i ≤ ys.length ∧ i ≤ 40 ∧ PI W 1 [] b b19 (4 * (i : Int)) S1 D1 L1 R1 ∧ D1 = runA (ys.take i) ∧ St W [] (L1 ++ R1) w') (μ := fun ⟨i, S1, D1, L1, R1⟩ => ys.length - i) (0, ⟨1, [], [], []⟩, ⟨1, [], [], []⟩, L, [(b19, C 44 [.int .i64 1, str [], .slice none 0 0, .slice none 0 0])]) ?_ (by repeat constructor) ?_
      · exact ⟨Nat.zero_le _, by decide, PI.init hA, rfl, hS.sel (by repeat constructor)⟩
      clear hS
      rintro ⟨i, S1, D1, L1, R1⟩ w3 ⟨hi, hi4, hP, hDr, hS⟩
      refine SatC.weak (e' := [(0, _), (1, _), (4, _), (5, _), (7, _), (8, _)]) (by repeat constructor) ?_
      refine SatC.seq ?_
      refine SatC.seq ?_
      refine SatC.region ?_
      refine SatL.pu (RunV.move rfl) rfl ?_
      refine SatL.pu (RunV.move rfl) rfl ?_
      refine SatL.pu (RunV.lenR hv rfl rfl) rfl ?_
      refine SatL.pu (RunV.lss rfl rfl) rfl ?_
      refine SatL.pu (RunV.move rfl) rfl ?_
      refine SatL.guard rfl rfl rfl (fun h2 => ?_) (fun h2 => ?_)
      · (try simp only [cx, ne_eq] at h2)
        try (exfalso; (first | omega | exact h2 trivial | contradiction | (first | omega | (simp at h2; done))); done)
        all_goals
        refine SatL.pu (RunV.move rfl) rfl ?_
        refine SatL.guard_y rfl rfl ?_
        refine SatL.pu (RunV.lss rfl rfl) rfl ?_
        refine SatL.pu (RunV.pick_t rfl rfl) rfl ?_
        refine SatL.nil (SatE.thenC ?_)
        refine SatC.cond rfl (fun h3 => ?_) (fun h3 => ?_)
        · (try simp only [cx, ne_eq] at h3)
          try (exfalso; (first | omega | exact h3 trivial | contradiction | (first | omega | (simp at h3; done))); done)
          all_goals
          refine SatC.skip (SatE.thenC ?_)
          refine SatC.seq ?_
          refine SatC.block ?_
          refine SatC.seq ?_
          obtain ⟨y, hy⟩ := get_some ys i (by omega)
          have hyo := hys y (List.mem_of_getElem? hy)
          refine SatC.region ?_
          refine SatL.pu (RunV.move rfl) rfl ?_
          refine SatL.pu (RunV.move rfl) rfl ?_
          refine SatL.pu (RunV.indexR hv rfl rfl rfl (by omega) (by omega) rfl) rfl ?_
          first | refine SatL.pu (RunV.fieldAddrL rfl rfl rfl) rfl ?_ | refine SatL.pu (RunV.fieldAddr rfl rfl rfl) rfl ?_
          first | refine SatL.pu (RunV.fieldAddrL rfl rfl rfl) rfl ?_ | refine SatL.pu (RunV.fieldAddr rfl rfl rfl) rfl ?_
          refine SatL.pu (RunV.loadR1g i 11 (hrc.st hS List.not_mem_nil) rfl rfl (by omega) (map_get hy) rfl) rfl ?_
          refine SatL.pu (RunV.sneq rfl rfl) rfl ?_
          refine SatL.pu (RunV.move rfl) rfl ?_
          refine SatL.guard rfl rfl rfl (fun h4 => ?_) (fun h4 => ?_)
          · (try simp only [cx, ne_eq] at h4)
            try (exfalso; (first | omega | exact h4 trivial | contradiction | (first | omega | (simp at h4; done))); done)
            all_goals
            refine SatL.pu (RunV.move rfl) rfl ?_
            refine SatL.guard_y rfl rfl ?_
            refine SatL.pu (RunV.move rfl) rfl ?_
            refine SatL.guard_y rfl rfl ?_
            refine SatL.pu (RunV.indexR hv rfl rfl rfl (by omega) (by omega) rfl) rfl ?_
            refine SatL.guard_y rfl rfl ?_
            first | refine SatL.pu (RunV.fieldAddrL rfl rfl rfl) rfl ?_ | refine SatL.pu (RunV.fieldAddr rfl rfl rfl) rfl ?_
            refine SatL.guard_y rfl rfl ?_
            refine SatL.pu (RunV.loadR1g i 2 (hrc.st hS List.not_mem_nil) rfl rfl (by omega) (map_get hy) rfl) rfl ?_
            refine SatL.guard_y rfl rfl ?_
            refine SatL.pu (RunV.sneq rfl rfl) rfl ?_
            refine SatL.pu (RunV.pick_t rfl rfl) rfl ?_
            refine SatL.nil (SatE.thenC ?_)
            refine SatC.weak (e' := [(0, _), (1, _), (4, _), (5, _), (7, _), (8, _), (44, _)]) (by repeat constructor) ?_
            refine SatC.cond rfl (fun h5 => ?_) (fun h5 => ?_)
            · (try simp only [cx, ne_eq] at h5)
              try (exfalso; (first | omega | exact h5 trivial | contradiction | (first | omega | (simp at h5; done))); done)
              all_goals
              refine SatC.region ?_
              refine SatL.pu (RunV.move rfl) rfl ?_
              refine SatL.pu (RunV.move rfl) rfl ?_
              refine SatL.pu (RunV.move rfl) rfl ?_
              refine SatL.pu (RunV.move rfl) rfl ?_
              refine SatL.pu (RunV.indexR hv rfl rfl rfl (by omega) (by omega) rfl) rfl ?_
              refine SatL.pu (RunV.loadSeg i 0 (hrc.st hS List.not_mem_nil) rfl rfl (by omega) (map_get hy) (by repeat constructor)) rfl ?_
              refine SatL.op rfl (OpW.enter rfl rfl rfl (rfl) (do_s (m := 4 * (i : Int)) y (by omega) hyo hS hP.bs hP.bd hP.ag hP.dk) ?_)
              rintro r4 w4 ⟨bb, S2, D2, L2, R2, rfl, hd, h⟩
              replace hS := hS.whole h
              obtain ⟨_, hD2, hP2⟩ := hP.next hyo hd
              refine SatL.nil (SatE.blk_normal (SatE.thenC ?_))
              refine SatC.region ?_
              refine SatL.pu (RunV.move rfl) rfl ?_
              refine SatL.pu (RunV.add rfl rfl (by first | exact wrapI64 (by omega) | rfl)) rfl ?_
              refine SatL.pu (RunV.assign rfl) rfl ?_
              refine SatL.nil ?_
              refine SatE.again ((i + 1, S2, D2, L2, R2)) ?_ (by first | omega | (dsimp only; omega)) (by repeat constructor)
              exact ⟨by omega, by omega, hP2.at (by omega), by rw [run_yes hy (by assumption) (by assumption), ← hDr, hD2], hS.sel (by repeat constructor)⟩
            · (try simp only [cx, ne_eq] at h5)
              try (exfalso; (first | omega | exact h5 trivial | contradiction | (first | omega | (simp at h5; done))); done)
              all_goals
              refine SatC.skip (SatE.blk_normal (SatE.thenC ?_))
              refine SatC.region ?_
              refine SatL.pu (RunV.move rfl) rfl ?_
              refine SatL.pu (RunV.add rfl rfl (by first | exact wrapI64 (by omega) | rfl)) rfl ?_
              refine SatL.pu (RunV.assign rfl) rfl ?_
              refine SatL.nil ?_
              refine SatE.again ((i + 1, S1, D1, L1, R1)) ?_ (by first | omega | (dsimp only; omega)) (by repeat constructor)
              exact ⟨by omega, by omega, hP.le (by omega), by rw [run_no2 hy (by assumption), ← hDr], hS.sel (by repeat constructor)⟩
          · (try simp only [cx, ne_eq] at h4)
            try (exfalso; (first | omega | exact h4 trivial | contradiction | (first | omega | (simp at h4; done))); done)
            all_goals
            refine SatL.guard_n rfl rfl rfl rfl ?_
            refine SatL.guard_n rfl rfl rfl rfl ?_
            refine SatL.guard_n rfl rfl rfl rfl ?_
            refine SatL.guard_n rfl rfl rfl rfl ?_
            refine SatL.guard_n rfl rfl rfl rfl ?_
            refine SatL.pu (RunV.pick_f rfl rfl) rfl ?_
            refine SatL.nil (SatE.thenC ?_)
            refine SatC.weak (e' := [(0, _), (1, _), (4, _), (5, _), (7, _), (8, _), (44, _)]) (by repeat constructor) ?_
            refine SatC.cond_f rfl ?_
            refine SatC.skip (SatE.blk_normal (SatE.thenC ?_))
            refine SatC.region ?_
            refine SatL.pu (RunV.move rfl) rfl ?_
            refine SatL.pu (RunV.add rfl rfl (by first | exact wrapI64 (by omega) | rfl)) rfl ?_
            refine SatL.pu (RunV.assign rfl) rfl ?_
            refine SatL.nil ?_
            refine SatE.again ((i + 1, S1, D1, L1, R1)) ?_ (by first | omega | (dsimp only; omega)) (by repeat constructor)
            exact ⟨by omega, by omega, hP.le (by omega), by rw [run_no1 hy (by assumption), ← hDr], hS.sel (by repeat constructor)⟩
        · (try simp only [cx, ne_eq] at h3)
          try (exfalso; (first | omega | exact h3 trivial | contradiction | (first | omega | (simp at h3; done))); done)
          all_goals
          refine SatC.exit (SatE.then_exit (SatE.then_exit (SatE.blk_exit ?_)))
          refine SatE.met ((S1, L1, R1)) ?_ (by repeat constructor)
          exact ⟨by rw [← take_all hi4 (by omega), ← hDr]; exact hP.le (by omega), hS.sel (by repeat constructor)⟩
      · (try simp only [cx, ne_eq] at h2)
        try (exfalso; (first | omega | exact h2 trivial | contradiction | (first | omega | (simp at h2; done))); done)
        all_goals
        refine SatL.guard_n rfl rfl rfl rfl ?_
        refine SatL.pu (RunV.pick_f rfl rfl) rfl ?_
        refine SatL.nil (SatE.thenC ?_)
        refine SatC.cond_f rfl ?_
        refine SatC.exit (SatE.then_exit (SatE.then_exit (SatE.blk_exit ?_)))
        refine SatE.met ((S1, L1, R1)) ?_ (by repeat constructor)
        exact ⟨by rw [← take_all hi4 (by omega), ← hDr]; exact hP.le (by omega), hS.sel (by repeat constructor)⟩
    · clear hS
      rintro ⟨S1, L1, R1⟩ w63 ⟨hP, hS⟩
      have hf := runA_free (ys.take 40)
      generalize hD0 : runA (ys.take 40) = D1 at hP hf
      refine SatC.weak (e' := [(0, _), (1, _), (4, _), (5, _), (7, _)]) (by repeat constructor) ?_
      refine SatC.seq ?_
      refine SatC.region ?_
      refine SatL.pu (RunV.move rfl) rfl ?_
      refine SatL.op rfl (OpW.enter rfl rfl rfl (rfl) (delc_d al hP.ag (hS.ownT (A := L1) (by repeat constructor))) ?_)
      rintro r64 w64 ⟨rfl, L2, hA2, h⟩
      replace hS := hS.callT (A := L1) (by repeat constructor) h
      refine SatL.nil (SatE.thenC ?_)
      refine SatC.seq ?_
      refine SatC.region ?_
      refine SatL.pu (RunV.move rfl) rfl ?_
      refine SatL.op rfl (OpW.enter rfl rfl rfl (rfl) (ddelc_ref al hP.dk (hS.ownT (A := R1) (by repeat constructor))) ?_)
      rintro r65 w65 ⟨rfl, R2, hD2, h⟩
      replace hS := hS.callT (A := R1) (by repeat constructor) h
      replace hP := hP.del hf hA2 hD2
      clear hA2 hD2
      generalize aDelC S1 al = S2 at hP
      refine SatL.nil (SatE.thenC ?_)
      refine SatC.seq ?_
      refine SatC.seq ?_
      refine SatC.region ?_
      refine SatL.pu (RunV.move rfl) rfl ?_
      refine SatL.op rfl (OpW.enter rfl rfl rfl (rfl) (checks_d hP.ag (hS.ownT (A := L2) (by repeat constructor))) ?_)
      rintro r66 w66 ⟨CB, hcs, h⟩
      replace hS := hS.callT (A := []) .nil h
      obtain ⟨cC, hvC⟩ := hcs.slv
      rw [List.length_map, ordC_len] at hvC
      refine SatL.pu (RunV.lenR hvC rfl rfl) rfl ?_
      refine SatL.pu (RunV.geq rfl rfl) rfl ?_
      refine SatL.pu (RunV.move rfl) rfl ?_
      refine SatL.guard rfl rfl rfl (fun h2 => ?_) (fun h2 => ?_)
      · (try simp only [cx, ne_eq] at h2)
        try (exfalso; (first | omega | exact h2 trivial | contradiction | (first | omega | (simp at h2; done))); done)
        all_goals
        refine SatL.pu (RunV.move rfl) rfl ?_
        refine SatL.guard_y rfl rfl ?_
        refine SatL.op rfl (OpW.enter rfl rfl rfl (rfl) (right_ref of _) ?_)
        rintro r67 w67 ⟨rfl, h⟩
        replace hS := St.callN hS h
        refine SatL.guard_y rfl rfl ?_
        refine SatL.pu (RunV.not rfl) rfl ?_
        refine SatL.pu (RunV.pick_f rfl rfl) rfl ?_
        refine SatL.nil (SatE.thenC ?_)
        refine SatC.weak (e' := [(0, _), (1, _), (4, _), (5, _), (7, _), (64, _)]) (by repeat constructor) ?_
        refine SatC.cond rfl (fun h3 => ?_) (fun h3 => ?_)
        · (try simp only [cx, ne_eq] at h3)
          try (exfalso; (first | omega | exact h3 trivial | contradiction | (first | omega | (simp at h3; done))); done)
          all_goals
          refine SatC.seq ?_
          refine SatC.region ?_
          refine SatL.op rfl (OpW.enter rfl rfl rfl (rfl) (works_any _) ?_)
          rintro r68 w68 ⟨rfl, h⟩
          replace hS := St.callN hS h
          refine SatL.pu (RunV.assign rfl) rfl ?_
          refine SatL.nil (SatE.thenC ?_)
          refine SatC.ret (SatE.then_ret ?_)
          refine SatE.ret1 rfl rfl ?_
          exact ⟨rfl, hS.sel (by repeat constructor)⟩
        · (try simp only [cx, ne_eq] at h3)
          try (exfalso; (first | omega | exact h3 trivial | contradiction | (first | omega | (simp at h3; done))); done)
          all_goals
          refine SatC.skip (SatE.thenC ?_)
          refine SatC.seq ?_
          refine SatC.seq ?_
          refine SatC.region ?_
          refine SatL.pu (RunV.move rfl) rfl ?_
          refine SatL.pu (RunV.build rfl (by simp [go_sem]; try rfl)) rfl ?_
          refine SatL.pu (RunV.move rfl) rfl ?_
          refine SatL.pu (RunV.build rfl (by simp [go_sem]; try rfl)) rfl ?_
          refine SatL.op rfl (OpW.enter rfl rfl rfl (rfl) (addc_al of (by assumption) (by omega) hP.ag (hS.ownT (A := L2) (by repeat constructor))) ?_)
          rintro r68 w68 ⟨rfl, hb, L3, hA3, h⟩
          replace hS := hS.callT (A := L2) (by repeat constructor) h
          refine SatL.pu (RunV.neq rfl rfl) rfl ?_
          refine SatL.nil (SatE.thenC ?_)
          refine SatC.cond rfl (fun h4 => ?_) (fun h4 => ?_)
          · (try simp only [cx, ne_eq] at h4)
            try (exfalso; (first | omega | exact h4 trivial | contradiction | (first | omega | (simp at h4; done))); done)
            all_goals
            refine SatC.seq ?_
            refine SatC.region ?_
            refine SatL.pu (RunV.assign rfl) rfl ?_
            refine SatL.nil (SatE.thenC ?_)
            refine SatC.ret (SatE.then_ret ?_)
            refine SatE.ret1 rfl rfl ?_
            exact ⟨rfl, hS.sel (by repeat constructor)⟩
          · (try simp only [cx, ne_eq] at h4)
            try (exfalso; (first | omega | exact h4 trivial | contradiction | (first | omega | (simp at h4; done))); done)
            all_goals
            refine SatC.skip (SatE.thenC ?_)
            refine SatC.seq ?_
            refine SatC.region ?_
            refine SatL.pu (RunV.move rfl) rfl ?_
            refine SatL.op rfl (OpW.enter rfl rfl rfl (rfl) (tick_d (fun c hc => (add_bd (p := pal of) (by decide) hP.bs rfl c hc).le (by decide)) hA3 (hS.ownT (A := L3) (by repeat constructor))) ?_)
            rintro r69 w69 ⟨GB, L4, hsg, hA4, h⟩
            replace hS := hS.callT (A := L3) (by repeat constructor) h
            simp only [List.append_assoc] at hS
            refine SatL.nil (SatE.thenC ?_)
            refine SatC.seq ?_
            refine SatC.region ?_
            refine SatL.pu (RunV.move rfl) rfl ?_
            refine SatL.op rfl (OpW.enter rfl rfl rfl (rfl) (dtick_ref (fun c hc => (hP.bd c hc).le (by decide)) hP.dk (hS.ownT (A := R2) (by repeat constructor))) ?_)
            rintro r70 w70 ⟨GD, R4, hsd, hD4, h⟩
            replace hS := hS.callT (A := R2) (by repeat constructor) h
            simp only [List.append_assoc] at hS
            refine SatL.nil (SatE.thenC ?_)
            refine SatC.seq ?_
            refine SatC.region ?_
            refine SatL.pu (RunV.move rfl) rfl ?_
            refine SatL.pu (RunV.move rfl) rfl ?_
            refine SatL.op rfl (OpW.enter rfl rfl rfl (rfl) (dhealth_ref of true hD4 (hS.ownT (A := R4) (by repeat constructor))) ?_)
            rintro r71 w71 ⟨rfl, h⟩
            replace hS := St.callN hS h
            refine SatL.pu (RunV.assign rfl) rfl ?_
            refine SatL.nil (SatE.thenC ?_)
            refine SatC.seq ?_
            refine SatC.weak (e' := [(0, _), (4, _), (5, _), (9, _)]) (by repeat constructor) ?_
            refine SatC.region ?_
            refine SatL.pu (RunV.move rfl) rfl ?_
            refine SatL.op rfl (OpW.enter rfl rfl rfl (rfl) (checks_d hA4 (hS.ownT (A := L4) (by repeat constructor))) ?_)
            rintro r72 w72 ⟨CC, hcc, h⟩
            replace hS := hS.callT (A := []) .nil h
            obtain ⟨cD, hvD⟩ := hcc.slv
            rw [List.length_map] at hvD
            have hcl := ordC_len (aTick (aAddC S2 ⟨al, [], [], hb, ck0 (pal of)⟩)).1.ch
            have hc16 := hA4.c16
            replace hS := hS.sel (R := CC) (by repeat constructor)
            refine SatL.pu (RunV.assign rfl) rfl ?_
            refine SatL.nil (SatE.thenC ?_)
            refine SatC.seq ?_
            refine SatC.seq ?_
            refine SatC.region ?_
            refine SatL.pu (RunV.assign rfl) rfl ?_
            refine SatL.nil (SatE.thenC ?_)
            refine SatC.block ?_
            refine SatC.loopK (G := Nat) (V := fun j => [(11, .int .i64 (j : Int))]) (Cn := [(0, _), (9, _), (10, _), (4, _)]) (I := fun j w' => j ≤ (ordC (aTick (aAddC S2 ⟨al, [], [], hb, ck0 (pal of)⟩)).1.ch).length ∧ St W [] CC w') (μ := fun j => (ordC (aTick (aAddC S2 ⟨al, [], [], hb, ck0 (pal of)⟩)).1.ch).length - j) 0 ?_ (by repeat constructor) ?_
            · exact ⟨Nat.zero_le _, hS⟩
            clear hS
            rintro j w73 ⟨hj, hS⟩
            refine SatC.weak (e' := [(0, _), (4, _), (9, _), (10, _), (11, _)]) (by repeat constructor) ?_
            refine SatC.seq ?_
            refine SatC.seq ?_
            refine SatC.region ?_
            refine SatL.pu (RunV.move rfl) rfl ?_
            refine SatL.pu (RunV.move rfl) rfl ?_
            refine SatL.pu (RunV.lenR hvD rfl rfl) rfl ?_
            refine SatL.pu (RunV.lss rfl rfl) rfl ?_
            refine SatL.nil (SatE.thenC ?_)
            refine SatC.cond rfl (fun h5 => ?_) (fun h5 => ?_)
            · (try simp only [cx, ne_eq] at h5)
              try (exfalso; (first | omega | exact h5 trivial | contradiction | (first | omega | (simp at h5; done))); done)
              all_goals
              refine SatC.skip (SatE.thenC ?_)
              refine SatC.seq ?_
              refine SatC.block ?_
              refine SatC.seq ?_
              obtain ⟨c, hc⟩ := get_some (ordC (aTick (aAddC S2 ⟨al, [], [], hb, ck0 (pal of)⟩)).1.ch) j (by omega)
              refine SatC.region ?_
              refine SatL.pu (RunV.move rfl) rfl ?_
              refine SatL.pu (RunV.move rfl) rfl ?_
              refine SatL.pu (RunV.indexR hvD rfl rfl rfl (by omega) (by omega) rfl) rfl ?_
              first | refine SatL.pu (RunV.fieldAddrL rfl rfl rfl) rfl ?_ | refine SatL.pu (RunV.fieldAddr rfl rfl rfl) rfl ?_
              refine SatL.pu (RunV.loadR1g j 1 (Sl.rd hcc hS (by repeat constructor)) rfl rfl (by omega) (map_get hc) rfl) rfl ?_
              refine SatL.pu (RunV.seql rfl rfl) rfl ?_
              refine SatL.pu (RunV.move rfl) rfl ?_
              refine SatL.guard rfl rfl rfl (fun h6 => ?_) (fun h6 => ?_)
              · (try simp only [cx, ne_eq] at h6)
                try (exfalso; (first | omega | exact h6 trivial | contradiction | (first | omega | (simp at h6; done))); done)
                all_goals
                refine SatL.pu (RunV.move rfl) rfl ?_
                refine SatL.guard_y rfl rfl ?_
                refine SatL.pu (RunV.move rfl) rfl ?_
                refine SatL.guard_y rfl rfl ?_
                refine SatL.pu (RunV.indexR hvD rfl rfl rfl (by omega) (by omega) rfl) rfl ?_
                refine SatL.guard_y rfl rfl ?_
                first | refine SatL.pu (RunV.fieldAddrL rfl rfl rfl) rfl ?_ | refine SatL.pu (RunV.fieldAddr rfl rfl rfl) rfl ?_
                refine SatL.guard_y rfl rfl ?_
                refine SatL.pu (RunV.loadR1g j 4 (Sl.rd hcc hS (by repeat constructor)) rfl rfl (by omega) (map_get hc) rfl) rfl ?_
                refine SatL.guard_y rfl rfl ?_
                refine SatL.pu (RunV.move rfl) rfl ?_
                refine SatL.guard_y rfl rfl ?_
                refine SatL.pu (RunV.neq rfl rfl) rfl ?_
                refine SatL.pu (RunV.pick_t rfl rfl) rfl ?_
                refine SatL.nil (SatE.thenC ?_)
                refine SatC.weak (e' := [(0, _), (4, _), (9, _), (10, _), (11, _), (101, _)]) (by repeat constructor) ?_
                refine SatC.cond rfl (fun h7 => ?_) (fun h7 => ?_)
                · (try simp only [cx, ne_eq] at h7)
                  try (exfalso; (first | omega | exact h7 trivial | contradiction | (first | omega | (simp at h7; done))); done)
                  all_goals
                  refine SatC.seq ?_
                  refine SatC.region ?_
                  refine SatL.pu (RunV.move rfl) rfl ?_
                  refine SatL.op rfl (OpW.enter rfl rfl rfl (rfl) (ruled_any ys v _ (hr.st hS) (fun y hy => (hys y hy).st hS)) ?_)
                  rintro r74 w74 ⟨rfl, h⟩
                  replace hS := St.callN hS h
                  refine SatL.pu (RunV.assign rfl) rfl ?_
                  refine SatL.nil (SatE.thenC ?_)
                  refine SatC.ret (SatE.blk_ret (SatE.then_ret (SatE.then_ret (SatE.blk_ret (SatE.then_ret ?_)))))
                  refine SatE.ret1 rfl rfl ?_
                  refine ⟨congrArg Value.bool (decide_eq_true ?_), hS.sel (by repeat constructor)⟩
                  rw [hD0]
                  have := alias_ret hP hf (List.mem_of_getElem? hc) (by assumption) (by assumption)
                  omega
                · (try simp only [cx, ne_eq] at h7)
                  try (exfalso; (first | omega | exact h7 trivial | contradiction | (first | omega | (simp at h7; done))); done)
                  all_goals
                  refine SatC.skip (SatE.blk_normal (SatE.thenC ?_))
                  refine SatC.region ?_
                  refine SatL.pu (RunV.move rfl) rfl ?_
                  refine SatL.pu (RunV.add rfl rfl (by first | exact wrapI64 (by omega) | rfl)) rfl ?_
                  refine SatL.pu (RunV.assign rfl) rfl ?_
                  refine SatL.nil ?_
                  refine SatE.again (j + 1) ?_ (by first | omega | (dsimp only; omega)) (by repeat constructor)
                  exact ⟨by omega, hS.sel (by repeat constructor)⟩
              · (try simp only [cx, ne_eq] at h6)
                try (exfalso; (first | omega | exact h6 trivial | contradiction | (first | omega | (simp at h6; done))); done)
                all_goals
                refine SatL.guard_n rfl rfl rfl rfl ?_
                refine SatL.guard_n rfl rfl rfl rfl ?_
                refine SatL.guard_n rfl rfl rfl rfl ?_
                refine SatL.guard_n rfl rfl rfl rfl ?_
                refine SatL.guard_n rfl rfl rfl rfl ?_
                refine SatL.guard_n rfl rfl rfl rfl ?_
                refine SatL.pu (RunV.pick_f rfl rfl) rfl ?_
                refine SatL.nil (SatE.thenC ?_)
                refine SatC.weak (e' := [(0, _), (4, _), (9, _), (10, _), (11, _), (101, _)]) (by repeat constructor) ?_
                refine SatC.cond_f rfl ?_
                refine SatC.skip (SatE.blk_normal (SatE.thenC ?_))
                refine SatC.region ?_
                refine SatL.pu (RunV.move rfl) rfl ?_
                refine SatL.pu (RunV.add rfl rfl (by first | exact wrapI64 (by omega) | rfl)) rfl ?_
                refine SatL.pu (RunV.assign rfl) rfl ?_
                refine SatL.nil ?_
                refine SatE.again (j + 1) ?_ (by first | omega | (dsimp only; omega)) (by repeat constructor)
                exact ⟨by omega, hS.sel (by repeat constructor)⟩
            · (try simp only [cx, ne_eq] at h5)
              try (exfalso; (first | omega | exact h5 trivial | contradiction | (first | omega | (simp at h5; done))); done)
              all_goals
              refine SatC.exit (SatE.then_exit (SatE.then_exit (SatE.blk_exit (SatE.thenC ?_))))
              refine SatC.seq ?_
              refine SatC.region ?_
              refine SatL.op rfl (OpW.enter rfl rfl rfl (rfl) (works_any _) ?_)
              rintro r74 w74 ⟨rfl, h⟩
              replace hS := St.callN hS h
              refine SatL.pu (RunV.assign rfl) rfl ?_
              refine SatL.nil (SatE.thenC ?_)
              refine SatC.ret ?_
              refine SatE.ret1 rfl rfl ?_
              exact ⟨rfl, hS.sel (by repeat constructor)⟩
      · (try simp only [cx, ne_eq] at h2)
        try (exfalso; (first | omega | exact h2 trivial | contradiction | (first | omega | (simp at h2; done))); done)
        all_goals
        refine SatL.guard_n rfl rfl rfl rfl ?_
        refine SatL.guard_n rfl rfl rfl rfl ?_
        refine SatL.pu (RunV.pick_t rfl rfl) rfl ?_
        refine SatL.nil (SatE.thenC ?_)
        refine SatC.weak (e' := [(0, _), (1, _), (4, _), (5, _), (7, _), (64, _)]) (by repeat constructor) ?_
        refine SatC.cond_t rfl ?_
        refine SatC.seq ?_
        refine SatC.region ?_
        refine SatL.op rfl (OpW.enter rfl rfl rfl (rfl) (works_any _) ?_)
        rintro r67 w67 ⟨rfl, h⟩
        replace hS := St.callN hS h
        refine SatL.pu (RunV.assign rfl) rfl ?_
        refine SatL.nil (SatE.thenC ?_)
        refine SatC.ret (SatE.then_ret ?_)
        refine SatE.ret1 rfl rfl ?_
        exact ⟨rfl, hS.sel (by repeat constructor)⟩
theorem localAlias_lifted (os : Os) (started : os.Started) (H : Type) (enc : TypeId × Value → H) :
    ReturnsInHanded {} Try.checked os 4 .any (Rows.localAliasSpec.pre6 enc Try.prog Try.f4 Rows.localAliasRow.domain false) (Rows.localAliasSpec.post enc Try.prog Try.f4 false true false false) := by
  refine law_returns (C := Try.checked) (b := 4) (by kernel_rfl) started (by kernel_rfl) Try.func4
    (ChangeSpec.witness6 (enc := enc) (C := Try.checked) false ⟨#[], #[.slice none 0 0, .string ⟨#[]⟩], []⟩ 8 (by kernel_rfl) (by kernel_rfl) (by kernel_rfl) (by kernel_rfl))
    rfl rfl (by kernel_rfl) (by kernel_rfl) (by kernel_rfl) (fun ds h => ?_) ?_
  · rw [Try.params4] at h
    match ds, h with
    | [_, _], _ => rfl
  intro W base args ds ps hval hA hsz
  rw [Try.params4] at hA hval
  obtain ⟨v0, v1, d0, d1, q0, q1, hargs, rfl, rfl, h0, h1⟩ := trodAll_two hA
  subst hargs
  obtain ⟨xs0, hr0, hx0⟩ := open_rows (l := [3, 3, 9, 3, 9, 9, 27, 3, 28, 28, 3, 9, 9, 9, 3, 28, 28, 3, 3, 3, 3, 9, 3]) 6 Try.underlying22 (by kernel_rfl) (by kernel_rfl) (by decide) (hval 0 22 v0 rfl rfl) h0
  obtain ⟨a1, rfl, rfl, rfl, b1⟩ := open_string Try.underlying9 (hval 1 9 v1 rfl rfl) h1
  obtain ⟨ys0, rfl, hy0⟩ := sp_rows hx0
  exact law_done (alias_law ys0 _ a1.data.toList W hr0 hy0)
theorem localAlias_holds : Rows.LocalAliasSaid :=
  OpenClaim.holds_of_wide 4 Try.f4 rfl rfl rfl rfl rfl rfl rfl ⟨rfl, rfl, rfl, rfl, rfl⟩ rfl rfl rfl rfl rfl (by kernel_rfl) Try.func4 (by kernel_rfl)
    (of_decide_eq_true (by kernel_rfl)) (by unfold Func.isWrapper; first | (rw [if_pos (by decide +kernel)]; kernel_rfl) | (rw [if_neg (by decide +kernel)]; exact ⟨rfl, rfl⟩))
    (fun os started H enc _ => localAlias_lifted os started H enc)
end Go.Proofs.Ytbnkcagcfbpiiaa
