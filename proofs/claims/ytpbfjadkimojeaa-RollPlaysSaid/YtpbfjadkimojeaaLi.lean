/- The roll's lists: all, those that live, the peers; and leaving. -/
import Derived.Test.YtpbfjadkimojeaaRi
import Derived.Test.YtpbfjadkimojeaaK20
set_option linter.unusedSimpArgs false
set_option linter.unusedVariables false
set_option maxRecDepth 100000
set_option maxHeartbeats 1000000
namespace Go.Proofs.Ytpbfjadkimojeaa
open Go.RowKit
@[reducible] def iR (n : Int) : List Value := [.int .i64 n]
/-- What the iterator reads. -/
@[reducible] def itR (b1 b mb : Nat) (me : Int) (o : Obj) : List (Nat × Obj) := [(b1, C 24 [.pointer (some ⟨b, 0, none⟩)]), (b, C 63 (rc me mb)), (mb, o)]
theorem itR_low {w w0 : World} {X : List Nat} {L : List (Nat × Obj)} {b1 b mb : Nat} {me : Int} {o : Obj} (hS : St w0 X L w) (hm : (mb, o) ∈ L) : Low w.heap.size (itR b1 b mb me o) := .cell (.cell (.lt (hS.lt hm) .nil))
theorem list_any {b mb : Nat} {me : Int} {o : Obj} {m : Mem} {w : World} (hown : Own w [(b, C 63 (rc me mb)), (mb, o)]) (ho : IsMp eI o (mv m)) : Ret Try.prog 14 #[.pointer (some ⟨b, 0, none⟩)] w fun v w' => ∃ B, Sl 29 3 v ((seen m 8).map ud) B ∧ St w [] B w' := by
  have hS := St.init hown
  simp only [List.map_cons, List.map_nil] at hS
  refine Ret.enterM Try.func14 Try.ntmps14 rfl rfl ?_
  simp only [argEnv, Nat.reduceAdd]
  refine SatC.seq ?_
  refine SatC.region ?_
  refine SatL.pu (RunV.assign rfl) rfl ?_
  refine SatL.nil (SatE.thenC ?_)
  refine SatC.seq ?_
  refine SatC.region ?_
  refine SatL.op rfl (OpW.alloc hS rfl rfl (by repeat constructor) ?_)
  clear hS
  intro b3 w1 _ hS
  refine SatL.nil (SatE.thenC ?_)
  refine SatC.seq ?_
  refine SatC.seq ?_
  refine SatC.region ?_
  refine SatL.pu (RunV.move rfl) rfl ?_
  refine SatL.op rfl (OpW.enter rfl rfl rfl (rfl) (each_any _ _) ?_)
  rintro r2 w2 ⟨b1, rfl, h⟩
  replace hS := hS.callT (A := []) (by repeat constructor) h
  refine SatL.nil (SatE.thenC ?_)
  refine SatC.block ?_
  have hlow := itR_low (b1 := b1) (b := b) (me := me) hS (by simp : (mb, o) ∈ _)
  refine SatC.rangeOwn (α := Upd) (G := Value × List (Nat × Obj)) (A := Nat) (M := 8) (R := itR b1 b mb me o) (fun pre g => Sl 29 3 g.1 (pre.map ud) g.2) (fun _ _ _ => False) (fun g => (b3, C 23 [g.1]) :: (g.2 ++ itR b1 b mb me o)) (fun x a => [(a, C 29 (ud x))]) (fun x a => [(4, .pointer (some ⟨a, 0, none⟩))]) [(3, _)] (.slice none 0 0, []) (by repeat constructor)
    (each_stops ho _ (hS.ownT (by repeat constructor))) (hS.sel (by repeat constructor)) .nil rfl rfl (fun _ => rfl) rfl (fun _ _ h => .cell (.app h.low hlow)) (fun _ _ _ h => h.elim) (fun _ _ c hc => by simp only [List.mem_singleton] at hc; subst hc; rfl)
    (fun _ _ _ _ _ h h' ho ho' => Among.cons (Among.app (Among.sl (Own.val1 ho ho') h h') Among.refl)) (fun _ _ _ c hc => List.mem_cons_of_mem _ (List.mem_append_right _ hc)) ?_ ?_ ?_ ?_
  · rintro l pre x ⟨v, B⟩ W hsl hown
    try simp only [List.cons_append, List.nil_append] at hown
    have hS := St.init hown
    refine SatF.weak (e' := [(3, _), (7, _)]) (by repeat constructor) ?_
    refine SatF.region ?_
    refine SatG.op rfl rfl (OpW.alloc hS rfl rfl (by repeat constructor) ?_)
    clear hS
    intro b4 w3 _ hS
    refine SatG.op rfl rfl (OpW.store hS rfl rfl (by repeat constructor) (by repeat constructor) (by repeat constructor) rfl rfl ?_)
    clear hS
    intro w4 hS
    refine SatG.nil ?_
    refine SatE.laid (b4) (hS) (by repeat constructor)
  · rintro l pre x a ⟨v, B⟩ W hsl hown hlen
    try simp only [List.cons_append, List.nil_append] at hown
    have hS := St.init hown
    refine SatF.weak (e' := [(3, _), (4, _)]) (by repeat constructor) ?_
    refine SatF.block ?_
    refine SatF.region ?_
    refine SatG.pu (RunV.load1 hS rfl rfl (by repeat constructor) rfl) rfl rfl ?_
    refine SatG.pu (RunV.loadN hS rfl rfl (by repeat constructor) (by repeat constructor)) rfl rfl ?_
    refine SatG.op rfl rfl (OpW.buildSlice1 hS rfl rfl rfl rfl rfl (by repeat constructor) rfl rfl rfl ?_)
    clear hS
    intro b10 w3 _ hS
    refine SatG.op rfl rfl (OpW.append1 (by assumption) hS (by repeat constructor) rfl rfl (by repeat constructor) rfl rfl rfl rfl rfl rfl rfl rfl (by first | omega | (simp only [List.length_map]; omega) | (simp only [List.length_append, List.length_map, List.length_cons, List.length_nil]; omega)) rfl ?_)
    clear hS
    intro v11 B11 w4 hsl11 hS
    refine SatG.op rfl rfl (OpW.storeSv hS rfl rfl (by assumption) (by repeat constructor) (by repeat constructor) rfl ?_)
    clear hS
    intro w5 hS
    refine SatG.nil (SatE.blk_normal ?_)
    refine SatE.round ((v11, B11)) ?_ (hS.sel (by repeat constructor))
    show Sl 29 3 v11 ((pre ++ [x]).map ud) B11
    rw [List.map_append]; exact hsl11
  · clear hS
    rintro D xs ⟨v, B⟩ w3 hxs hsl hS
    try simp only [List.cons_append, List.nil_append] at hS
    refine SatEM.blk_normal (SatEM.thenM ?_)
    refine SatM.seq ?_
    refine SatM.region ?_
    refine SatLM.pu (RunV.load1 hS rfl rfl (by repeat constructor) rfl) rfl ?_
    refine SatLM.pu (RunV.assign rfl) rfl ?_
    refine SatLM.nil (SatEM.thenM ?_)
    refine SatM.ret ?_
    refine SatEM.ret1S hS rfl rfl (by repeat constructor) ?_
    clear hS
    intro w4 hS
    subst hxs; exact ⟨_, hsl, St.roL hown (hS.sel (R := [(b, C 63 (rc me mb)), (mb, o)] ++ B) (by repeat constructor)) .here⟩
  · intro D c pre g W _ hx; exact hx.elim
def lives (u : Upd) : Bool := decide (u.s = 0) || decide (u.s = 1)
theorem lives_any (u : Upd) (w : World) : Ret Try.prog 38 #[uv u] w fun v w' => v = .bool (lives u) ∧ St w [] [] w' := by
  have hS := St.init0 w
  refine Ret.enter Try.func38 Try.ntmps38 rfl rfl ?_
  simp only [argEnv, Nat.reduceAdd]
  refine SatC.seq ?_
  refine SatC.region ?_
  refine SatL.op rfl (OpW.box hS rfl rfl (by repeat constructor) ?_)
  clear hS
  intro b1 w1 _ hS
  refine SatL.pu (RunV.assign rfl) rfl ?_
  refine SatL.nil (SatE.thenC ?_)
  refine SatC.seq ?_
  refine SatC.region ?_
  first | refine SatL.pu (RunV.fieldAddrL rfl rfl rfl) rfl ?_ | refine SatL.pu (RunV.fieldAddr rfl rfl rfl) rfl ?_
  refine SatL.pu (RunV.load1 hS rfl rfl (by repeat constructor) rfl) rfl ?_
  refine SatL.pu (RunV.eql rfl rfl) rfl ?_
  refine SatL.pu (RunV.move rfl) rfl ?_
  refine SatL.guard rfl rfl rfl (fun h1 => ?_) (fun h1 => ?_)
  · (try simp only [cx, ne_eq] at h1)
    try (exfalso; (first | omega | exact h1 trivial | contradiction); done)
    all_goals
    first | refine SatL.pu (RunV.fieldAddrL rfl rfl rfl) rfl ?_ | refine SatL.pu (RunV.fieldAddr rfl rfl rfl) rfl ?_
    refine SatL.guard_y rfl rfl ?_
    refine SatL.pu (RunV.load1 hS rfl rfl (by repeat constructor) rfl) rfl ?_
    refine SatL.guard_y rfl rfl ?_
    refine SatL.pu (RunV.eql rfl rfl) rfl ?_
    refine SatL.pu (RunV.pick_f rfl rfl) rfl ?_
    refine SatL.pu (RunV.assign rfl) rfl ?_
    refine SatL.nil (SatE.thenC ?_)
    refine SatC.ret ?_
    refine SatE.ret1 rfl rfl ?_
    exact ⟨by simp_all [lives], hS.sel (by repeat constructor)⟩
  · (try simp only [cx, ne_eq] at h1)
    try (exfalso; (first | omega | exact h1 trivial | contradiction); done)
    all_goals
    refine SatL.guard_n rfl rfl rfl rfl ?_
    refine SatL.guard_n rfl rfl rfl rfl ?_
    refine SatL.pu (RunV.pick_t rfl rfl) rfl ?_
    refine SatL.pu (RunV.assign rfl) rfl ?_
    refine SatL.nil (SatE.thenC ?_)
    refine SatC.ret ?_
    refine SatE.ret1 rfl rfl ?_
    exact ⟨by simp_all [lives], hS.sel (by repeat constructor)⟩
def lv (l : List Upd) : List Int := (l.filter lives).map (·.n)
theorem live_any {b mb : Nat} {me : Int} {o : Obj} {m : Mem} {w : World} (hown : Own w [(b, C 63 (rc me mb)), (mb, o)]) (ho : IsMp eI o (mv m)) : Ret Try.prog 26 #[.pointer (some ⟨b, 0, none⟩)] w fun v w' => ∃ B, Sl 3 1 v ((lv (seen m 8)).map iR) B ∧ St w [] B w' := by
  have hS := St.init hown
  simp only [List.map_cons, List.map_nil] at hS
  refine Ret.enterM Try.func26 Try.ntmps26 rfl rfl ?_
  simp only [argEnv, Nat.reduceAdd]
  refine SatC.seq ?_
  refine SatC.region ?_
  refine SatL.pu (RunV.assign rfl) rfl ?_
  refine SatL.nil (SatE.thenC ?_)
  refine SatC.seq ?_
  refine SatC.region ?_
  refine SatL.op rfl (OpW.alloc hS rfl rfl (by repeat constructor) ?_)
  clear hS
  intro b3 w1 _ hS
  refine SatL.nil (SatE.thenC ?_)
  refine SatC.seq ?_
  refine SatC.seq ?_
  refine SatC.region ?_
  refine SatL.pu (RunV.move rfl) rfl ?_
  refine SatL.op rfl (OpW.enter rfl rfl rfl (rfl) (each_any _ _) ?_)
  rintro r2 w2 ⟨b1, rfl, h⟩
  replace hS := hS.callT (A := []) (by repeat constructor) h
  refine SatL.nil (SatE.thenC ?_)
  refine SatC.block ?_
  have hlow := itR_low (b1 := b1) (b := b) (me := me) hS (by simp : (mb, o) ∈ _)
  refine SatC.rangeOwn (α := Upd) (G := Value × List (Nat × Obj)) (A := Nat) (M := 8) (R := itR b1 b mb me o) (fun pre g => Sl 3 1 g.1 ((lv pre).map iR) g.2) (fun _ _ _ => False) (fun g => (b3, C 57 [g.1]) :: (g.2 ++ itR b1 b mb me o)) (fun x a => [(a, C 29 (ud x))]) (fun x a => [(4, .pointer (some ⟨a, 0, none⟩))]) [(3, _)] (.slice none 0 0, []) (by repeat constructor)
    (each_stops ho _ (hS.ownT (by repeat constructor))) (hS.sel (by repeat constructor)) .nil rfl rfl (fun _ => rfl) rfl (fun _ _ h => .cell (.app h.low hlow)) (fun _ _ _ h => h.elim) (fun _ _ c hc => by simp only [List.mem_singleton] at hc; subst hc; rfl)
    (fun _ _ _ _ _ h h' ho ho' => Among.cons (Among.app (Among.sl (Own.val1 ho ho') h h') Among.refl)) (fun _ _ _ c hc => List.mem_cons_of_mem _ (List.mem_append_right _ hc)) ?_ ?_ ?_ ?_
  · rintro l pre x ⟨v, B⟩ W hsl hown
    try simp only [List.cons_append, List.nil_append] at hown
    have hS := St.init hown
    refine SatF.weak (e' := [(3, _), (7, _)]) (by repeat constructor) ?_
    refine SatF.region ?_
    refine SatG.op rfl rfl (OpW.alloc hS rfl rfl (by repeat constructor) ?_)
    clear hS
    intro b4 w3 _ hS
    refine SatG.op rfl rfl (OpW.store hS rfl rfl (by repeat constructor) (by repeat constructor) (by repeat constructor) rfl rfl ?_)
    clear hS
    intro w4 hS
    refine SatG.nil ?_
    refine SatE.laid (b4) (hS) (by repeat constructor)
  · rintro l pre x a ⟨v, B⟩ W hsl hown hlen
    try simp only [List.cons_append, List.nil_append] at hown
    have hS := St.init hown
    refine SatF.weak (e' := [(3, _), (4, _)]) (by repeat constructor) ?_
    have hlen' : (lv pre).length ≤ pre.length := by unfold lv; rw [List.length_map]; exact List.length_filter_le ..
    refine SatF.block ?_
    refine SatF.seq ?_
    refine SatF.region ?_
    refine SatG.pu (RunV.loadN hS rfl rfl (by repeat constructor) (by repeat constructor)) rfl rfl ?_
    refine SatG.op rfl rfl (OpW.enter rfl rfl rfl (rfl) (lives_any x _) ?_)
    rintro r3 w3 ⟨rfl, h⟩
    replace hS := St.callN hS h
    refine SatG.nil (SatE.thenF ?_)
    refine SatF.cond rfl (fun h1 => ?_) (fun h1 => ?_)
    · (try simp only [cx, ne_eq] at h1)
      try (exfalso; (first | omega | exact h1 trivial | contradiction); done)
      all_goals
      refine SatF.region ?_
      refine SatG.pu (RunV.load1 hS rfl rfl (by repeat constructor) rfl) rfl rfl ?_
      first | refine SatG.pu (RunV.fieldAddrL rfl rfl rfl) rfl rfl ?_ | refine SatG.pu (RunV.fieldAddr rfl rfl rfl) rfl rfl ?_
      refine SatG.pu (RunV.load1 hS rfl rfl (by repeat constructor) rfl) rfl rfl ?_
      refine SatG.op rfl rfl (OpW.buildSlice1 hS rfl rfl rfl rfl rfl (by repeat constructor) rfl rfl rfl ?_)
      clear hS
      intro b13 w4 _ hS
      refine SatG.op rfl rfl (OpW.append1 (by assumption) hS (by repeat constructor) rfl rfl (by repeat constructor) rfl rfl rfl rfl rfl rfl rfl rfl (by first | omega | (simp only [List.length_map]; omega) | (simp only [List.length_append, List.length_map, List.length_cons, List.length_nil]; omega)) rfl ?_)
      clear hS
      intro v14 B14 w5 hsl14 hS
      refine SatG.op rfl rfl (OpW.storeSv hS rfl rfl (by assumption) (by repeat constructor) (by repeat constructor) rfl ?_)
      clear hS
      intro w6 hS
      refine SatG.nil (SatE.blk_normal ?_)
      refine SatE.round ((v14, B14)) ?_ (hS.sel (by repeat constructor))
      have e : lv (pre ++ [x]) = lv pre ++ [x.n] := by simp_all [lv]
      show Sl 3 1 v14 ((lv (pre ++ [x])).map iR) B14
      rw [e, List.map_append]; exact hsl14
    · (try simp only [cx, ne_eq] at h1)
      try (exfalso; (first | omega | exact h1 trivial | contradiction); done)
      all_goals
      refine SatF.skip (SatE.blk_normal ?_)
      refine SatE.round ((v, B)) ?_ (hS.sel (by repeat constructor))
      have e : lv (pre ++ [x]) = lv pre := by simp_all [lv]
      show Sl 3 1 v ((lv (pre ++ [x])).map iR) B
      rw [e]; exact hsl
  · clear hS
    rintro D xs ⟨v, B⟩ w3 hxs hsl hS
    try simp only [List.cons_append, List.nil_append] at hS
    refine SatEM.blk_normal (SatEM.thenM ?_)
    refine SatM.seq ?_
    refine SatM.region ?_
    refine SatLM.pu (RunV.load1 hS rfl rfl (by repeat constructor) rfl) rfl ?_
    refine SatLM.pu (RunV.assign rfl) rfl ?_
    refine SatLM.nil (SatEM.thenM ?_)
    refine SatM.ret ?_
    refine SatEM.ret1S hS rfl rfl (by repeat constructor) ?_
    clear hS
    intro w4 hS
    subst hxs; exact ⟨_, hsl, St.roL hown (hS.sel (R := [(b, C 63 (rc me mb)), (mb, o)] ++ B) (by repeat constructor)) .here⟩
  · intro D c pre g W _ hx; exact hx.elim
theorem peers_any {b mb : Nat} {me : Int} {o : Obj} {m : Mem} {w : World} (hown : Own w [(b, C 63 (rc me mb)), (mb, o)]) (ho : IsMp eI o (mv m)) : Ret Try.prog 28 #[.pointer (some ⟨b, 0, none⟩)] w fun v w' => ∃ B, Sl 3 1 v (((lv (seen m 8)).filter fun n => decide (¬ n = me)).map iR) B ∧ St w [] B w' := by
  have hS := St.init hown
  simp only [List.map_cons, List.map_nil] at hS
  have hlv : (lv (seen m 8)).length ≤ 8 := by
    unfold lv; rw [List.length_map]
    exact Nat.le_trans (List.length_filter_le ..) (Nat.le_trans (List.length_filterMap_le ..) (by simp))
  refine Ret.enter Try.func28 Try.ntmps28 rfl rfl ?_
  simp only [argEnv, Nat.reduceAdd]
  generalize hl : lv (seen m 8) = l at hlv ⊢
  refine SatC.seq ?_
  refine SatC.region ?_
  refine SatL.pu (RunV.assign rfl) rfl ?_
  refine SatL.nil (SatE.thenC ?_)
  refine SatC.seq ?_
  refine SatC.region ?_
  refine SatL.pu (RunV.assign rfl) rfl ?_
  refine SatL.nil (SatE.thenC ?_)
  refine SatC.seq ?_
  refine SatC.seq ?_
  refine SatC.region ?_
  refine SatL.pu (RunV.move rfl) rfl ?_
  refine SatL.op rfl (OpW.enter rfl rfl rfl (rfl) (live_any (hS.ownOf (by repeat constructor)) ho) ?_)
  rintro r1 w1 ⟨B1, hsl1, h⟩
  replace hS := hS.call0 h
  rw [hl] at hsl1
  obtain ⟨c1, hv1⟩ := hsl1.slv
  simp only [List.length_map] at hv1
  refine SatL.pu (RunV.lenR hv1 rfl rfl) rfl ?_
  refine SatL.pu (RunV.move rfl) rfl ?_
  refine SatL.nil (SatE.thenC ?_)
  refine SatC.block ?_
  refine SatC.loopK (G := Nat × Value × List (Nat × Obj)) (V := fun ⟨i, u, B⟩ => [(9, .int .i64 (i : Int)), (3, u)]) (Cn := [(0, _), (2, _), (7, _), (8, _)]) (I := fun ⟨i, u, B⟩ w' => i ≤ l.length ∧ Sl 3 1 u (((l.take i).filter fun n => decide (¬ n = me)).map iR) B ∧ St w [b, mb] (B ++ (B1 ++ [(b, C 63 (rc me mb)), (mb, o)])) w') (μ := fun ⟨i, u, B⟩ => l.length - i) (0, .slice none 0 0, []) ?_ (by repeat constructor) ?_
  · exact ⟨Nat.zero_le _, .nil, hS⟩
  clear hS
  rintro ⟨i, u, B⟩ w2 ⟨hi, hsl, hS⟩
  refine SatC.weak (e' := [(0, _), (2, _), (3, _), (7, _), (8, _), (9, _)]) (by repeat constructor) ?_
  refine SatC.seq ?_
  refine SatC.region ?_
  refine SatL.pu (RunV.lss rfl rfl) rfl ?_
  refine SatL.nil (SatE.thenC ?_)
  refine SatC.seq ?_
  refine SatC.cond rfl (fun h1 => ?_) (fun h1 => ?_)
  · (try simp only [cx, ne_eq] at h1)
    try (exfalso; (first | omega | exact h1 trivial | contradiction); done)
    all_goals
    refine SatC.skip (SatE.thenC ?_)
    refine SatC.seq ?_
    refine SatC.block ?_
    refine SatC.seq ?_
    obtain ⟨y, hy⟩ := get_some l i (by omega)
    have hlen : ((l.take i).filter fun n => decide (¬ n = me)).length ≤ l.length := Nat.le_trans (List.length_filter_le ..) (by rw [List.length_take]; omega)
    refine SatC.region ?_
    refine SatL.pu (RunV.indexR hv1 rfl rfl rfl (by omega) (by omega) rfl) rfl ?_
    refine SatL.pu (RunV.loadR1z (hsl1.rd hS (by repeat constructor)) rfl rfl (map_get hy) rfl) rfl ?_
    refine SatL.pu (RunV.assign rfl) rfl ?_
    refine SatL.nil (SatE.thenC ?_)
    refine SatC.seq ?_
    refine SatC.region ?_
    refine SatL.pu (RunV.move rfl) rfl ?_
    refine SatL.pu (RunV.move rfl) rfl ?_
    first | refine SatL.pu (RunV.nil_ptr rfl) rfl ?_ | refine SatL.pu (RunV.nil_func rfl) rfl ?_ | refine SatL.pu (RunV.nil_yield rfl) rfl ?_
    first | refine SatL.pu (RunV.fieldAddrL rfl rfl rfl) rfl ?_ | refine SatL.pu (RunV.fieldAddr rfl rfl rfl) rfl ?_
    refine SatL.pu (RunV.load1 hS rfl rfl (by repeat constructor) rfl) rfl ?_
    refine SatL.pu (RunV.neq rfl rfl) rfl ?_
    refine SatL.nil (SatE.thenC ?_)
    refine SatC.cond rfl (fun h2 => ?_) (fun h2 => ?_)
    · (try simp only [cx, ne_eq] at h2)
      try (exfalso; (first | omega | exact h2 trivial | contradiction); done)
      all_goals
      refine SatC.region ?_
      refine SatL.pu (RunV.move rfl) rfl ?_
      refine SatL.pu (RunV.move rfl) rfl ?_
      refine SatL.op rfl (OpW.buildSlice1 hS rfl rfl rfl rfl rfl (by repeat constructor) rfl rfl rfl ?_)
      clear hS
      intro b21 w3 _ hS
      refine SatL.op rfl (OpW.append1 (by assumption) hS (by repeat constructor) rfl rfl (by repeat constructor) rfl rfl rfl rfl rfl rfl rfl rfl (by first | omega | (simp only [List.length_map]; omega) | (simp only [List.length_append, List.length_map, List.length_cons, List.length_nil]; omega)) rfl ?_)
      clear hS
      intro v22 B22 w4 hsl22 hS
      refine SatL.pu (RunV.assign rfl) rfl ?_
      refine SatL.nil (SatE.blk_normal (SatE.thenC ?_))
      refine SatC.weak (e' := [(0, _), (2, _), (3, _), (7, _), (8, _), (9, _)]) (by repeat constructor) ?_
      refine SatC.region ?_
      refine SatL.pu (RunV.add rfl rfl (by first | exact wrapI64 (by omega) | rfl)) rfl ?_
      refine SatL.pu (RunV.move rfl) rfl ?_
      refine SatL.nil ?_
      refine SatE.again ((i + 1, v22, B22)) ?_ (by first | omega | (dsimp only; omega)) (by repeat constructor)
      refine ⟨by omega, ?_, hS.sel (by repeat constructor)⟩
      have e : (l.take (i + 1)).filter (fun n => decide (¬ n = me)) = (l.take i).filter (fun n => decide (¬ n = me)) ++ [y] := by rw [List.take_add_one, hy, List.filter_append]; simp_all
      show Sl 3 1 v22 (((l.take (i + 1)).filter (fun n => decide (¬ n = me))).map iR) B22
      rw [e, List.map_append]; exact hsl22
    · (try simp only [cx, ne_eq] at h2)
      try (exfalso; (first | omega | exact h2 trivial | contradiction); done)
      all_goals
      refine SatC.skip (SatE.blk_normal (SatE.thenC ?_))
      refine SatC.region ?_
      refine SatL.pu (RunV.add rfl rfl (by first | exact wrapI64 (by omega) | rfl)) rfl ?_
      refine SatL.pu (RunV.move rfl) rfl ?_
      refine SatL.nil ?_
      refine SatE.again ((i + 1, u, B)) ?_ (by first | omega | (dsimp only; omega)) (by repeat constructor)
      refine ⟨by omega, ?_, hS.sel (by repeat constructor)⟩
      have e : (l.take (i + 1)).filter (fun n => decide (¬ n = me)) = (l.take i).filter (fun n => decide (¬ n = me)) := by rw [List.take_add_one, hy, List.filter_append]; simp_all
      show Sl 3 1 u (((l.take (i + 1)).filter (fun n => decide (¬ n = me))).map iR) B
      rw [e]; exact hsl
  · (try simp only [cx, ne_eq] at h1)
    try (exfalso; (first | omega | exact h1 trivial | contradiction); done)
    all_goals
    refine SatC.exit (SatE.then_exit (SatE.then_exit (SatE.blk_exit (SatE.thenC ?_))))
    refine SatC.seq ?_
    refine SatC.region ?_
    refine SatL.pu (RunV.move rfl) rfl ?_
    refine SatL.pu (RunV.assign rfl) rfl ?_
    refine SatL.nil (SatE.thenC ?_)
    refine SatC.ret ?_
    refine SatE.ret1 rfl rfl ?_
    rw [List.take_of_length_le (by omega)] at hsl; exact ⟨_, hsl, St.roL hown (hS.sel (R := [(b, C 63 (rc me mb)), (mb, o)] ++ B) (by repeat constructor)) .here⟩
def leaveC (me : Int) (m : Mem) : Upd × Bool × Mem := if (at_ m me).s = 3 then (at_ m me, false, m) else (⟨(at_ m me).n, (at_ m me).i, 3⟩, true, lput m me ⟨(at_ m me).n, (at_ m me).i, 3⟩)
theorem leave_any {b mb : Nat} {me : Int} {o : Obj} {m : Mem} {w : World} (hown : Own w [(b, C 63 (rc me mb)), (mb, o)]) (ho : IsMp eI o (mv m)) : Ret Try.prog 15 #[.pointer (some ⟨b, 0, none⟩)] w fun v w' => v = .tuple #[uv (leaveC me m).1, .bool (leaveC me m).2.1] ∧ ∃ o', IsMp eI o' (mv (leaveC me m).2.2) ∧ St w [b, mb] [(b, C 63 (rc me mb)), (mb, o')] w' := by
  have hS := St.init hown
  simp only [List.map_cons, List.map_nil] at hS
  refine Ret.enter Try.func15 Try.ntmps15 rfl rfl ?_
  simp only [argEnv, Nat.reduceAdd]
  refine SatC.seq ?_
  refine SatC.region ?_
  refine SatL.op rfl (OpW.alloc hS rfl rfl (by repeat constructor) ?_)
  clear hS
  intro b2 w1 _ hS
  refine SatL.pu (RunV.assign rfl) rfl ?_
  refine SatL.nil (SatE.thenC ?_)
  refine SatC.seq ?_
  refine SatC.seq ?_
  refine SatC.region ?_
  refine SatL.pu (RunV.move rfl) rfl ?_
  refine SatL.op rfl (OpW.enter rfl rfl rfl (rfl) (rnone_any (hS.ownOf (by repeat constructor))) ?_)
  rintro r2 w2 ⟨rfl, h⟩
  replace hS := St.callN hS h
  refine SatL.nil (SatE.thenC ?_)
  refine SatC.cond rfl (fun h1 => ?_) (fun h1 => ?_)
  · (try simp only [cx, ne_eq] at h1)
    try (exfalso; (first | omega | exact h1 trivial | contradiction); done)
    all_goals
    refine SatC.seq ?_
    refine SatC.region ?_
    refine SatL.pu (RunV.build rfl (by simp [go_sem]; try rfl)) rfl ?_
    refine SatL.op rfl (OpW.store hS rfl rfl (by repeat constructor) (by repeat constructor) (by repeat constructor) rfl rfl ?_)
    clear hS
    intro w3 hS
    refine SatL.pu (RunV.assign rfl) rfl ?_
    refine SatL.nil (SatE.thenC ?_)
    refine SatC.ret (SatE.then_ret ?_)
    refine SatE.retG2 hS rfl (.cellN rfl rfl (by repeat constructor) (by repeat constructor)) (.tmp rfl) ?_
    first
    | (rw [show leaveC me m = (at_ m me, false, m) from if_pos (by assumption)]
       exact ⟨rfl, o, ho, hS.sel (by repeat constructor)⟩)
    | (rw [show leaveC me m = (⟨(at_ m me).n, (at_ m me).i, 3⟩, true, lput m me ⟨(at_ m me).n, (at_ m me).i, 3⟩) from if_neg (by assumption)]
       exact ⟨rfl, _, by rw [← mv_put]; assumption, hS.sel (by repeat constructor)⟩)
  · (try simp only [cx, ne_eq] at h1)
    try (exfalso; (first | omega | exact h1 trivial | contradiction); done)
    all_goals
    refine SatC.skip (SatE.thenC ?_)
    refine SatC.seq ?_
    refine SatC.region ?_
    refine SatL.pu (RunV.move rfl) rfl ?_
    refine SatL.op rfl (OpW.enter rfl rfl rfl (rfl) (self_any (me := me) (hS.ownT (by repeat constructor)) (by assumption)) ?_)
    rintro r3 w3 ⟨rfl, h⟩
    replace hS := St.callN hS h
    refine SatL.op rfl (OpW.alloc hS rfl rfl (by repeat constructor) ?_)
    clear hS
    intro b4 w4 _ hS
    refine SatL.op rfl (OpW.store hS rfl rfl (by repeat constructor) (by repeat constructor) (by repeat constructor) rfl rfl ?_)
    clear hS
    intro w5 hS
    refine SatL.nil (SatE.thenC ?_)
    refine SatC.seq ?_
    refine SatC.seq ?_
    refine SatC.region ?_
    first | refine SatL.pu (RunV.fieldAddrL rfl rfl rfl) rfl ?_ | refine SatL.pu (RunV.fieldAddr rfl rfl rfl) rfl ?_
    refine SatL.pu (RunV.load1 hS rfl rfl (by repeat constructor) rfl) rfl ?_
    refine SatL.pu (RunV.eql rfl rfl) rfl ?_
    refine SatL.nil (SatE.thenC ?_)
    refine SatC.cond rfl (fun h2 => ?_) (fun h2 => ?_)
    · (try simp only [cx, ne_eq] at h2)
      try (exfalso; (first | omega | exact h2 trivial | contradiction); done)
      all_goals
      refine SatC.seq ?_
      refine SatC.region ?_
      refine SatL.pu (RunV.loadN hS rfl rfl (by repeat constructor) (by repeat constructor)) rfl ?_
      refine SatL.op rfl (OpW.store hS rfl rfl (by repeat constructor) (by repeat constructor) (by repeat constructor) rfl rfl ?_)
      clear hS
      intro w6 hS
      refine SatL.pu (RunV.assign rfl) rfl ?_
      refine SatL.nil (SatE.thenC ?_)
      refine SatC.ret (SatE.then_ret ?_)
      refine SatE.retG2 hS rfl (.cellN rfl rfl (by repeat constructor) (by repeat constructor)) (.tmp rfl) ?_
      first
      | (rw [show leaveC me m = (at_ m me, false, m) from if_pos (by assumption)]
         exact ⟨rfl, o, ho, hS.sel (by repeat constructor)⟩)
      | (rw [show leaveC me m = (⟨(at_ m me).n, (at_ m me).i, 3⟩, true, lput m me ⟨(at_ m me).n, (at_ m me).i, 3⟩) from if_neg (by assumption)]
         exact ⟨rfl, _, by rw [← mv_put]; assumption, hS.sel (by repeat constructor)⟩)
    · (try simp only [cx, ne_eq] at h2)
      try (exfalso; (first | omega | exact h2 trivial | contradiction); done)
      all_goals
      refine SatC.skip (SatE.thenC ?_)
      refine SatC.seq ?_
      refine SatC.region ?_
      first | refine SatL.pu (RunV.fieldAddrL rfl rfl rfl) rfl ?_ | refine SatL.pu (RunV.fieldAddr rfl rfl rfl) rfl ?_
      refine SatL.op rfl (OpW.store hS rfl rfl (by repeat constructor) (by repeat constructor) (by repeat constructor) rfl rfl ?_)
      clear hS
      intro w6 hS
      refine SatL.nil (SatE.thenC ?_)
      refine SatC.seq ?_
      refine SatC.drawnT 9 hS (hS) (by kernel_rfl) ?_
      clear hS
      intro w7 hh hS hD
      refine SatD.tk 0 rfl hD (fun _ hw => RunV.move rfl) ?_
      first | refine SatD.tk 1 rfl hD (fun _ hw => RunV.nil_ptr rfl) ?_ | refine SatD.tk 1 rfl hD (fun _ hw => RunV.nil_func rfl) ?_ | refine SatD.tk 1 rfl hD (fun _ hw => RunV.nil_yield rfl) ?_
      first | refine SatD.tk 2 rfl hD (fun _ hw => RunV.fieldAddrL rfl rfl rfl) ?_ | refine SatD.tk 2 rfl hD (fun _ hw => RunV.fieldAddr rfl rfl rfl) ?_
      refine SatD.tk 3 rfl hD (fun _ hw => RunV.load1 hw rfl rfl (by repeat constructor) rfl) ?_
      refine SatD.tk 4 rfl hD (fun _ hw => RunV.move rfl) ?_
      first | refine SatD.tk 5 rfl hD (fun _ hw => RunV.nil_ptr rfl) ?_ | refine SatD.tk 5 rfl hD (fun _ hw => RunV.nil_func rfl) ?_ | refine SatD.tk 5 rfl hD (fun _ hw => RunV.nil_yield rfl) ?_
      first | refine SatD.tk 6 rfl hD (fun _ hw => RunV.fieldAddrL rfl rfl rfl) ?_ | refine SatD.tk 6 rfl hD (fun _ hw => RunV.fieldAddr rfl rfl rfl) ?_
      refine SatD.tk 7 rfl hD (fun _ hw => RunV.load1 hw rfl rfl (by repeat constructor) rfl) ?_
      refine SatD.tk 8 rfl hD (fun _ hw => RunV.loadN hw rfl rfl (by repeat constructor) (by repeat constructor)) ?_
      refine SatD.effF (by kernel_rfl) rfl rfl (OpW.mapUpdate (keyInt rfl) hS rfl rfl rfl rfl (by assumption) _ (fun o' => by repeat constructor) ?_)
      clear hS
      intro o8 w8 ho8 hS
      refine SatD.done 0 (by kernel_rfl) (SatE.thenC ?_)
      clear hD
      refine SatC.seq ?_
      refine SatC.weak (e' := [(2, _), (3, _), (4, _)]) (by repeat constructor) ?_
      refine SatC.region ?_
      refine SatL.pu (RunV.loadN hS rfl rfl (by repeat constructor) (by repeat constructor)) rfl ?_
      refine SatL.op rfl (OpW.store hS rfl rfl (by repeat constructor) (by repeat constructor) (by repeat constructor) rfl rfl ?_)
      clear hS
      intro w9 hS
      refine SatL.pu (RunV.assign rfl) rfl ?_
      refine SatL.nil (SatE.thenC ?_)
      refine SatC.ret ?_
      refine SatE.retG2 hS rfl (.cellN rfl rfl (by repeat constructor) (by repeat constructor)) (.tmp rfl) ?_
      first
      | (rw [show leaveC me m = (at_ m me, false, m) from if_pos (by assumption)]
         exact ⟨rfl, o, ho, hS.sel (by repeat constructor)⟩)
      | (rw [show leaveC me m = (⟨(at_ m me).n, (at_ m me).i, 3⟩, true, lput m me ⟨(at_ m me).n, (at_ m me).i, 3⟩) from if_neg (by assumption)]
         exact ⟨rfl, _, by rw [← mv_put]; assumption, hS.sel (by repeat constructor)⟩)
end Go.Proofs.Ytpbfjadkimojeaa
