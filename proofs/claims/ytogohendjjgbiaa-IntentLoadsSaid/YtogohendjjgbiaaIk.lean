/- Choosing, walked: the program's, and the document's. -/
import Derived.Test.YtogohendjjgbiaaIj
import Derived.Test.YtogohendjjgbiaaK33
set_option linter.unusedSimpArgs false
set_option linter.unusedVariables false
set_option maxRecDepth 100000
set_option maxHeartbeats 4000000
namespace Go.Proofs.Ytogohendjjgbiaa
open Go.RowKit
theorem yield_b {A B : Prop} {e : Ending} (h : (e = .returned (.bool true) ∧ A) ∨ (e = .returned (.bool false) ∧ B)) : ∃ r : Bool, e = .returned (.bool r) ∧ (r = true → A) ∧ (r = false → B) := by
  rcases h with ⟨rfl, h⟩ | ⟨rfl, h⟩
  · exact ⟨true, rfl, fun _ => h, (fun h => by cases h)⟩
  · exact ⟨false, rfl, (fun h => by cases h), fun _ => h⟩
theorem own_drop {w w0 : World} {X : List Nat} {c : Nat × Obj} {L : List (Nat × Obj)} (hS : St w0 X (c :: L) w) : Own w L := ⟨fun d hd => hS.own d (List.mem_cons_of_mem _ hd), (List.nodup_cons.1 hS.nd).2⟩
section
variable {v : Value} {l : List Itn} {A : List (Nat × Obj)} {s d : List UInt8}
/-- What the iterator reads. -/
@[reducible] def itS (b3 b4 b5 : Nat) (v : Value) (s d : List UInt8) (A : List (Nat × Obj)) : List (Nat × Obj) := (b3, C 22 [v]) :: (b4, C 9 [str s]) :: (b5, C 9 [str d]) :: A
theorem speaking_any (hv1 : v.oneCell' = true) (w : World) : Ret Try.prog 33 #[v, str s, str d] w fun u w' => ∃ b3 b4 b5, u = .func (.func 56) #[] #[.pointer (some ⟨b3, 0, none⟩), .pointer (some ⟨b4, 0, none⟩), .pointer (some ⟨b5, 0, none⟩)] ∧ St w [] (itS b3 b4 b5 v s d []) w' := by
  have hS := St.init0 w
  refine Ret.enter Try.func33 Try.ntmps33 rfl rfl ?_
  simp only [argEnv, Nat.reduceAdd]
  refine SatC.seq ?_
  refine SatC.region ?_
  refine SatL.op rfl (OpW.box hS rfl rfl (.one hv1) ?_)
  clear hS
  intro b3 w1 _ hS
  refine SatL.op rfl (OpW.box hS rfl rfl (by repeat constructor) ?_)
  clear hS
  intro b4 w2 _ hS
  refine SatL.op rfl (OpW.box hS rfl rfl (by repeat constructor) ?_)
  clear hS
  intro b5 w3 _ hS
  refine SatL.pu (RunV.assign rfl) rfl ?_
  refine SatL.nil (SatE.thenC ?_)
  refine SatC.seq ?_
  refine SatC.region ?_
  refine SatL.pu (RunV.mkFunc rfl) rfl ?_
  refine SatL.pu (RunV.assign rfl) rfl ?_
  refine SatL.nil (SatE.thenC ?_)
  refine SatC.ret ?_
  refine SatE.ret1 rfl rfl ?_
  exact ⟨_, _, _, rfl, hS.sel (by repeat constructor)⟩
theorem speak_stops {b3 b4 b5 b o c : Nat} (hv0 : SlV v b o l.length c) (hl : l.length ≤ 9223372036854775807) (hrd : ∀ W, (∀ c ∈ A, W.heap[c.1]? = some c.2) → RdC W b o 5 (l.map ic)) (w : World) (hown : Own w (itS b3 b4 b5 v s d A)) :
    SeqStopsK Fence.wide 7 Try.prog 56 #[.pointer (some ⟨b3, 0, none⟩), .pointer (some ⟨b4, 0, none⟩), .pointer (some ⟨b5, 0, none⟩)] (fun p : Nat × Itn => #[.int .i64 (p.1 : Int), .agg (ic p.2).toArray]) (Stays (itS b3 b4 b5 v s d A)) (fun xs => xs = spk l s d) (fun _ => True) l.length w := by
  intro lo J Jx W hW hJ hJx hY h0
  have hownW := hown.below hW (fun c hc => (Array.getElem?_eq_some_iff.1 (hown.1 c hc)).1)
  have hS := St.init hownW
  have h1 := hv0.1
  refine callsIn_wide.2 (Calls.mono (?_ : Ret Try.prog 56 _ W fun v W' => (∃ xs, xs = spk l s d ∧ J xs W') ∨ (∃ pre, True ∧ Jx pre W')) (fun e W' ⟨v, he, h⟩ => ⟨⟨v, he⟩, h⟩))
  refine Ret.enter (args := [.func (.yield lo) #[] #[], .pointer (some ⟨b3, 0, none⟩), .pointer (some ⟨b4, 0, none⟩), .pointer (some ⟨b5, 0, none⟩)]) Try.func56 Try.ntmps56 rfl rfl ?_
  simp only [argEnv, Nat.reduceAdd]
  refine SatC.seq ?_
  refine SatC.region ?_
  refine SatL.pu (RunV.load1 hS rfl rfl (by repeat constructor) rfl) rfl ?_
  refine SatL.pu (RunV.lenR hv0 rfl rfl) rfl ?_
  refine SatL.pu (RunV.move rfl) rfl ?_
  refine SatL.nil (SatE.thenC ?_)
  refine SatC.block ?_
  refine SatC.loopK (G := Nat) (V := fun i => [(9, .int .i64 (i : Int))]) (Cn := [(0, _), (2, _), (3, _), (7, _), (8, _)]) (I := fun i w' => i ≤ l.length ∧ J (spk (l.take i) s d) w' ∧ Own w' (itS b3 b4 b5 v s d A)) (μ := fun i => l.length - i) 0 ?_ (by repeat constructor) ?_
  · exact ⟨by omega, h0, hownW⟩
  clear hS
  rintro i w1 ⟨hi, hj, hown1⟩
  refine SatC.weak (e' := [(0, _), (2, _), (3, _), (7, _), (8, _), (9, _)]) (by repeat constructor) ?_
  refine SatC.seq ?_
  replace hS := St.init hown1
  refine SatC.region ?_
  refine SatL.pu (RunV.lss rfl rfl) rfl ?_
  refine SatL.nil (SatE.thenC ?_)
  refine SatC.seq ?_
  refine SatC.cond rfl (fun h1 => ?_) (fun h1 => ?_)
  · (try simp only [cx, ne_eq] at h1)
    try (exfalso; (first | omega | exact h1 trivial | contradiction | (first | omega | (simp at h1; done))); done)
    all_goals
    refine SatC.skip (SatE.thenC ?_)
    refine SatC.seq ?_
    refine SatC.block ?_
    refine SatC.seq ?_
    obtain ⟨y, hy⟩ := get_some l i (by omega)
    have hnx := spk_next (s := s) (d := d) hy
    have hsl := spk_len (l.take i) s d
    rw [List.length_take] at hsl
    refine SatC.region ?_
    refine SatL.pu (RunV.move rfl) rfl ?_
    refine SatL.pu (RunV.indexR hv0 rfl rfl rfl (by omega) (by omega) rfl) rfl ?_
    refine SatL.pu (RunV.loadRNz (hrd _ (fun c hc => hS.own c (List.mem_cons_of_mem _ (List.mem_cons_of_mem _ (List.mem_cons_of_mem _ hc))))) rfl rfl (map_get hy)) rfl ?_
    refine SatL.op rfl (OpW.alloc hS rfl rfl (by repeat constructor) ?_)
    clear hS
    intro b6 w2 _ hS
    refine SatL.pu (RunV.assign rfl) rfl ?_
    refine SatL.op rfl (OpW.store hS rfl rfl (by repeat constructor) (by repeat constructor) (by repeat constructor) rfl rfl ?_)
    clear hS
    intro w3 hS
    refine SatL.nil (SatE.thenC ?_)
    refine SatC.seq ?_
    refine SatC.regionY ?_
    first | refine SatY.pu (RunV.fieldAddrL rfl rfl rfl) rfl ?_ | refine SatY.pu (RunV.fieldAddr rfl rfl rfl) rfl ?_
    refine SatY.pu (RunV.load1 hS rfl rfl (by repeat constructor) rfl) rfl ?_
    refine SatY.pu (RunV.load1 hS rfl rfl (by repeat constructor) rfl) rfl ?_
    refine SatY.op rfl (OpW.enter rfl rfl rfl (rfl) (match_any _ _ _) ?_)
    rintro r4 w4 ⟨rfl, h⟩
    replace hS := St.callN hS h
    refine SatY.pu (RunV.move rfl) rfl ?_
    refine SatY.guard rfl rfl rfl (fun h2 => ?_) (fun h2 => ?_)
    · (try simp only [cx, ne_eq] at h2)
      try (exfalso; (first | omega | exact h2 trivial | contradiction | (first | omega | (simp at h2; done))); done)
      all_goals
      first | refine SatY.pu (RunV.fieldAddrL rfl rfl rfl) rfl ?_ | refine SatY.pu (RunV.fieldAddr rfl rfl rfl) rfl ?_
      refine SatY.guard_y rfl rfl ?_
      refine SatY.pu (RunV.load1 hS rfl rfl (by repeat constructor) rfl) rfl ?_
      refine SatY.guard_y rfl rfl ?_
      refine SatY.pu (RunV.load1 hS rfl rfl (by repeat constructor) rfl) rfl ?_
      refine SatY.guard_y rfl rfl ?_
      refine SatY.op rfl (OpW.enter rfl rfl rfl (rfl) (match_any _ _ _) ?_)
      rintro r5 w5 ⟨rfl, h⟩
      replace hS := St.callN hS h
      refine SatY.pu (RunV.pick_t rfl rfl) rfl ?_
      refine SatY.pu (RunV.move rfl) rfl ?_
      refine SatY.guard rfl rfl rfl (fun h3 => ?_) (fun h3 => ?_)
      · (try simp only [cx, ne_eq] at h3)
        try (exfalso; (first | omega | exact h3 trivial | contradiction | (first | omega | (simp at h3; done))); done)
        all_goals
        refine SatY.pu (RunV.move rfl) rfl ?_
        refine SatY.guard_y rfl rfl ?_
        refine SatY.pu (RunV.move rfl) rfl ?_
        refine SatY.guard_y rfl rfl ?_
        refine SatY.pu (RunV.loadN hS rfl rfl (by repeat constructor) (by repeat constructor)) rfl ?_
        refine SatY.guard_y rfl rfl ?_
        refine SatY.yield rfl rfl rfl (hY (spk (l.take i) s d) (i, y) _ (St.abides hJ hj hown1 hS (fun c hc => List.mem_cons_of_mem _ hc)) (by omega)) ?_
        have hown4 := own_drop hS
        rintro e W5 he
        obtain ⟨r, rfl, hr⟩ := yield_b he
        refine ⟨_, rfl, ?_⟩
        refine SatY.guard_y rfl rfl ?_
        refine SatY.pu (RunV.not rfl) rfl ?_
        refine SatY.pu (RunV.pick_t rfl rfl) rfl ?_
        refine SatY.nil (SatE.thenC ?_)
        refine SatC.weak (e' := [(0, _), (2, _), (3, _), (7, _), (8, _), (9, _), (30, _)]) (by repeat constructor) ?_
        refine SatC.cond rfl (fun h4 => ?_) (fun h4 => ?_)
        · (try simp only [cx, ne_eq] at h4)
          try (exfalso; (first | omega | exact h4 trivial | contradiction | (first | omega | (simp at h4; done))); done)
          all_goals
          refine SatC.ret (SatE.blk_ret (SatE.then_ret (SatE.then_ret (SatE.blk_ret ?_))))
          refine SatE.ret0 rfl ?_
          exact .inr ⟨_, trivial, hr.2 (by assumption)⟩
        · (try simp only [cx, ne_eq] at h4)
          try (exfalso; (first | omega | exact h4 trivial | contradiction | (first | omega | (simp at h4; done))); done)
          all_goals
          refine SatC.skip (SatE.blk_normal (SatE.thenC ?_))
          refine SatC.region ?_
          refine SatL.pu (RunV.add rfl rfl (by first | exact wrapI64 (by omega) | rfl)) rfl ?_
          refine SatL.pu (RunV.move rfl) rfl ?_
          refine SatL.nil ?_
          refine SatE.again (i + 1) ?_ (by first | omega | (dsimp only; omega)) (by repeat constructor)
          exact ⟨by omega, by rw [hnx, if_pos (by unfold mI; simp [*])]; exact (hr.1 (by assumption)).1, hown4.stays (hr.1 (by assumption)).2⟩
      · (try simp only [cx, ne_eq] at h3)
        try (exfalso; (first | omega | exact h3 trivial | contradiction | (first | omega | (simp at h3; done))); done)
        all_goals
        refine SatY.guard_n rfl rfl rfl rfl ?_
        refine SatY.guard_n rfl rfl rfl rfl ?_
        refine SatY.guard_n rfl rfl rfl rfl ?_
        refine SatY.guard_n rfl rfl rfl rfl ?_
        refine SatY.pu (RunV.pick_f rfl rfl) rfl ?_
        refine SatY.nil (SatE.thenC ?_)
        refine SatC.weak (e' := [(0, _), (2, _), (3, _), (7, _), (8, _), (9, _), (30, _)]) (by repeat constructor) ?_
        refine SatC.cond_f rfl ?_
        refine SatC.skip (SatE.blk_normal (SatE.thenC ?_))
        refine SatC.region ?_
        refine SatL.pu (RunV.add rfl rfl (by first | exact wrapI64 (by omega) | rfl)) rfl ?_
        refine SatL.pu (RunV.move rfl) rfl ?_
        refine SatL.nil ?_
        refine SatE.again (i + 1) ?_ (by first | omega | (dsimp only; omega)) (by repeat constructor)
        exact ⟨by omega, by rw [hnx, if_neg (by unfold mI; simp [*]), List.append_nil]; exact St.abides hJ hj hown1 hS (fun c hc => List.mem_cons_of_mem _ hc), own_drop hS⟩
    · (try simp only [cx, ne_eq] at h2)
      try (exfalso; (first | omega | exact h2 trivial | contradiction | (first | omega | (simp at h2; done))); done)
      all_goals
      refine SatY.guard_n rfl rfl rfl rfl ?_
      refine SatY.guard_n rfl rfl rfl rfl ?_
      refine SatY.guard_n rfl rfl rfl rfl ?_
      refine SatY.pu (RunV.pick_f rfl rfl) rfl ?_
      refine SatY.pu (RunV.move rfl) rfl ?_
      refine SatY.guard_n rfl rfl rfl rfl ?_
      refine SatY.guard_n rfl rfl rfl rfl ?_
      refine SatY.guard_n rfl rfl rfl rfl ?_
      refine SatY.guard_n rfl rfl rfl rfl ?_
      refine SatY.guard_n rfl rfl rfl rfl ?_
      refine SatY.pu (RunV.pick_f rfl rfl) rfl ?_
      refine SatY.nil (SatE.thenC ?_)
      refine SatC.weak (e' := [(0, _), (2, _), (3, _), (7, _), (8, _), (9, _), (30, _)]) (by repeat constructor) ?_
      refine SatC.cond_f rfl ?_
      refine SatC.skip (SatE.blk_normal (SatE.thenC ?_))
      refine SatC.region ?_
      refine SatL.pu (RunV.add rfl rfl (by first | exact wrapI64 (by omega) | rfl)) rfl ?_
      refine SatL.pu (RunV.move rfl) rfl ?_
      refine SatL.nil ?_
      refine SatE.again (i + 1) ?_ (by first | omega | (dsimp only; omega)) (by repeat constructor)
      exact ⟨by omega, by rw [hnx, if_neg (by unfold mI; simp [*]), List.append_nil]; exact St.abides hJ hj hown1 hS (fun c hc => List.mem_cons_of_mem _ hc), own_drop hS⟩
  · (try simp only [cx, ne_eq] at h1)
    try (exfalso; (first | omega | exact h1 trivial | contradiction | (first | omega | (simp at h1; done))); done)
    all_goals
    refine SatC.exit (SatE.then_exit (SatE.then_exit (SatE.blk_exit ?_)))
    refine SatE.fin0 rfl ?_
    exact .inl ⟨_, rfl, by rw [List.take_of_length_le (by omega)] at hj; exact hj⟩
theorem alw_get {df : Bool} {k : Nat} {x : Itn} (h : l[k]? = some x) : alwI l df (k : Int) = x.a := by
  unfold alwI
  rw [if_neg (by omega)]
  simp [h]
theorem choose_c (df : Bool) (w : World) (hr : RdRow w v 5 (l.map ic)) : Ret Try.prog 10 #[v, str s, str d, .bool df] w fun u w' => ∃ at_, Best l s d at_ ∧ u = .tuple #[.bool (alwI l df at_), .int .i64 at_] ∧ St w [] [] w' := by
  obtain ⟨A, hown, b, o, c, hv0, hl, hrd⟩ := hr.own
  rw [List.length_map] at hv0 hl
  have hv1 : v.oneCell' = true := by
    obtain ⟨A', rfl, _⟩ := hv0.1
    rfl
  have hS := St.init hown
  generalize hX : A.map Prod.fst = X at hS
  refine Ret.enterM Try.func10 Try.ntmps10 rfl rfl ?_
  simp only [argEnv, Nat.reduceAdd]
  refine SatC.seq ?_
  refine SatC.region ?_
  refine SatL.pu (RunV.assign rfl) rfl ?_
  refine SatL.pu (RunV.assign rfl) rfl ?_
  refine SatL.nil (SatE.thenC ?_)
  refine SatC.seq ?_
  refine SatC.region ?_
  refine SatL.op rfl (OpW.alloc hS rfl rfl (by repeat constructor) ?_)
  clear hS
  intro b10 w1 _ hS
  refine SatL.op rfl (OpW.alloc hS rfl rfl (by repeat constructor) ?_)
  clear hS
  intro b11 w2 _ hS
  refine SatL.op rfl (OpW.store hS rfl rfl (by repeat constructor) (by repeat constructor) (by repeat constructor) rfl rfl ?_)
  clear hS
  intro w3 hS
  refine SatL.op rfl (OpW.store hS rfl rfl (by repeat constructor) (by repeat constructor) (by repeat constructor) rfl rfl ?_)
  clear hS
  intro w4 hS
  refine SatL.nil (SatE.thenC ?_)
  refine SatC.seq ?_
  refine SatC.seq ?_
  refine SatC.region ?_
  refine SatL.pu (RunV.move rfl) rfl ?_
  refine SatL.pu (RunV.move rfl) rfl ?_
  refine SatL.pu (RunV.move rfl) rfl ?_
  refine SatL.op rfl (OpW.enter rfl rfl rfl (rfl) (speaking_any hv1 _) ?_)
  rintro r5 w5 ⟨c3, c4, c5, rfl, h⟩
  replace hS := hS.call0 h
  refine SatL.nil (SatE.thenC ?_)
  refine SatC.block ?_
  have hlow : Low w5.heap.size A := fun c hc => .inr (hS.lt (by simp [hc]))
  refine SatC.rangeOwn (α := Nat × Itn) (G := Int × Int) (A := Nat) (M := l.length) (R := itS c3 c4 c5 v s d A) (fun pre g => BestP pre g) (fun _ _ _ => False) (fun g => (b10, C 3 [.int .i64 g.1]) :: (b11, C 3 [.int .i64 g.2]) :: itS c3 c4 c5 v s d A) (fun x a => [(a, C 28 (ic x.2))]) (fun x a => [(12, .int .i64 (x.1 : Int)), (13, .pointer (some ⟨a, 0, none⟩))]) [(10, _), (11, _)] (-1, -1) (by repeat constructor)
    (speak_stops hv0 hl hrd _ (hS.ownT (by repeat constructor))) (hS.sel (by repeat constructor)) (.inl ⟨rfl, rfl⟩) rfl rfl (fun _ => rfl) rfl (fun _ _ h => .cell (.cell (.cell (.cell (.cell hlow))))) (fun _ _ _ h => h.elim) (fun _ _ c hc => by simp only [List.mem_singleton] at hc; subst hc; rfl)
    (fun _ _ _ _ _ h h' ho ho' => Among.cons (Among.cons Among.refl)) (fun _ _ _ c hc => List.mem_cons_of_mem _ (List.mem_cons_of_mem _ hc)) ?_ ?_ ?_ ?_
  · rintro l pre x ⟨at_, best⟩ W hbp hown
    try simp only [List.cons_append, List.nil_append] at hown
    have hS := St.init hown
    refine SatF.weak (e' := [(10, _), (11, _), (19, _), (20, _)]) (by repeat constructor) ?_
    refine SatF.seq ?_
    refine SatF.region ?_
    refine SatG.pu (RunV.assign rfl) rfl rfl ?_
    refine SatG.nil (SatE.thenF ?_)
    refine SatF.region ?_
    refine SatG.op rfl rfl (OpW.alloc hS rfl rfl (by repeat constructor) ?_)
    clear hS
    intro b13 w6 _ hS
    refine SatG.op rfl rfl (OpW.store hS rfl rfl (by repeat constructor) (by repeat constructor) (by repeat constructor) rfl rfl ?_)
    clear hS
    intro w7 hS
    refine SatG.nil ?_
    refine SatE.laid (b13) (hS) (by repeat constructor)
  · rintro l pre x a ⟨at_, best⟩ W hbp hown hlen
    try simp only [List.cons_append, List.nil_append] at hown
    have hS := St.init hown
    refine SatF.weak (e' := [(10, _), (11, _), (12, _), (13, _)]) (by repeat constructor) ?_
    refine SatF.block ?_
    refine SatF.seq ?_
    refine SatF.region ?_
    refine SatG.pu (RunV.loadN hS rfl rfl (by repeat constructor) (by repeat constructor)) rfl rfl ?_
    refine SatG.op rfl rfl (OpW.enter rfl rfl rfl (rfl) (rank_any _ _) ?_)
    rintro r6 w6 ⟨rfl, h⟩
    replace hS := St.callN hS h
    refine SatG.pu (RunV.assign rfl) rfl rfl ?_
    refine SatG.nil (SatE.thenF ?_)
    refine SatF.seq ?_
    refine SatF.region ?_
    refine SatG.pu (RunV.move rfl) rfl rfl ?_
    refine SatG.pu (RunV.load1 hS rfl rfl (by repeat constructor) rfl) rfl rfl ?_
    refine SatG.pu (RunV.gtr rfl rfl) rfl rfl ?_
    refine SatG.nil (SatE.thenF ?_)
    refine SatF.cond rfl (fun h1 => ?_) (fun h1 => ?_)
    · (try simp only [cx, ne_eq] at h1)
      try (exfalso; (first | omega | exact h1 trivial | contradiction | (first | omega | (simp at h1; done))); done)
      all_goals
      refine SatF.region ?_
      refine SatG.pu (RunV.move rfl) rfl rfl ?_
      refine SatG.pu (RunV.move rfl) rfl rfl ?_
      refine SatG.op rfl rfl (OpW.store hS rfl rfl (by repeat constructor) (by repeat constructor) (by repeat constructor) rfl rfl ?_)
      clear hS
      intro w7 hS
      refine SatG.op rfl rfl (OpW.store hS rfl rfl (by repeat constructor) (by repeat constructor) (by repeat constructor) rfl rfl ?_)
      clear hS
      intro w8 hS
      refine SatG.nil (SatE.blk_normal ?_)
      refine SatE.round (((x.1 : Int), (rankI x.2 : Int))) ?_ (hS.sel (by repeat constructor))
      exact bestP_more (k := x.1) (x := x.2) hbp (by assumption)
    · (try simp only [cx, ne_eq] at h1)
      try (exfalso; (first | omega | exact h1 trivial | contradiction | (first | omega | (simp at h1; done))); done)
      all_goals
      refine SatF.skip (SatE.blk_normal ?_)
      refine SatE.round ((at_, best)) ?_ (hS.sel (by repeat constructor))
      exact bestP_less (k := x.1) (x := x.2) hbp (by dsimp only; omega)
  · clear hS
    rintro D xs ⟨at_, best⟩ w6 hxs hbp hS
    try simp only [List.cons_append, List.nil_append] at hS
    refine SatEM.blk_normal (SatEM.thenM ?_)
    refine SatM.seq ?_
    refine SatM.seq ?_
    subst hxs
    have hB := best_of hbp
    have hlt := best_lt hB
    dsimp only at hB hlt
    refine SatM.region ?_
    refine SatLM.pu (RunV.load1 hS rfl rfl (by repeat constructor) rfl) rfl ?_
    refine SatLM.pu (RunV.lss rfl rfl) rfl ?_
    refine SatLM.nil (SatEM.thenM ?_)
    refine SatM.cond rfl (fun h1 => ?_) (fun h1 => ?_)
    · (try simp only [cx, ne_eq] at h1)
      try (exfalso; (first | omega | exact h1 trivial | contradiction | (first | omega | (simp at h1; done))); done)
      all_goals
      refine SatM.seq ?_
      refine SatM.region ?_
      refine SatLM.pu (RunV.move rfl) rfl ?_
      refine SatLM.pu (RunV.assign rfl) rfl ?_
      refine SatLM.pu (RunV.assign rfl) rfl ?_
      refine SatLM.nil (SatEM.thenM ?_)
      refine SatM.ret (SatEM.then_ret ?_)
      refine SatEM.ret2S hS rfl rfl rfl (by repeat constructor) ?_
      clear hS
      intro w7 hS
      obtain rfl : at_ = -1 := by omega
      exact ⟨-1, hB, rfl, St.roX (Y := []) hown hX.symm (hS.sel (R := A ++ []) (by repeat constructor)) .here⟩
    · (try simp only [cx, ne_eq] at h1)
      try (exfalso; (first | omega | exact h1 trivial | contradiction | (first | omega | (simp at h1; done))); done)
      all_goals
      refine SatM.skip (SatEM.thenM ?_)
      refine SatM.seq ?_
      obtain ⟨x, hx⟩ := get_some l at_.toNat (by omega)
      have hxa : alwI l df at_ = x.a := by
        have := alw_get (df := df) hx
        rwa [Int.toNat_of_nonneg (by omega)] at this
      refine SatM.drawnT 8 hS (hS) (by kernel_rfl) ?_
      clear hS
      intro w7 hh hS hD
      refine SatDM.tk 0 rfl hD (fun _ hw => RunV.move rfl) ?_
      refine SatDM.tk 1 rfl hD (fun _ hw => RunV.load1 hw rfl rfl (by repeat constructor) rfl) ?_
      refine SatDM.tk 2 rfl hD (fun _ hw => RunV.indexR hv0 rfl rfl rfl (by omega) (by omega) rfl) ?_
      first | refine SatDM.tk 3 rfl hD (fun _ hw => RunV.fieldAddrL rfl rfl rfl) ?_ | refine SatDM.tk 3 rfl hD (fun _ hw => RunV.fieldAddr rfl rfl rfl) ?_
      refine SatDM.tk 4 rfl hD (fun _ hw => RunV.loadR1f (hrd _ (fun c hc => hw.own c (by simp [hc]))) rfl rfl (map_get hx) rfl) ?_
      refine SatDM.tk 5 rfl hD (fun _ hw => RunV.load1 hw rfl rfl (by repeat constructor) rfl) ?_
      refine SatDM.tk 6 rfl hD (fun _ hw => RunV.assign rfl) ?_
      refine SatDM.tk 7 rfl hD (fun _ hw => RunV.assign rfl) ?_
      refine SatDM.done 0 (by kernel_rfl) (SatEM.thenM ?_)
      clear hD
      refine SatM.ret ?_
      refine SatEM.ret2S hS rfl rfl rfl (by repeat constructor) ?_
      clear hS
      intro w8 hS
      exact ⟨at_, hB, by rw [hxa], St.roX (Y := []) hown hX.symm (hS.sel (R := A ++ []) (by repeat constructor)) .here⟩
  · intro D c pre g W _ hx; exact hx.elim
theorem rchoose_c (df : Bool) (w : World) (hr : RdRow w v 5 (l.map ic)) : Ret Try.prog 11 #[v, str s, str d, .bool df] w fun u w' => ∃ at_, Best l s d at_ ∧ u = .tuple #[.bool (alwI l df at_), .int .i64 at_] ∧ St w [] [] w' := by
  obtain ⟨b, o, c, hv0, hl, hrd, _⟩ := hr.open
  rw [List.length_map] at hv0 hl
  have hS := St.init0 w
  refine Ret.enter Try.func11 Try.ntmps11 rfl rfl ?_
  simp only [argEnv, Nat.reduceAdd]
  refine SatC.seq ?_
  refine SatC.region ?_
  refine SatL.pu (RunV.assign rfl) rfl ?_
  refine SatL.pu (RunV.assign rfl) rfl ?_
  refine SatL.nil (SatE.thenC ?_)
  refine SatC.seq ?_
  refine SatC.seq ?_
  refine SatC.region ?_
  refine SatL.pu (RunV.assign rfl) rfl ?_
  refine SatL.nil (SatE.thenC ?_)
  refine SatC.block ?_
  refine SatC.loopK (G := Int × Nat) (V := fun ⟨x, m⟩ => [(10, .int .i64 x)]) (Cn := [(0, _), (1, _), (2, _), (3, _), (8, _), (9, _)]) (I := fun ⟨x, m⟩ w' => x = (m : Int) - 1 ∧ m ≤ 4 ∧ (∀ y ∈ l, mI y s d = true → rankI y < m) ∧ St w [] [] w') (μ := fun ⟨x, m⟩ => m) (3, 4) ?_ (by repeat constructor) ?_
  · exact ⟨by omega, by omega, fun y _ _ => rank_lt y, hS⟩
  clear hS
  rintro ⟨x, m⟩ w1 ⟨hx, hm, hno, hS⟩
  refine SatC.weak (e' := [(0, _), (1, _), (2, _), (3, _), (8, _), (9, _), (10, _)]) (by repeat constructor) ?_
  refine SatC.seq ?_
  refine SatC.seq ?_
  refine SatC.region ?_
  refine SatL.pu (RunV.move rfl) rfl ?_
  refine SatL.pu (RunV.geq rfl rfl) rfl ?_
  refine SatL.nil (SatE.thenC ?_)
  refine SatC.cond rfl (fun h1 => ?_) (fun h1 => ?_)
  · (try simp only [cx, ne_eq] at h1)
    try (exfalso; (first | omega | exact h1 trivial | contradiction | (first | omega | (simp at h1; done))); done)
    all_goals
    refine SatC.skip (SatE.thenC ?_)
    refine SatC.seq ?_
    refine SatC.block ?_
    refine SatC.seq ?_
    obtain ⟨m, rfl⟩ : ∃ k', m = k' + 1 := ⟨m - 1, by omega⟩
    obtain rfl : x = (m : Int) := by omega
    refine SatC.region ?_
    refine SatL.pu (RunV.assign rfl) rfl ?_
    refine SatL.nil (SatE.thenC ?_)
    refine SatC.block ?_
    refine SatC.loopK (G := Nat) (V := fun k => [(11, .int .i64 (k : Int))]) (Cn := [(0, _), (1, _), (2, _), (3, _), (10, _), (8, _), (9, _)]) (I := fun k w' => k ≤ l.length ∧ (∀ j y, j < k → l[j]? = some y → mI y s d = true → rankI y < m) ∧ St w [] [] w') (μ := fun k => l.length - k) 0 ?_ (by repeat constructor) ?_
    · exact ⟨by omega, fun j y hj => by omega, hS⟩
    clear hS
    rintro k w2 ⟨hk, hnk, hS⟩
    refine SatC.weak (e' := [(0, _), (1, _), (2, _), (3, _), (8, _), (9, _), (10, _), (11, _)]) (by repeat constructor) ?_
    refine SatC.seq ?_
    refine SatC.seq ?_
    refine SatC.region ?_
    refine SatL.pu (RunV.move rfl) rfl ?_
    refine SatL.pu (RunV.move rfl) rfl ?_
    refine SatL.pu (RunV.lenR hv0 rfl rfl) rfl ?_
    refine SatL.pu (RunV.lss rfl rfl) rfl ?_
    refine SatL.nil (SatE.thenC ?_)
    refine SatC.cond rfl (fun h2 => ?_) (fun h2 => ?_)
    · (try simp only [cx, ne_eq] at h2)
      try (exfalso; (first | omega | exact h2 trivial | contradiction | (first | omega | (simp at h2; done))); done)
      all_goals
      refine SatC.skip (SatE.thenC ?_)
      refine SatC.seq ?_
      refine SatC.block ?_
      refine SatC.seq ?_
      obtain ⟨y, hy⟩ := get_some l k (by omega)
      refine SatC.region ?_
      refine SatL.pu (RunV.move rfl) rfl ?_
      refine SatL.pu (RunV.move rfl) rfl ?_
      refine SatL.pu (RunV.indexR hv0 rfl rfl rfl (by omega) (by omega) rfl) rfl ?_
      refine SatL.pu (RunV.loadRNz (hrd.st hS List.not_mem_nil) rfl rfl (map_get hy)) rfl ?_
      refine SatL.op rfl (OpW.enter rfl rfl rfl (rfl) (rrank_any _ _) ?_)
      rintro r3 w3 ⟨rfl, h⟩
      replace hS := St.callN hS h
      refine SatL.pu (RunV.move rfl) rfl ?_
      refine SatL.pu (RunV.eql rfl rfl) rfl ?_
      refine SatL.pu (RunV.move rfl) rfl ?_
      refine SatL.guard rfl rfl rfl (fun h3 => ?_) (fun h3 => ?_)
      · (try simp only [cx, ne_eq] at h3)
        try (exfalso; (first | omega | exact h3 trivial | contradiction | (first | omega | (simp at h3; done))); done)
        all_goals
        refine SatL.pu (RunV.move rfl) rfl ?_
        refine SatL.guard_y rfl rfl ?_
        refine SatL.pu (RunV.move rfl) rfl ?_
        refine SatL.guard_y rfl rfl ?_
        refine SatL.pu (RunV.indexR hv0 rfl rfl rfl (by omega) (by omega) rfl) rfl ?_
        refine SatL.guard_y rfl rfl ?_
        first | refine SatL.pu (RunV.fieldAddrL rfl rfl rfl) rfl ?_ | refine SatL.pu (RunV.fieldAddr rfl rfl rfl) rfl ?_
        refine SatL.guard_y rfl rfl ?_
        refine SatL.pu (RunV.loadR1f (hrd.st hS List.not_mem_nil) rfl rfl (map_get hy) rfl) rfl ?_
        refine SatL.guard_y rfl rfl ?_
        refine SatL.pu (RunV.move rfl) rfl ?_
        refine SatL.guard_y rfl rfl ?_
        refine SatL.op rfl (OpW.enter rfl rfl rfl (rfl) (rmatch_any _ _ _) ?_)
        rintro r4 w4 ⟨rfl, h⟩
        replace hS := St.callN hS h
        refine SatL.pu (RunV.pick_t rfl rfl) rfl ?_
        refine SatL.pu (RunV.move rfl) rfl ?_
        refine SatL.guard rfl rfl rfl (fun h4 => ?_) (fun h4 => ?_)
        · (try simp only [cx, ne_eq] at h4)
          try (exfalso; (first | omega | exact h4 trivial | contradiction | (first | omega | (simp at h4; done))); done)
          all_goals
          refine SatL.pu (RunV.move rfl) rfl ?_
          refine SatL.guard_y rfl rfl ?_
          refine SatL.pu (RunV.move rfl) rfl ?_
          refine SatL.guard_y rfl rfl ?_
          refine SatL.pu (RunV.indexR hv0 rfl rfl rfl (by omega) (by omega) rfl) rfl ?_
          refine SatL.guard_y rfl rfl ?_
          first | refine SatL.pu (RunV.fieldAddrL rfl rfl rfl) rfl ?_ | refine SatL.pu (RunV.fieldAddr rfl rfl rfl) rfl ?_
          refine SatL.guard_y rfl rfl ?_
          refine SatL.pu (RunV.loadR1f (hrd.st hS List.not_mem_nil) rfl rfl (map_get hy) rfl) rfl ?_
          refine SatL.guard_y rfl rfl ?_
          refine SatL.pu (RunV.move rfl) rfl ?_
          refine SatL.guard_y rfl rfl ?_
          refine SatL.op rfl (OpW.enter rfl rfl rfl (rfl) (rmatch_any _ _ _) ?_)
          rintro r5 w5 ⟨rfl, h⟩
          replace hS := St.callN hS h
          refine SatL.pu (RunV.pick_t rfl rfl) rfl ?_
          refine SatL.nil (SatE.thenC ?_)
          refine SatC.weak (e' := [(0, _), (1, _), (2, _), (3, _), (8, _), (9, _), (10, _), (11, _), (46, _)]) (by repeat constructor) ?_
          refine SatC.cond rfl (fun h5 => ?_) (fun h5 => ?_)
          · (try simp only [cx, ne_eq] at h5)
            try (exfalso; (first | omega | exact h5 trivial | contradiction | (first | omega | (simp at h5; done))); done)
            all_goals
            refine SatC.seq ?_
            refine SatC.region ?_
            refine SatL.pu (RunV.move rfl) rfl ?_
            refine SatL.pu (RunV.move rfl) rfl ?_
            refine SatL.pu (RunV.indexR hv0 rfl rfl rfl (by omega) (by omega) rfl) rfl ?_
            first | refine SatL.pu (RunV.fieldAddrL rfl rfl rfl) rfl ?_ | refine SatL.pu (RunV.fieldAddr rfl rfl rfl) rfl ?_
            refine SatL.pu (RunV.loadR1f (hrd.st hS List.not_mem_nil) rfl rfl (map_get hy) rfl) rfl ?_
            refine SatL.pu (RunV.move rfl) rfl ?_
            refine SatL.pu (RunV.assign rfl) rfl ?_
            refine SatL.pu (RunV.assign rfl) rfl ?_
            refine SatL.nil (SatE.thenC ?_)
            refine SatC.ret (SatE.blk_ret (SatE.then_ret (SatE.then_ret (SatE.blk_ret (SatE.blk_ret (SatE.then_ret (SatE.then_ret (SatE.blk_ret (SatE.then_ret ?_)))))))))
            refine SatE.ret2 rfl rfl rfl ?_
            have hmy : mI y s d = true := by unfold mI; simp [*]
            have hry : rankI y = m := by omega
            refine ⟨(k : Int), .inr ⟨k, y, rfl, hy, hmy, fun j z hj hz => ?_⟩, by rw [alw_get hy], hS⟩
            have h1 := hno z (List.mem_of_getElem? hj) hz
            exact ⟨by omega, fun h => by rw [hry]; exact hnk j z h hj hz⟩
          · (try simp only [cx, ne_eq] at h5)
            try (exfalso; (first | omega | exact h5 trivial | contradiction | (first | omega | (simp at h5; done))); done)
            all_goals
            refine SatC.skip (SatE.blk_normal (SatE.thenC ?_))
            refine SatC.region ?_
            refine SatL.pu (RunV.move rfl) rfl ?_
            refine SatL.pu (RunV.add rfl rfl (by first | exact wrapI64 (by omega) | rfl)) rfl ?_
            refine SatL.pu (RunV.assign rfl) rfl ?_
            refine SatL.nil ?_
            refine SatE.again (k + 1) ?_ (by first | omega | (dsimp only; omega)) (by repeat constructor)
            exact ⟨by omega, fun j z hj hz hmz => by
              by_cases e : j = k
              · subst e
                rw [hy] at hz
                cases hz
                have h1 := hno y (List.mem_of_getElem? hy) hmz
                unfold mI at hmz
                rw [Bool.and_eq_true] at hmz
                first
                  | omega
                  | (have e2 : mt y.s s = false := by assumption
                     rw [hmz.1] at e2; cases e2)
                  | (have e2 : mt y.d d = false := by assumption
                     rw [hmz.2] at e2; cases e2)
              · exact hnk j z (by omega) hz hmz, hS⟩
        · (try simp only [cx, ne_eq] at h4)
          try (exfalso; (first | omega | exact h4 trivial | contradiction | (first | omega | (simp at h4; done))); done)
          all_goals
          refine SatL.guard_n rfl rfl rfl rfl ?_
          refine SatL.guard_n rfl rfl rfl rfl ?_
          refine SatL.guard_n rfl rfl rfl rfl ?_
          refine SatL.guard_n rfl rfl rfl rfl ?_
          refine SatL.guard_n rfl rfl rfl rfl ?_
          refine SatL.guard_n rfl rfl rfl rfl ?_
          refine SatL.pu (RunV.pick_f rfl rfl) rfl ?_
          refine SatL.nil (SatE.thenC ?_)
          refine SatC.weak (e' := [(0, _), (1, _), (2, _), (3, _), (8, _), (9, _), (10, _), (11, _), (46, _)]) (by repeat constructor) ?_
          refine SatC.cond_f rfl ?_
          refine SatC.skip (SatE.blk_normal (SatE.thenC ?_))
          refine SatC.region ?_
          refine SatL.pu (RunV.move rfl) rfl ?_
          refine SatL.pu (RunV.add rfl rfl (by first | exact wrapI64 (by omega) | rfl)) rfl ?_
          refine SatL.pu (RunV.assign rfl) rfl ?_
          refine SatL.nil ?_
          refine SatE.again (k + 1) ?_ (by first | omega | (dsimp only; omega)) (by repeat constructor)
          exact ⟨by omega, fun j z hj hz hmz => by
            by_cases e : j = k
            · subst e
              rw [hy] at hz
              cases hz
              have h1 := hno y (List.mem_of_getElem? hy) hmz
              unfold mI at hmz
              rw [Bool.and_eq_true] at hmz
              first
                | omega
                | (have e2 : mt y.s s = false := by assumption
                   rw [hmz.1] at e2; cases e2)
                | (have e2 : mt y.d d = false := by assumption
                   rw [hmz.2] at e2; cases e2)
            · exact hnk j z (by omega) hz hmz, hS⟩
      · (try simp only [cx, ne_eq] at h3)
        try (exfalso; (first | omega | exact h3 trivial | contradiction | (first | omega | (simp at h3; done))); done)
        all_goals
        refine SatL.guard_n rfl rfl rfl rfl ?_
        refine SatL.guard_n rfl rfl rfl rfl ?_
        refine SatL.guard_n rfl rfl rfl rfl ?_
        refine SatL.guard_n rfl rfl rfl rfl ?_
        refine SatL.guard_n rfl rfl rfl rfl ?_
        refine SatL.guard_n rfl rfl rfl rfl ?_
        refine SatL.pu (RunV.pick_f rfl rfl) rfl ?_
        refine SatL.pu (RunV.move rfl) rfl ?_
        refine SatL.guard_n rfl rfl rfl rfl ?_
        refine SatL.guard_n rfl rfl rfl rfl ?_
        refine SatL.guard_n rfl rfl rfl rfl ?_
        refine SatL.guard_n rfl rfl rfl rfl ?_
        refine SatL.guard_n rfl rfl rfl rfl ?_
        refine SatL.guard_n rfl rfl rfl rfl ?_
        refine SatL.guard_n rfl rfl rfl rfl ?_
        refine SatL.pu (RunV.pick_f rfl rfl) rfl ?_
        refine SatL.nil (SatE.thenC ?_)
        refine SatC.weak (e' := [(0, _), (1, _), (2, _), (3, _), (8, _), (9, _), (10, _), (11, _), (46, _)]) (by repeat constructor) ?_
        refine SatC.cond_f rfl ?_
        refine SatC.skip (SatE.blk_normal (SatE.thenC ?_))
        refine SatC.region ?_
        refine SatL.pu (RunV.move rfl) rfl ?_
        refine SatL.pu (RunV.add rfl rfl (by first | exact wrapI64 (by omega) | rfl)) rfl ?_
        refine SatL.pu (RunV.assign rfl) rfl ?_
        refine SatL.nil ?_
        refine SatE.again (k + 1) ?_ (by first | omega | (dsimp only; omega)) (by repeat constructor)
        exact ⟨by omega, fun j z hj hz hmz => by
          by_cases e : j = k
          · subst e
            rw [hy] at hz
            cases hz
            have h1 := hno y (List.mem_of_getElem? hy) hmz
            unfold mI at hmz
            rw [Bool.and_eq_true] at hmz
            first
              | omega
              | (have e2 : mt y.s s = false := by assumption
                 rw [hmz.1] at e2; cases e2)
              | (have e2 : mt y.d d = false := by assumption
                 rw [hmz.2] at e2; cases e2)
          · exact hnk j z (by omega) hz hmz, hS⟩
    · (try simp only [cx, ne_eq] at h2)
      try (exfalso; (first | omega | exact h2 trivial | contradiction | (first | omega | (simp at h2; done))); done)
      all_goals
      refine SatC.exit (SatE.then_exit (SatE.then_exit (SatE.blk_exit (SatE.blk_normal (SatE.thenC ?_)))))
      refine SatC.region ?_
      refine SatL.pu (RunV.move rfl) rfl ?_
      refine SatL.pu (RunV.sub rfl rfl (by first | exact wrapI64 (by omega) | rfl)) rfl ?_
      refine SatL.pu (RunV.assign rfl) rfl ?_
      refine SatL.nil ?_
      refine SatE.again (((m : Int) - 1, m)) ?_ (by first | omega | (dsimp only; omega)) (by repeat constructor)
      exact ⟨rfl, by omega, fun y hy hmy => by
        obtain ⟨j, hj⟩ := List.getElem?_of_mem hy
        exact hnk j y (by have := (List.getElem?_eq_some_iff.1 hj).1; omega) hj hmy, hS⟩
  · (try simp only [cx, ne_eq] at h1)
    try (exfalso; (first | omega | exact h1 trivial | contradiction | (first | omega | (simp at h1; done))); done)
    all_goals
    refine SatC.exit (SatE.then_exit (SatE.then_exit (SatE.blk_exit (SatE.thenC ?_))))
    refine SatC.seq ?_
    refine SatC.region ?_
    refine SatL.pu (RunV.move rfl) rfl ?_
    refine SatL.pu (RunV.assign rfl) rfl ?_
    refine SatL.pu (RunV.assign rfl) rfl ?_
    refine SatL.nil (SatE.thenC ?_)
    refine SatC.ret ?_
    refine SatE.ret2 rfl rfl rfl ?_
    obtain rfl : m = 0 := by omega
    refine ⟨-1, .inl ⟨rfl, fun y hy => ?_⟩, rfl, hS⟩
    cases hm2 : mI y s d
    · rfl
    · have := hno y hy hm2; omega
end
end Go.Proofs.Ytogohendjjgbiaa
