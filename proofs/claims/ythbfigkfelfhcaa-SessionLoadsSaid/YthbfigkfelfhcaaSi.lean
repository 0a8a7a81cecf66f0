/- The sessions' iterator, their list; a node's sessions closed; sessions loaded. -/
import Derived.Test.YthbfigkfelfhcaaSn
set_option linter.unusedSimpArgs false
set_option linter.unusedVariables false
set_option maxRecDepth 100000
set_option maxHeartbeats 8000000
namespace Go.Proofs.Ythbfigkfelfhcaa
open Go.RowKit
theorem yield_b {A B : Prop} {e : Ending} (h : (e = .returned (.bool true) ∧ A) ∨ (e = .returned (.bool false) ∧ B)) : ∃ r : Bool, e = .returned (.bool r) ∧ (r = true → A) ∧ (r = false → B) := by
  rcases h with ⟨rfl, h⟩ | ⟨rfl, h⟩
  · exact ⟨true, rfl, fun _ => h, (fun h => by cases h)⟩
  · exact ⟨false, rfl, (fun h => by cases h), fun _ => h⟩
section
variable {b0 b b1 : Nat} {most last : Int} {v : Value} {ss : List Ses} {B : List (Nat × Obj)} {w : World}
/-- What the iterator reads. -/
@[reducible] def IR (b1 b0 b : Nat) (most last : Int) (v : Value) (B : List (Nat × Obj)) : List (Nat × Obj) := (b1, C 23 (sn b0)) :: SO b0 b most last v B
theorem each_stops (hw : WfS ss) (hm : ¬ most = 0) (hsl : Sl 73 7 v ((ss.map rowOf).map tr) B) (hl : ss.length ≤ 100000) (w : World) (hown : Own w (IR b1 b0 b most last v B)) :
    SeqStopsK Fence.wide 7 Try.prog 40 #[.pointer (some ⟨b1, 0, none⟩)] (fun x : Ses => #[sv x]) (StaysT 73 (IR b1 b0 b most last v B)) (fun xs => xs = ss) (fun _ => True) ss.length w := by
  intro l J Jx W hW hJ hJx hY h0
  have hownW := hown.below hW (fun c hc => (Array.getElem?_eq_some_iff.1 (hown.1 c hc)).1)
  have hS := St.init hownW
  refine callsIn_wide.2 (Calls.mono (?_ : Ret Try.prog 40 _ W fun v W' => (∃ xs, xs = ss ∧ J xs W') ∨ (∃ pre, True ∧ Jx pre W')) (fun e W' ⟨v, he, h⟩ => ⟨⟨v, he⟩, h⟩))
  refine Ret.enter (args := [.func (.yield l) #[] #[], .pointer (some ⟨b1, 0, none⟩)]) Try.func40 Try.ntmps40 rfl rfl ?_
  simp only [argEnv, Nat.reduceAdd]
  refine SatC.seq ?_
  refine SatC.seq ?_
  refine SatC.region ?_
  refine SatL.pu (RunV.load1 hS rfl rfl (by repeat constructor) rfl) rfl ?_
  refine SatL.op rfl (OpW.enter rfl rfl rfl (rfl) (snone_any (hS.ownT (A := SO b0 b most last v B) (by repeat constructor))) ?_)
  rintro r1 w1 ⟨rfl, h⟩
  replace hS := St.callN hS h
  refine SatL.nil (SatE.thenC ?_)
  refine SatC.cond rfl (fun h1 => ?_) (fun h1 => ?_)
  · (try simp only [cx, ne_eq] at h1)
    try (exfalso; (first | omega | exact h1 trivial | contradiction); done)
    all_goals
    refine SatC.ret (SatE.then_ret ?_)
    refine SatE.ret0 rfl ?_
    first | exact .inr ⟨_, trivial, hr.2 (by assumption)⟩ | exact .inl ⟨_, rfl, by rw [List.take_of_length_le (by omega)] at hj; exact hj⟩
  · (try simp only [cx, ne_eq] at h1)
    try (exfalso; (first | omega | exact h1 trivial | contradiction); done)
    all_goals
    refine SatC.skip (SatE.thenC ?_)
    refine SatC.seq ?_
    refine SatC.region ?_
    refine SatL.pu (RunV.load1 hS rfl rfl (by repeat constructor) rfl) rfl ?_
    first | refine SatL.pu (RunV.nil_ptr rfl) rfl ?_ | refine SatL.pu (RunV.nil_func rfl) rfl ?_ | refine SatL.pu (RunV.nil_yield rfl) rfl ?_
    first | refine SatL.pu (RunV.fieldAddrL rfl rfl rfl) rfl ?_ | refine SatL.pu (RunV.fieldAddr rfl rfl rfl) rfl ?_
    refine SatL.pu (RunV.load1 hS rfl rfl (by repeat constructor) rfl) rfl ?_
    refine SatL.op rfl (OpW.enter rfl rfl rfl (rfl) (list_any hsl (by rw [List.length_map]; omega) (hS.ownT (A := (b, C 78 (tc most v last)) :: B) (by repeat constructor)) hm) ?_)
    rintro r2 w2 ⟨B2, hsl2, h⟩
    replace hS := hS.call0 h
    obtain ⟨c2, hv2⟩ := hsl2.slv
    simp only [List.length_map] at hv2
    refine SatL.pu (RunV.lenR hv2 rfl rfl) rfl ?_
    refine SatL.pu (RunV.move rfl) rfl ?_
    refine SatL.nil (SatE.thenC ?_)
    refine SatC.block ?_
    refine SatC.loopK (G := Nat) (V := fun i => [(15, .int .i64 (i : Int))]) (Cn := [(0, _), (1, _), (13, _), (14, _)]) (I := fun i w' => i ≤ ss.length ∧ J (ss.take i) w' ∧ Own w' ((b1, C 23 (sn b0)) :: (b0, C 59 (sn b)) :: (b, C 78 (tc most v last)) :: (B ++ B2))) (μ := fun i => ss.length - i) 0 ?_ (by repeat constructor) ?_
    · exact ⟨by omega, St.abides hJ h0 hownW hS (fun c hc => List.mem_append_right _ hc), (hS.sel (R := (b1, C 23 (sn b0)) :: (b0, C 59 (sn b)) :: (b, C 78 (tc most v last)) :: (B ++ B2)) (by repeat constructor)).toOwn⟩
    clear hS
    rintro i w3 ⟨hi, hj, hown1⟩
    refine SatC.weak (e' := [(0, _), (1, _), (13, _), (14, _), (15, _)]) (by repeat constructor) ?_
    refine SatC.seq ?_
    replace hS := St.init hown1
    refine SatC.region ?_
    refine SatL.pu (RunV.lss rfl rfl) rfl ?_
    refine SatL.nil (SatE.thenC ?_)
    refine SatC.seq ?_
    refine SatC.cond rfl (fun h2 => ?_) (fun h2 => ?_)
    · (try simp only [cx, ne_eq] at h2)
      try (exfalso; (first | omega | exact h2 trivial | contradiction); done)
      all_goals
      refine SatC.skip (SatE.thenC ?_)
      refine SatC.seq ?_
      refine SatC.block ?_
      refine SatC.seq ?_
      obtain ⟨y, hy⟩ := get_some ss i (by omega)
      have hym := List.mem_of_getElem? hy
      have hyb := (hw.2 y hym).1
      refine SatC.region ?_
      refine SatL.pu (RunV.indexR hv2 rfl rfl rfl (by omega) (by omega) rfl) rfl ?_
      refine SatL.pu (RunV.loadRNz (hsl2.rd hS (by repeat constructor)) rfl rfl (map_get (map_get hy))) rfl ?_
      refine SatL.op rfl (OpW.alloc hS rfl rfl (by repeat constructor) ?_)
      clear hS
      intro b4 w4 _ hS
      refine SatL.op rfl (OpW.store hS rfl rfl (by repeat constructor) (by repeat constructor) (by repeat constructor) rfl rfl ?_)
      clear hS
      intro w5 hS
      refine SatL.nil (SatE.thenC ?_)
      refine SatC.seq ?_
      refine SatC.region ?_
      refine SatL.pu (RunV.load1 hS rfl rfl (by repeat constructor) rfl) rfl ?_
      first | refine SatL.pu (RunV.fieldAddrL rfl rfl rfl) rfl ?_ | refine SatL.pu (RunV.fieldAddr rfl rfl rfl) rfl ?_
      first | refine SatL.pu (RunV.fieldAddrL rfl rfl rfl) rfl ?_ | refine SatL.pu (RunV.fieldAddr rfl rfl rfl) rfl ?_
      refine SatL.pu (RunV.load1 hS rfl rfl (by repeat constructor) rfl) rfl ?_
      refine SatL.op rfl (OpW.enter rfl rfl rfl (rfl) (getS_any y.id ⟨by omega, hyb.2⟩ hw hm hsl hl (hS.ownT (A := SO b0 b most last v B) (by repeat constructor))) ?_)
      rintro r6 w6 ⟨rfl, h⟩
      replace hS := St.callN hS h
      rw [sget_at hw hym]
      refine SatL.pu (RunV.move rfl) rfl ?_
      refine SatL.pu (RunV.extract rfl rfl) rfl ?_
      refine SatL.pu (RunV.extract rfl rfl) rfl ?_
      refine SatL.op rfl (OpW.alloc hS rfl rfl (by repeat constructor) ?_)
      clear hS
      intro b5 w7 _ hS
      refine SatL.op rfl (OpW.store hS rfl rfl (by repeat constructor) (by repeat constructor) (by repeat constructor) rfl rfl ?_)
      clear hS
      intro w8 hS
      refine SatL.pu (RunV.assign rfl) rfl ?_
      refine SatL.nil (SatE.thenC ?_)
      refine SatC.seq ?_
      refine SatC.weak (e' := [(0, _), (1, _), (5, _), (13, _), (14, _), (15, _)]) (by repeat constructor) ?_
      refine SatC.regionY ?_
      refine SatY.pu (RunV.move rfl) rfl ?_
      refine SatY.pu (RunV.loadN hS rfl rfl (by repeat constructor) (by repeat constructor)) rfl ?_
      refine SatY.yield rfl rfl rfl (hY (ss.take i) y _ (St.abides hJ hj hown1 hS (fun c hc => List.mem_cons_of_mem _ (List.mem_cons_of_mem _ hc))) (by rw [List.length_take]; omega)) ?_
      have hown4 := (hS.sel (R := (b1, C 23 (sn b0)) :: (b0, C 59 (sn b)) :: (b, C 78 (tc most v last)) :: (B ++ B2)) (by repeat constructor)).toOwn
      rintro e W5 he
      obtain ⟨r, rfl, hr⟩ := yield_b he
      refine ⟨_, rfl, ?_⟩
      refine SatY.pu (RunV.not rfl) rfl ?_
      refine SatY.nil (SatE.thenC ?_)
      refine SatC.cond rfl (fun h3 => ?_) (fun h3 => ?_)
      · (try simp only [cx, ne_eq] at h3)
        try (exfalso; (first | omega | exact h3 trivial | contradiction); done)
        all_goals
        refine SatC.ret (SatE.blk_ret (SatE.then_ret (SatE.then_ret (SatE.blk_ret ?_))))
        refine SatE.ret0 rfl ?_
        first | exact .inr ⟨_, trivial, hr.2 (by assumption)⟩ | exact .inl ⟨_, rfl, by rw [List.take_of_length_le (by omega)] at hj; exact hj⟩
      · (try simp only [cx, ne_eq] at h3)
        try (exfalso; (first | omega | exact h3 trivial | contradiction); done)
        all_goals
        refine SatC.skip (SatE.blk_normal (SatE.thenC ?_))
        refine SatC.region ?_
        refine SatL.pu (RunV.add rfl rfl (by first | exact wrapI64 (by omega) | rfl)) rfl ?_
        refine SatL.pu (RunV.move rfl) rfl ?_
        refine SatL.nil ?_
        refine SatE.again (i + 1) ?_ (by first | omega | (dsimp only; omega)) (by repeat constructor)
        refine ⟨by omega, ?_, Own.staysT (R := IR b1 b0 b most last v B) (B := B2) hown4 (hr.1 (by assumption)).2 hsl2.ty⟩
        rw [List.take_add_one, hy]
        exact (hr.1 (by assumption)).1
    · (try simp only [cx, ne_eq] at h2)
      try (exfalso; (first | omega | exact h2 trivial | contradiction); done)
      all_goals
      refine SatC.exit (SatE.then_exit (SatE.then_exit (SatE.blk_exit ?_)))
      refine SatE.fin0 rfl ?_
      first | exact .inr ⟨_, trivial, hr.2 (by assumption)⟩ | exact .inl ⟨_, rfl, by rw [List.take_of_length_le (by omega)] at hj; exact hj⟩
theorem each_any (b0 : Nat) (w : World) : Ret Try.prog 31 #[.pointer (some ⟨b0, 0, none⟩)] w fun u w' => ∃ b1, u = .func (.func 40) #[] #[.pointer (some ⟨b1, 0, none⟩)] ∧ St w [] [(b1, C 23 (sn b0))] w' := by
  have hS := St.init0 w
  refine Ret.enter Try.func31 Try.ntmps31 rfl rfl ?_
  simp only [argEnv, Nat.reduceAdd]
  refine SatC.seq ?_
  refine SatC.region ?_
  refine SatL.op rfl (OpW.box hS rfl rfl (by repeat constructor) ?_)
  clear hS
  intro b1 w1 _ hS
  refine SatL.pu (RunV.assign rfl) rfl ?_
  refine SatL.nil (SatE.thenC ?_)
  refine SatC.seq ?_
  refine SatC.region ?_
  refine SatL.pu (RunV.mkFunc rfl) rfl ?_
  refine SatL.pu (RunV.assign rfl) rfl ?_
  refine SatL.nil (SatE.thenC ?_)
  refine SatC.ret ?_
  refine SatE.ret1 rfl rfl ?_
  exact ⟨_, rfl, hS⟩
theorem listS_any (hw : WfS ss) (hm : ¬ most = 0) (hsl : Sl 73 7 v ((ss.map rowOf).map tr) B) (hl : ss.length ≤ 100000) (hown : Own w (SO b0 b most last v B)) :
    Ret Try.prog 10 #[.pointer (some ⟨b0, 0, none⟩)] w fun u w' => ∃ B', Sl 35 4 u (ss.map sc) B' ∧ St w [] B' w' := by
  have hS := St.init hown
  refine Ret.enterM Try.func10 Try.ntmps10 rfl rfl ?_
  simp only [argEnv, Nat.reduceAdd]
  refine SatC.seq ?_
  refine SatC.region ?_
  refine SatL.pu (RunV.assign rfl) rfl ?_
  refine SatL.nil (SatE.thenC ?_)
  refine SatC.seq ?_
  refine SatC.region ?_
  refine SatL.op rfl (OpW.alloc hS rfl rfl (by repeat constructor) ?_)
  clear hS
  intro b3 w1 _ hS
  refine SatL.nil (SatE.thenC ?_)
  refine SatC.seq ?_
  refine SatC.seq ?_
  refine SatC.region ?_
  refine SatL.pu (RunV.move rfl) rfl ?_
  refine SatL.op rfl (OpW.enter rfl rfl rfl (rfl) (each_any _ _) ?_)
  rintro r2 w2 ⟨b1, rfl, h⟩
  replace hS := hS.call0 h
  refine SatL.nil (SatE.thenC ?_)
  refine SatC.block ?_
  have hRlt : ∀ c ∈ IR b1 b0 b most last v B, c.1 < w2.heap.size := fun c hc => (hS.sel (R := IR b1 b0 b most last v B) (by repeat constructor)).lt hc
  refine SatC.rangeOwnK (α := Ses) (G := Value × List (Nat × Obj)) (A := Nat) (M := ss.length) (Kp := StaysT 73 (IR b1 b0 b most last v B)) (fun pre g => Sl 35 4 g.1 (pre.map sc) g.2) (fun _ _ _ => False) (fun g => (b3, C 32 [g.1]) :: (g.2 ++ IR b1 b0 b most last v B)) (fun x a => [(a, C 35 (sc x))]) (fun x a => [(4, .pointer (some ⟨a, 0, none⟩))]) [(3, _)] (.slice none 0 0, []) (by repeat constructor)
    (each_stops hw hm hsl hl _ (hS.ownT (A := IR b1 b0 b most last v B) (by repeat constructor))) staysT_trans (fun W l o o' h1 h2 h3 h4 => staysT_putObj hRlt W l o o' h1 h2 h3 h4) (hS.sel (by repeat constructor)) .nil rfl rfl (fun _ => rfl) rfl (fun _ _ h => .cell (.app h.low (.cell (.cell (.cell hsl.low))))) (fun _ _ _ h => h.elim) (fun _ _ c hc => by simp only [List.mem_singleton] at hc; subst hc; rfl)
    (fun _ _ _ _ _ h h' ho ho' => Among.cons (Among.app (Among.sl (Own.val1 ho ho') h h') Among.refl))
    (fun _ _ _ g _ _ hp ho h => staysT_of ho h (NT.cell rfl (NT.sl rfl hp NT.self)) (fun c hc => List.mem_cons_of_mem _ (List.mem_cons_of_mem _ (List.mem_append_right _ hc))))
    (fun _ _ _ g g' _ _ hp ho hp' h => staysT_of ho h (NT.cell rfl (NT.cell rfl (NT.sl rfl hp NT.self))) (fun c hc => List.mem_cons_of_mem _ (List.mem_append_right _ hc))) ?_ ?_ ?_ ?_
  · rintro l pre x ⟨va, Ba⟩ W hsa hown
    try simp only [List.cons_append, List.nil_append] at hown
    have hS := St.init hown
    refine SatF.weak (e' := [(3, _), (7, _)]) (by repeat constructor) ?_
    refine SatF.region ?_
    refine SatG.op rfl rfl (OpW.alloc hS rfl rfl (by repeat constructor) ?_)
    clear hS
    intro b4 w3 _ hS
    refine SatG.op rfl rfl (OpW.store hS rfl rfl (by repeat constructor) (by repeat constructor) (by repeat constructor) rfl rfl ?_)
    clear hS
    intro w4 hS
    refine SatG.nil ?_
    refine SatE.laid (b4) (hS) (by repeat constructor)
  · rintro l pre x a ⟨va, Ba⟩ W hsa hown hlen
    try simp only [List.cons_append, List.nil_append] at hown
    have hS := St.init hown
    refine SatF.weak (e' := [(3, _), (4, _)]) (by repeat constructor) ?_
    refine SatF.block ?_
    refine SatF.region ?_
    refine SatG.pu (RunV.load1 hS rfl rfl (by repeat constructor) rfl) rfl rfl ?_
    refine SatG.pu (RunV.loadN hS rfl rfl (by repeat constructor) (by repeat constructor)) rfl rfl ?_
    refine SatG.op rfl rfl (OpW.buildSlice1 hS rfl rfl rfl rfl rfl (by repeat constructor) rfl rfl rfl ?_)
    clear hS
    intro b10 w3 _ hS
    refine SatG.op rfl rfl (OpW.append1 (by assumption) hS (by repeat constructor) rfl rfl (by repeat constructor) rfl rfl rfl rfl rfl rfl rfl rfl (by first | omega | (simp only [List.length_map]; omega) | (simp only [List.length_append, List.length_map, List.length_cons, List.length_nil]; omega)) rfl ?_)
    clear hS
    intro v11 B11 w4 hsl11 hS
    refine SatG.op rfl rfl (OpW.storeSv hS rfl rfl (by assumption) (by repeat constructor) (by repeat constructor) rfl ?_)
    clear hS
    intro w5 hS
    refine SatG.nil (SatE.blk_normal ?_)
    refine SatE.round ((v11, B11)) ?_ (hS.sel (by repeat constructor))
    show Sl 35 4 v11 ((pre ++ [x]).map sc) B11
    rw [List.map_append]; exact hsl11
  · clear hS
    rintro D xs ⟨va, Ba⟩ w3 hxs hsa hS
    try simp only [List.cons_append, List.nil_append] at hS
    refine SatEM.blk_normal (SatEM.thenM ?_)
    refine SatM.seq ?_
    refine SatM.region ?_
    refine SatLM.pu (RunV.load1 hS rfl rfl (by repeat constructor) rfl) rfl ?_
    refine SatLM.pu (RunV.assign rfl) rfl ?_
    refine SatLM.nil (SatEM.thenM ?_)
    refine SatM.ret ?_
    refine SatEM.ret1S hS rfl rfl (by repeat constructor) ?_
    clear hS
    intro w4 hS
    subst hxs; exact ⟨_, hsa, St.roL hown (hS.sel (R := SO b0 b most last v B ++ Ba) (by repeat constructor)) .here⟩
  · intro D c pre g W _ hx; exact hx.elim
end
end Go.Proofs.Ythbfigkfelfhcaa
