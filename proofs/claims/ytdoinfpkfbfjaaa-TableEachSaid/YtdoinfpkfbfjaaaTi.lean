/- The table's iterator, and what lies under a prefix. -/
import Derived.Test.YtdoinfpkfbfjaaaRt
import Derived.Test.YtdoinfpkfbfjaaaK20
set_option linter.unusedSimpArgs false
set_option linter.unusedVariables false
set_option maxRecDepth 100000
set_option maxHeartbeats 4000000
namespace Go.Proofs.Ytdoinfpkfbfjaaa
open Go.RowKit
section
variable {b : Nat} {most last : Int} {v : Value} {rows : List Tr} {B : List (Nat × Obj)} {w : World}
theorem each_any (hsl : Sl 30 4 v (rows.map tr) B) (hl : rows.length ≤ 1000000) (hown : Own w ((b, C 58 (tc most v last)) :: B)) (hm : ¬ most = 0) : Ret Try.prog 25 #[.pointer (some ⟨b, 0, none⟩)] w fun u w' =>
    ∃ b3 v' B', u = .func (.func 34) #[] #[.pointer (some ⟨b3, 0, none⟩)] ∧ Sl 30 4 v' (rows.map tr) B' ∧ St w [] ((b3, C 34 [v']) :: B') w' := by
  have hS := St.init hown
  refine Ret.enter Try.func25 Try.ntmps25 rfl rfl ?_
  simp only [argEnv, Nat.reduceAdd]
  refine SatC.seq ?_
  refine SatC.region ?_
  refine SatL.pu (RunV.assign rfl) rfl ?_
  refine SatL.nil (SatE.thenC ?_)
  refine SatC.seq ?_
  refine SatC.region ?_
  refine SatL.pu (RunV.move rfl) rfl ?_
  refine SatL.op rfl (OpW.enter rfl rfl rfl (rfl) (list_any hsl hl (hS.ownT (A := (b, C 58 (tc most v last)) :: B) (by repeat constructor)) hm) ?_)
  rintro r1 w1 ⟨B2, hsl2, h⟩
  replace hS := hS.call0 h
  refine SatL.op rfl (OpW.alloc hS rfl rfl (by repeat constructor) ?_)
  clear hS
  intro b3 w2 _ hS
  refine SatL.op rfl (OpW.storeSv hS rfl rfl hsl2 (by repeat constructor) (by repeat constructor) rfl ?_)
  clear hS
  intro w3 hS
  refine SatL.nil (SatE.thenC ?_)
  refine SatC.seq ?_
  refine SatC.region ?_
  refine SatL.pu (RunV.mkFunc rfl) rfl ?_
  refine SatL.pu (RunV.assign rfl) rfl ?_
  refine SatL.nil (SatE.thenC ?_)
  refine SatC.ret ?_
  refine SatE.ret1 rfl rfl ?_
  exact ⟨_, _, B2, rfl, hsl2, St.roL hown (hS.sel (R := ((b, C 58 (tc most v last)) :: B) ++ ((b3, C 34 [r1]) :: B2)) (by repeat constructor)) .here⟩
/-- A row whose key is no longer than a text may be. -/
abbrev TrB := { r : Tr // r.k.length ≤ 9223372036854775807 }
theorem own_drop {w w0 : World} {X : List Nat} {c : Nat × Obj} {L : List (Nat × Obj)} (hS : St w0 X (c :: L) w) : Own w L := ⟨fun d hd => hS.own d (List.mem_cons_of_mem _ hd), (List.nodup_cons.1 hS.nd).2⟩
theorem yield_b {A B : Prop} {e : Ending} (h : (e = .returned (.bool true) ∧ A) ∨ (e = .returned (.bool false) ∧ B)) : ∃ r : Bool, e = .returned (.bool r) ∧ (r = true → A) ∧ (r = false → B) := by
  rcases h with ⟨rfl, h⟩ | ⟨rfl, h⟩
  · exact ⟨true, rfl, fun _ => h, (fun h => by cases h)⟩
  · exact ⟨false, rfl, (fun h => by cases h), fun _ => h⟩
theorem each_stops {b3 : Nat} {rs : List TrB} (hsl : Sl 30 4 v ((rs.map (·.1)).map tr) B) (hl : rs.length ≤ 1000000) (w : World) (hown : Own w ((b3, C 34 [v]) :: B)) :
    SeqStopsK Fence.wide 7 Try.prog 34 #[.pointer (some ⟨b3, 0, none⟩)] (fun r : TrB => #[rv r.1]) (Stays ((b3, C 34 [v]) :: B)) (fun xs => xs = rs) (fun _ => True) rs.length w := by
  intro l J Jx W hW hJ hJx hY h0
  have hownW := hown.below hW (fun c hc => (Array.getElem?_eq_some_iff.1 (hown.1 c hc)).1)
  have hS := St.init hownW
  obtain ⟨c0, hv0⟩ := hsl.slv
  simp only [List.length_map] at hv0
  refine callsIn_wide.2 (Calls.mono (?_ : Ret Try.prog 34 _ W fun v W' => (∃ xs, xs = rs ∧ J xs W') ∨ (∃ pre, True ∧ Jx pre W')) (fun e W' ⟨v, he, h⟩ => ⟨⟨v, he⟩, h⟩))
  refine Ret.enter (args := [.func (.yield l) #[] #[], .pointer (some ⟨b3, 0, none⟩)]) Try.func34 Try.ntmps34 rfl rfl ?_
  simp only [argEnv, Nat.reduceAdd]
  refine SatC.seq ?_
  refine SatC.region ?_
  refine SatL.pu (RunV.load1 hS rfl rfl (by repeat constructor) rfl) rfl ?_
  refine SatL.pu (RunV.lenR hv0 rfl rfl) rfl ?_
  refine SatL.pu (RunV.move rfl) rfl ?_
  refine SatL.nil (SatE.thenC ?_)
  refine SatC.block ?_
  refine SatC.loopK (G := Nat) (V := fun i => [(7, .int .i64 (i : Int))]) (Cn := [(0, _), (5, _), (6, _)]) (I := fun i w' => i ≤ rs.length ∧ J (rs.take i) w' ∧ Own w' ((b3, C 34 [v]) :: B)) (μ := fun i => rs.length - i) 0 ?_ (by repeat constructor) ?_
  · exact ⟨by omega, h0, hownW⟩
  clear hS
  rintro i w1 ⟨hi, hj, hown1⟩
  refine SatC.weak (e' := [(0, _), (5, _), (6, _), (7, _)]) (by repeat constructor) ?_
  refine SatC.seq ?_
  replace hS := St.init hown1
  refine SatC.region ?_
  refine SatL.pu (RunV.lss rfl rfl) rfl ?_
  refine SatL.nil (SatE.thenC ?_)
  refine SatC.seq ?_
  refine SatC.cond rfl (fun h1 => ?_) (fun h1 => ?_)
  · (try simp only [cx, ne_eq] at h1)
    try (exfalso; (first | omega | exact h1 trivial | contradiction); done)
    all_goals
    refine SatC.skip (SatE.thenC ?_)
    refine SatC.seq ?_
    refine SatC.block ?_
    refine SatC.seq ?_
    obtain ⟨y, hy⟩ := get_some rs i (by omega)
    refine SatC.region ?_
    refine SatL.pu (RunV.indexR hv0 rfl rfl rfl (by omega) (by omega) rfl) rfl ?_
    refine SatL.pu (RunV.loadRNz (hsl.rd hS (by repeat constructor)) rfl rfl (map_get (map_get hy))) rfl ?_
    refine SatL.op rfl (OpW.alloc hS rfl rfl (by repeat constructor) ?_)
    clear hS
    intro b4 w2 _ hS
    refine SatL.op rfl (OpW.store hS rfl rfl (by repeat constructor) (by repeat constructor) (by repeat constructor) rfl rfl ?_)
    clear hS
    intro w3 hS
    refine SatL.nil (SatE.thenC ?_)
    refine SatC.seq ?_
    refine SatC.regionY ?_
    refine SatY.pu (RunV.move rfl) rfl ?_
    refine SatY.pu (RunV.loadN hS rfl rfl (by repeat constructor) (by repeat constructor)) rfl ?_
    refine SatY.yield rfl rfl rfl (hY (rs.take i) y _ (St.abides hJ hj hown1 hS (fun c hc => List.mem_cons_of_mem _ hc)) (by rw [List.length_take]; omega)) ?_
    have hown4 := own_drop hS
    rintro e W5 he
    obtain ⟨r, rfl, hr⟩ := yield_b he
    refine ⟨_, rfl, ?_⟩
    refine SatY.pu (RunV.not rfl) rfl ?_
    refine SatY.nil (SatE.thenC ?_)
    refine SatC.cond rfl (fun h2 => ?_) (fun h2 => ?_)
    · (try simp only [cx, ne_eq] at h2)
      try (exfalso; (first | omega | exact h2 trivial | contradiction); done)
      all_goals
      refine SatC.ret (SatE.blk_ret (SatE.then_ret (SatE.then_ret (SatE.blk_ret ?_))))
      refine SatE.ret0 rfl ?_
      first | exact .inr ⟨_, trivial, hr.2 (by assumption)⟩ | exact .inl ⟨_, rfl, by rw [List.take_of_length_le (by omega)] at hj; exact hj⟩
    · (try simp only [cx, ne_eq] at h2)
      try (exfalso; (first | omega | exact h2 trivial | contradiction); done)
      all_goals
      refine SatC.skip (SatE.blk_normal (SatE.thenC ?_))
      refine SatC.region ?_
      refine SatL.pu (RunV.add rfl rfl (by first | exact wrapI64 (by omega) | rfl)) rfl ?_
      refine SatL.pu (RunV.move rfl) rfl ?_
      refine SatL.nil ?_
      refine SatE.again (i + 1) ?_ (by first | omega | (dsimp only; omega)) (by repeat constructor)
      refine ⟨by omega, ?_, hown4.stays (hr.1 (by assumption)).2⟩
      rw [List.take_add_one, hy]
      exact (hr.1 (by assumption)).1
  · (try simp only [cx, ne_eq] at h1)
    try (exfalso; (first | omega | exact h1 trivial | contradiction); done)
    all_goals
    refine SatC.exit (SatE.then_exit (SatE.then_exit (SatE.blk_exit ?_)))
    refine SatE.fin0 rfl ?_
    first | exact .inr ⟨_, trivial, hr.2 (by assumption)⟩ | exact .inl ⟨_, rfl, by rw [List.take_of_length_le (by omega)] at hj; exact hj⟩
theorem rows_b (h : KeyB rows) : ∃ rs : List TrB, rs.map (·.1) = rows := ⟨rows.attach.map fun x => ⟨x.1, h x.1 x.2⟩, by simp⟩
theorem under_tab (p : List UInt8) (hp : p.length ≤ 9223372036854775807) (hk : KeyB rows) (hsl : Sl 30 4 v (rows.map tr) B) (hl : rows.length ≤ 1000000) (hown : Own w ((b, C 58 (tc most v last)) :: B)) (hm : ¬ most = 0) : Ret Try.prog 21 #[.pointer (some ⟨b, 0, none⟩), str p] w fun u w' =>
    ∃ B', Sl 30 4 u ((undF p rows).map tr) B' ∧ St w [] B' w' := by
  have hS := St.init hown
  obtain ⟨rs, hrs⟩ := rows_b hk
  have hrl : rs.length = rows.length := by rw [← hrs, List.length_map]
  refine Ret.enterM Try.func21 Try.ntmps21 rfl rfl ?_
  simp only [argEnv, Nat.reduceAdd]
  refine SatC.seq ?_
  refine SatC.region ?_
  refine SatL.op rfl (OpW.box hS rfl rfl (by repeat constructor) ?_)
  clear hS
  intro b3 w1 _ hS
  refine SatL.pu (RunV.assign rfl) rfl ?_
  refine SatL.nil (SatE.thenC ?_)
  refine SatC.seq ?_
  refine SatC.region ?_
  refine SatL.op rfl (OpW.alloc hS rfl rfl (by repeat constructor) ?_)
  clear hS
  intro b5 w2 _ hS
  refine SatL.nil (SatE.thenC ?_)
  refine SatC.seq ?_
  refine SatC.seq ?_
  refine SatC.region ?_
  refine SatL.pu (RunV.move rfl) rfl ?_
  refine SatL.op rfl (OpW.enter rfl rfl rfl (rfl) (each_any hsl hl (hS.ownT (A := (b, C 58 (tc most v last)) :: B) (by repeat constructor)) hm) ?_)
  rintro r3 w3 ⟨be, ve, Be, rfl, hse, h⟩
  replace hS := hS.call0 h
  refine SatL.nil (SatE.thenC ?_)
  refine SatC.block ?_
  rw [← hrs] at hse
  refine SatC.rangeOwn (α := TrB) (G := Value × List (Nat × Obj)) (A := Nat) (M := rs.length) (R := (be, C 34 [ve]) :: Be) (fun pre g => Sl 30 4 g.1 ((undF p (pre.map (·.1))).map tr) g.2 ∧ pre.length ≤ rs.length) (fun _ _ _ => False) (fun g => (b5, C 34 [g.1]) :: (g.2 ++ ((b3, C 9 [str p]) :: (((be, C 34 [ve]) :: Be) ++ ((b, C 58 (tc most v last)) :: B))))) (fun x a => [(a, C 30 (tr x.1))]) (fun x a => [(6, .pointer (some ⟨a, 0, none⟩))]) [(3, _), (5, _)] (.slice none 0 0, []) (by repeat constructor)
    (each_stops hse (by omega) _ (hS.ownT (by repeat constructor))) (hS.sel (by repeat constructor)) ⟨.nil, Nat.zero_le _⟩ rfl rfl (fun _ => rfl) rfl (fun _ _ h => .cell (.app h.1.low (.cell (.app (.cell hse.low) (.cell hsl.low))))) (fun _ _ _ h => h.elim) (fun _ _ c hc => by simp only [List.mem_singleton] at hc; subst hc; rfl)
    (fun _ _ _ _ _ h h' ho ho' => Among.cons (Among.app (Among.sl (Own.val1 ho ho') h.1 h'.1) Among.refl)) (fun _ _ _ c hc => List.mem_cons_of_mem _ (List.mem_append_right _ (List.mem_cons_of_mem _ (List.mem_append_left _ hc)))) ?_ ?_ ?_ ?_
  · rintro l pre x ⟨va, Ba⟩ W ⟨hsa, hpl⟩ hown
    try simp only [List.cons_append, List.nil_append] at hown
    have hS := St.init hown
    refine SatF.weak (e' := [(3, _), (5, _), (9, _)]) (by repeat constructor) ?_
    refine SatF.region ?_
    refine SatG.op rfl rfl (OpW.alloc hS rfl rfl (by repeat constructor) ?_)
    clear hS
    intro b6 w4 _ hS
    refine SatG.op rfl rfl (OpW.store hS rfl rfl (by repeat constructor) (by repeat constructor) (by repeat constructor) rfl rfl ?_)
    clear hS
    intro w5 hS
    refine SatG.nil ?_
    refine SatE.laid (b6) (hS) (by repeat constructor)
  · rintro l pre x a ⟨va, Ba⟩ W ⟨hsa, hpl⟩ hown hlen
    try simp only [List.cons_append, List.nil_append] at hown
    have hS := St.init hown
    refine SatF.weak (e' := [(3, _), (5, _), (6, _)]) (by repeat constructor) ?_
    have hln : (undF p (pre.map (·.1))).length ≤ pre.length := Nat.le_trans (List.length_filter_le ..) (by rw [List.length_map]; exact Nat.le_refl _)
    refine SatF.block ?_
    refine SatF.seq ?_
    refine SatF.region ?_
    first | refine SatG.pu (RunV.fieldAddrL rfl rfl rfl) rfl rfl ?_ | refine SatG.pu (RunV.fieldAddr rfl rfl rfl) rfl rfl ?_
    refine SatG.pu (RunV.load1 hS rfl rfl (by repeat constructor) rfl) rfl rfl ?_
    refine SatG.pu (RunV.load1 hS rfl rfl (by repeat constructor) rfl) rfl rfl ?_
    refine SatG.op rfl rfl (OpW.enter rfl rfl rfl (rfl) (under_any x.1.k p _ x.2 hp) ?_)
    rintro r4 w4 ⟨rfl, h⟩
    replace hS := St.callN hS h
    refine SatG.nil (SatE.thenF ?_)
    refine SatF.cond rfl (fun h1 => ?_) (fun h1 => ?_)
    · (try simp only [cx, ne_eq] at h1)
      try (exfalso; (first | omega | exact h1 trivial | contradiction); done)
      all_goals
      refine SatF.region ?_
      refine SatG.pu (RunV.load1 hS rfl rfl (by repeat constructor) rfl) rfl rfl ?_
      refine SatG.pu (RunV.loadN hS rfl rfl (by repeat constructor) (by repeat constructor)) rfl rfl ?_
      refine SatG.op rfl rfl (OpW.buildSlice1 hS rfl rfl rfl rfl rfl (by repeat constructor) rfl rfl rfl ?_)
      clear hS
      intro b16 w5 _ hS
      refine SatG.op rfl rfl (OpW.append1 (by assumption) hS (by repeat constructor) rfl rfl (by repeat constructor) rfl rfl rfl rfl rfl rfl rfl rfl (by first | omega | (simp only [List.length_map]; omega) | (simp only [List.length_append, List.length_map, List.length_cons, List.length_nil]; omega)) rfl ?_)
      clear hS
      intro v17 B17 w6 hsl17 hS
      refine SatG.op rfl rfl (OpW.storeSv hS rfl rfl (by assumption) (by repeat constructor) (by repeat constructor) rfl ?_)
      clear hS
      intro w7 hS
      refine SatG.nil (SatE.blk_normal ?_)
      refine SatE.round ((v17, B17)) ?_ (hS.sel (by repeat constructor))
      refine ⟨?_, by simp only [List.length_append, List.length_cons, List.length_nil]; omega⟩
      show Sl 30 4 v17 ((undF p ((pre ++ [x]).map (·.1))).map tr) B17
      rw [List.map_append]
      unfold undF
      rw [List.filter_append, List.map_append, List.map_cons, List.map_nil, List.filter_cons_of_pos (p := fun (r : Tr) => under r.k p) (by assumption)]
      exact hsl17
    · (try simp only [cx, ne_eq] at h1)
      try (exfalso; (first | omega | exact h1 trivial | contradiction); done)
      all_goals
      refine SatF.skip (SatE.blk_normal ?_)
      refine SatE.round ((va, Ba)) ?_ (hS.sel (by repeat constructor))
      refine ⟨?_, by simp only [List.length_append, List.length_cons, List.length_nil]; omega⟩
      show Sl 30 4 va ((undF p ((pre ++ [x]).map (·.1))).map tr) Ba
      rw [List.map_append]
      unfold undF
      rw [List.filter_append, List.map_append, List.map_cons, List.map_nil, List.filter_cons_of_neg (p := fun (r : Tr) => under r.k p) (by simp_all), List.filter_nil, List.map_nil, List.append_nil]
      exact hsa
  · clear hS
    rintro D xs ⟨va, Ba⟩ w4 hxs ⟨hsa, hpl⟩ hS
    try simp only [List.cons_append, List.nil_append] at hS
    refine SatEM.blk_normal (SatEM.thenM ?_)
    refine SatM.seq ?_
    refine SatM.region ?_
    refine SatLM.pu (RunV.load1 hS rfl rfl (by repeat constructor) rfl) rfl ?_
    refine SatLM.pu (RunV.assign rfl) rfl ?_
    refine SatLM.nil (SatEM.thenM ?_)
    refine SatM.ret ?_
    refine SatEM.ret1S hS rfl rfl (by repeat constructor) ?_
    clear hS
    intro w5 hS
    subst hxs; rw [hrs] at hsa; exact ⟨_, hsa, St.roL hown (hS.sel (R := ((b, C 58 (tc most v last)) :: B) ++ Ba) (by repeat constructor)) .here⟩
  · intro D c pre g W _ hx; exact hx.elim
theorem count_any (hsl : Sl 30 4 v (rows.map tr) B) (hown : Own w ((b, C 58 (tc most v last)) :: B)) (hm : ¬ most = 0) : Ret Try.prog 19 #[.pointer (some ⟨b, 0, none⟩)] w fun u w' => u = .int .i64 (rows.length : Int) ∧ St w [] [] w' := by
  have hS := St.init hown
  obtain ⟨c, hv⟩ := hsl.slv
  simp only [List.length_map] at hv
  refine Ret.enter Try.func19 Try.ntmps19 rfl rfl ?_
  simp only [argEnv, Nat.reduceAdd]
  refine SatC.seq ?_
  refine SatC.region ?_
  refine SatL.pu (RunV.assign rfl) rfl ?_
  refine SatL.nil (SatE.thenC ?_)
  refine SatC.seq ?_
  refine SatC.seq ?_
  refine SatC.region ?_
  refine SatL.pu (RunV.move rfl) rfl ?_
  refine SatL.op rfl (OpW.enter rfl rfl rfl (rfl) (tnone_any (hS.ownT (by repeat constructor)) hm) ?_)
  rintro r1 w1 ⟨rfl, h⟩
  replace hS := St.callN hS h
  refine SatL.nil (SatE.thenC ?_)
  refine SatC.cond rfl (fun h1 => ?_) (fun h1 => ?_)
  · (try simp only [cx, ne_eq] at h1)
    try (exfalso; (first | omega | exact h1 trivial | contradiction); done)
    all_goals
    refine SatC.seq ?_
    refine SatC.region ?_
    refine SatL.pu (RunV.assign rfl) rfl ?_
    refine SatL.nil (SatE.thenC ?_)
    refine SatC.ret (SatE.then_ret ?_)
    refine SatE.ret1 rfl rfl ?_
    exact ⟨rfl, St.ro hown hS .all⟩
  · (try simp only [cx, ne_eq] at h1)
    try (exfalso; (first | omega | exact h1 trivial | contradiction); done)
    all_goals
    refine SatC.skip (SatE.thenC ?_)
    refine SatC.seq ?_
    refine SatC.region ?_
    refine SatL.pu (RunV.move rfl) rfl ?_
    first | refine SatL.pu (RunV.nil_ptr rfl) rfl ?_ | refine SatL.pu (RunV.nil_func rfl) rfl ?_ | refine SatL.pu (RunV.nil_yield rfl) rfl ?_
    first | refine SatL.pu (RunV.fieldAddrL rfl rfl rfl) rfl ?_ | refine SatL.pu (RunV.fieldAddr rfl rfl rfl) rfl ?_
    refine SatL.pu (RunV.load1 hS rfl rfl (by repeat constructor) rfl) rfl ?_
    first | refine SatL.pu (RunV.lenR (by assumption) rfl rfl) rfl ?_ | refine SatL.pu (RunV.lenS rfl rfl) rfl ?_
    refine SatL.pu (RunV.assign rfl) rfl ?_
    refine SatL.nil (SatE.thenC ?_)
    refine SatC.ret ?_
    refine SatE.ret1 rfl rfl ?_
    exact ⟨rfl, St.ro hown hS .all⟩
/-- A step of a law: its kind, key, value, index. -/
abbrev Sp := Int × (List UInt8) × Int × Int
@[reducible] def spr (y : Sp) : List Value := [.int .i64 y.1, str y.2.1, .int .i64 y.2.2.1, .int .u64 y.2.2.2]
/-- What a step makes of both tables. -/
def stepS (most last : Int) (rows : List Tr) (y : Sp) : List Tr × Int :=
  if y.1 = 0 then (putS most last rows y.2.1 y.2.2.1 y.2.2.2).2.2
  else if y.1 = 1 then (dropS last rows y.2.1 y.2.2.2).2
  else if y.1 = 2 then (rows, max last y.2.2.2)
  else (rows, last)
end
end Go.Proofs.Ytdoinfpkfbfjaaa
