/- The table gone over: an iterator over the iterator of the rows. -/
import Derived.Test.YtdoinfpkfbfjaaaSt
import Derived.Test.YtdoinfpkfbfjaaaK36
set_option linter.unusedSimpArgs false
set_option linter.unusedVariables false
set_option maxRecDepth 100000
set_option maxHeartbeats 4000000
namespace Go.Proofs.Ytdoinfpkfbfjaaa
open Go.RowKit
section
variable {b : Nat} {most last : Int} {v : Value} {rows : List Tr} {B : List (Nat × Obj)} {w : World}
@[reducible] def itf (b3 : Nat) : Value := .func (.func 34) #[] #[.pointer (some ⟨b3, 0, none⟩)]
@[reducible] def IO (b4 b3 : Nat) (v : Value) (B : List (Nat × Obj)) : List (Nat × Obj) := (b4, C 67 [itf b3]) :: (b3, C 34 [v]) :: B
theorem eachx_any (hsl : Sl 30 4 v (rows.map tr) B) (hl : rows.length ≤ 1000000) (hown : Own w ((b, C 58 (tc most v last)) :: B)) (hm : ¬ most = 0) : Ret Try.prog 13 #[.pointer (some ⟨b, 0, none⟩)] w fun u w' =>
    ∃ b4 b3 v' B', u = .func (.func 26) #[] #[.pointer (some ⟨b4, 0, none⟩)] ∧ Sl 30 4 v' (rows.map tr) B' ∧ St w [] (IO b4 b3 v' B') w' := by
  have hS := St.init hown
  refine Ret.enter Try.func13 Try.ntmps13 rfl rfl ?_
  simp only [argEnv, Nat.reduceAdd]
  refine SatC.seq ?_
  refine SatC.region ?_
  refine SatL.pu (RunV.assign rfl) rfl ?_
  refine SatL.nil (SatE.thenC ?_)
  refine SatC.seq ?_
  refine SatC.region ?_
  refine SatL.pu (RunV.move rfl) rfl ?_
  refine SatL.op rfl (OpW.enter rfl rfl rfl (rfl) (each_any hsl hl (hS.ownT (A := (b, C 58 (tc most v last)) :: B) (by repeat constructor)) hm) ?_)
  rintro r1 w1 ⟨be, ve, Be, rfl, hse, h⟩
  replace hS := hS.call0 h
  refine SatL.op rfl (OpW.alloc hS rfl rfl (by repeat constructor) ?_)
  clear hS
  intro b3 w2 _ hS
  refine SatL.op rfl (OpW.store hS rfl rfl (by repeat constructor) (by repeat constructor) (by repeat constructor) rfl rfl ?_)
  clear hS
  intro w3 hS
  refine SatL.nil (SatE.thenC ?_)
  refine SatC.seq ?_
  refine SatC.region ?_
  refine SatL.pu (RunV.mkFunc rfl) rfl ?_
  refine SatL.pu (RunV.assign rfl) rfl ?_
  refine SatL.nil (SatE.thenC ?_)
  refine SatC.ret ?_
  refine SatE.ret1 rfl rfl ?_
  exact ⟨_, _, _, Be, rfl, hse, St.roL hown (hS.sel (R := ((b, C 58 (tc most v last)) :: B) ++ IO b3 be ve Be) (by repeat constructor)) .here⟩
theorem take_pre {α : Type} (l : List α) (n : Nat) : l.take n <+: l := List.take_prefix n l
theorem each_pre {b3 : Nat} {rs : List TrB} (hsl : Sl 30 4 v ((rs.map (·.1)).map tr) B) (hl : rs.length ≤ 1000000) (w : World) (hown : Own w ((b3, C 34 [v]) :: B)) :
    SeqStopsK Fence.wide 7 Try.prog 34 #[.pointer (some ⟨b3, 0, none⟩)] (fun r : TrB => #[rv r.1]) (Stays ((b3, C 34 [v]) :: B)) (fun xs => xs = rs) (fun pre => pre <+: rs) rs.length w := by
  intro l J Jx W hW hJ hJx hY h0
  have hownW := hown.below hW (fun c hc => (Array.getElem?_eq_some_iff.1 (hown.1 c hc)).1)
  have hS := St.init hownW
  obtain ⟨c0, hv0⟩ := hsl.slv
  simp only [List.length_map] at hv0
  refine callsIn_wide.2 (Calls.mono (?_ : Ret Try.prog 34 _ W fun v W' => (∃ xs, xs = rs ∧ J xs W') ∨ (∃ pre, pre <+: rs ∧ Jx pre W')) (fun e W' ⟨v, he, h⟩ => ⟨⟨v, he⟩, h⟩))
  refine Ret.enter (args := [.func (.yield l) #[] #[], .pointer (some ⟨b3, 0, none⟩)]) Try.func34 Try.ntmps34 rfl rfl ?_
  simp only [argEnv, Nat.reduceAdd]
  refine SatC.seq ?_
  refine SatC.region ?_
  refine SatL.pu (RunV.load1 hS rfl rfl (by repeat constructor) rfl) rfl ?_
  refine SatL.pu (RunV.lenR hv0 rfl rfl) rfl ?_
  refine SatL.pu (RunV.move rfl) rfl ?_
  refine SatL.nil (SatE.thenC ?_)
  refine SatC.block ?_
  refine SatC.loopK (G := Nat) (V := fun i => [(7, .int .i64 (i : Int))]) (Cn := [(0, _), (5, _), (6, _)]) (I := fun i w' => i ≤ rs.length ∧ J (rs.take i) w' ∧ Own w' ((b3, C 34 [v]) :: B)) (μ := fun i => rs.length - i) 0 ?_ (by repeat constructor) ?_
  · exact ⟨by omega, h0, hownW⟩
  clear hS
  rintro i w1 ⟨hi, hj, hown1⟩
  refine SatC.weak (e' := [(0, _), (5, _), (6, _), (7, _)]) (by repeat constructor) ?_
  refine SatC.seq ?_
  replace hS := St.init hown1
  refine SatC.region ?_
  refine SatL.pu (RunV.lss rfl rfl) rfl ?_
  refine SatL.nil (SatE.thenC ?_)
  refine SatC.seq ?_
  refine SatC.cond rfl (fun h1 => ?_) (fun h1 => ?_)
  · (try simp only [cx, ne_eq] at h1)
    try (exfalso; (first | omega | exact h1 trivial | contradiction); done)
    all_goals
    refine SatC.skip (SatE.thenC ?_)
    refine SatC.seq ?_
    refine SatC.block ?_
    refine SatC.seq ?_
    obtain ⟨y, hy⟩ := get_some rs i (by omega)
    refine SatC.region ?_
    refine SatL.pu (RunV.indexR hv0 rfl rfl rfl (by omega) (by omega) rfl) rfl ?_
    refine SatL.pu (RunV.loadRNz (hsl.rd hS (by repeat constructor)) rfl rfl (map_get (map_get hy))) rfl ?_
    refine SatL.op rfl (OpW.alloc hS rfl rfl (by repeat constructor) ?_)
    clear hS
    intro b4 w2 _ hS
    refine SatL.op rfl (OpW.store hS rfl rfl (by repeat constructor) (by repeat constructor) (by repeat constructor) rfl rfl ?_)
    clear hS
    intro w3 hS
    refine SatL.nil (SatE.thenC ?_)
    refine SatC.seq ?_
    refine SatC.regionY ?_
    refine SatY.pu (RunV.move rfl) rfl ?_
    refine SatY.pu (RunV.loadN hS rfl rfl (by repeat constructor) (by repeat constructor)) rfl ?_
    refine SatY.yield rfl rfl rfl (hY (rs.take i) y _ (St.abides hJ hj hown1 hS (fun c hc => List.mem_cons_of_mem _ hc)) (by rw [List.length_take]; omega)) ?_
    have hown4 := own_drop hS
    rintro e W5 he
    obtain ⟨r, rfl, hr⟩ := yield_b he
    refine ⟨_, rfl, ?_⟩
    refine SatY.pu (RunV.not rfl) rfl ?_
    refine SatY.nil (SatE.thenC ?_)
    refine SatC.cond rfl (fun h2 => ?_) (fun h2 => ?_)
    · (try simp only [cx, ne_eq] at h2)
      try (exfalso; (first | omega | exact h2 trivial | contradiction); done)
      all_goals
      refine SatC.ret (SatE.blk_ret (SatE.then_ret (SatE.then_ret (SatE.blk_ret ?_))))
      refine SatE.ret0 rfl ?_
      first | exact .inr ⟨rs.take (i + 1), take_pre _ _, by rw [List.take_add_one, hy]; exact hr.2 (by assumption)⟩ | exact .inl ⟨_, rfl, by rw [List.take_of_length_le (by omega)] at hj; exact hj⟩
    · (try simp only [cx, ne_eq] at h2)
      try (exfalso; (first | omega | exact h2 trivial | contradiction); done)
      all_goals
      refine SatC.skip (SatE.blk_normal (SatE.thenC ?_))
      refine SatC.region ?_
      refine SatL.pu (RunV.add rfl rfl (by first | exact wrapI64 (by omega) | rfl)) rfl ?_
      refine SatL.pu (RunV.move rfl) rfl ?_
      refine SatL.nil ?_
      refine SatE.again (i + 1) ?_ (by first | omega | (dsimp only; omega)) (by repeat constructor)
      refine ⟨by omega, ?_, hown4.stays (hr.1 (by assumption)).2⟩
      rw [List.take_add_one, hy]
      exact (hr.1 (by assumption)).1
  · (try simp only [cx, ne_eq] at h1)
    try (exfalso; (first | omega | exact h1 trivial | contradiction); done)
    all_goals
    refine SatC.exit (SatE.then_exit (SatE.then_exit (SatE.blk_exit ?_)))
    refine SatE.fin0 rfl ?_
    first | exact .inr ⟨rs.take (i + 1), take_pre _ _, by rw [List.take_add_one, hy]; exact hr.2 (by assumption)⟩ | exact .inl ⟨_, rfl, by rw [List.take_of_length_le (by omega)] at hj; exact hj⟩
@[reducible] def encE (r : TrB) : Array Value := #[str r.1.k, .int .i64 r.1.v]
theorem each_over {b3 b4 : Nat} {rs : List TrB} (hsl : Sl 30 4 v ((rs.map (·.1)).map tr) B) (hl : rs.length ≤ 1000000) (w : World) (hown : Own w (IO b4 b3 v B)) :
    SeqOver Try.prog 26 #[.pointer (some ⟨b4, 0, none⟩)] encE (StaysT 69 (IO b4 b3 v B)) (fun xs => xs = rs) (fun pre => pre <+: rs) rs.length w := by
  intro l J Jx W hW hJ hJx hY h0
  have hownW := hown.below hW (fun c hc => (Array.getElem?_eq_some_iff.1 (hown.1 c hc)).1)
  have hS := St.init hownW
  refine callsIn_wide.2 (Calls.mono (?_ : Ret Try.prog 26 _ W fun v W' => (∃ xs, xs = rs ∧ J xs W') ∨ (∃ pre, pre <+: rs ∧ Jx pre W')) (fun e W' ⟨v, he, h⟩ => ⟨⟨v, he⟩, h⟩))
  refine Ret.enterM (args := [.func (.yield l) #[] #[], .pointer (some ⟨b4, 0, none⟩)]) Try.func26 Try.ntmps26 rfl rfl ?_
  simp only [argEnv, Nat.reduceAdd]
  refine SatC.seq ?_
  refine SatC.region ?_
  refine SatL.op rfl (OpW.box hS rfl rfl (by repeat constructor) ?_)
  clear hS
  intro b2 w1 _ hS
  refine SatL.nil (SatE.thenC ?_)
  refine SatC.seq ?_
  refine SatC.region ?_
  refine SatL.pu (RunV.load1 hS rfl rfl (by repeat constructor) rfl) rfl ?_
  refine SatL.nil (SatE.thenC ?_)
  have hB : W.heap.size ≤ w1.heap.size := hS.size
  have hown1 := hS.toOwn
  have hlow := hS.low
  have hRlt : ∀ c ∈ (b3, C 34 [v]) :: B, c.1 < w1.heap.size := fun c hc => hS.lt (List.mem_cons_of_mem _ (List.mem_cons_of_mem _ hc))
  refine SatC.block ?_
  refine SatC.rangeFunc (α := TrB) (G := Nat) (gf := 34) (lb := [.pointer (some ⟨b3, 0, none⟩)]) (encs := fun r : TrB => #[rv r.1]) (Kp := Stays ((b3, C 34 [v]) :: B)) (M := rs.length) (w0 := w1) rfl rfl (each_pre hsl hl _ (hS.ownT (A := (b3, C 34 [v]) :: B) (by repeat constructor))) stays_trans (fun W l o o' h1 h2 h3 h4 => stays_putObj hRlt W l o o' h1 h2 h3 h4) (Below.refl _ _) (fun _ => rfl) (fun p hp => by simp at hp; subst hp; decide)
    (fun pre W' => J pre W' ∧ Own W' ((b2, C 69 [.func (.yield l) #[] #[]]) :: IO b4 b3 v B)) (fun c pre W' => c = .ret ∧ Jx pre W')
    (fun s W1 W2 row hs hg hr => ⟨own_up hJ hB s W1 W2 row hs.1 hg hr, own_low hlow () W1 W2 row hs.2 hg hr⟩)
    (fun c s W1 W2 row hs hg hr => ⟨hs.1, own_up hJx hB s W1 W2 row hs.2 hg hr⟩)
    ⟨hJ [] W w1 none h0 (hS.grownBy0 hownW (fun c hc => List.mem_cons_of_mem _ hc)) (fun r e => by cases e), hown1⟩
    (fun x a => [(3, .pointer (some ⟨a, 0, none⟩)), (2, .pointer (some ⟨b2, 0, none⟩))]) (fun x a W' => Own W' ((a, C 30 (tr x.1)) :: (b2, C 69 [.func (.yield l) #[] #[]]) :: IO b4 b3 v B))
    (fun x a s W1 W2 row hs hg hr => own_low (Low.cell hlow) () W1 W2 row hs hg hr) ?_ ?_ ?_ ?_
  · rintro l' pre x W1 ⟨hj, ho⟩
    have hS := St.init ho
    refine SatF.region ?_
    refine SatG.op rfl rfl (OpW.alloc hS rfl rfl (by repeat constructor) ?_)
    clear hS
    intro bn w2 _ hS
    refine SatG.op rfl rfl (OpW.store hS rfl rfl (by repeat constructor) (by repeat constructor) (by repeat constructor) rfl rfl ?_)
    clear hS
    intro w3 hS
    refine SatG.nil ⟨fun a ha => ?_⟩
    exact ⟨⟨bn, ha.weak (EnvSub.look (by repeat constructor)), hS.toOwn⟩, hS.keepsFrom ho hlow, hS.stays (fun c hc => List.mem_cons_of_mem _ (List.mem_cons_of_mem _ (List.mem_cons_of_mem _ hc))), hJ pre W1 w3 none hj (hS.grownBy0 ho (fun c hc => List.mem_cons_of_mem _ hc)) (fun r e => by cases e), own_drop hS⟩
  · rintro l' pre x a W1 _ _ ⟨hj, ho⟩ ho2 hlen
    have hS := St.init ho2
    refine SatF.block ?_
    refine SatF.seq ?_
    refine SatF.region ?_
    refine SatG.pu (RunV.load1 hS rfl rfl (by repeat constructor) rfl) rfl rfl ?_
    refine SatG.pu (RunV.fieldAddrL rfl rfl rfl) rfl rfl ?_
    refine SatG.pu (RunV.load1 hS rfl rfl (by repeat constructor) rfl) rfl rfl ?_
    refine SatG.pu (RunV.fieldAddrL rfl rfl rfl) rfl rfl ?_
    refine SatG.pu (RunV.load1 hS rfl rfl (by repeat constructor) rfl) rfl rfl ?_
    refine SatG.yield (vs := [str x.1.k, .int .i64 x.1.v]) rfl rfl rfl (hY pre x W1 hj hlen) ?_
    rintro e W5 ⟨hkf, he⟩
    obtain ⟨q, rfl, hq⟩ := yield_b he
    refine ⟨_, rfl, ?_⟩
    refine SatG.pu (RunV.not rfl) rfl rfl ?_
    refine SatG.nil (SatE.thenF ?_)
    refine SatF.cond rfl (fun h1 => ?_) (fun h1 => ?_)
    · refine SatF.ret (SatE.blk_ret ⟨fun c hc => ⟨keeps_up hkf hB, rfl, hq.2 (by simpa using h1)⟩⟩)
    · obtain ⟨hj2, hst⟩ := hq.1 (by simpa using h1)
      refine SatF.skip (SatE.blk_normal ⟨fun c hc => ⟨keeps_up hkf hB, fun d hd h => hst.1 d (List.mem_cons_of_mem _ hd) h, hj2, fun d hd => ?_, ho.2⟩⟩)
      rcases List.mem_cons.1 hd with rfl | hd'
      · exact hst.2 _ _ (ho.1 _ hd) rfl
      · exact hst.1 d hd' (ho.1 d hd)
  · rintro D xs W1 hD hxs ⟨hj, ho⟩ hm
    exact SatEM.blk_normal (SatEM.fin0 rfl hm (.inl ⟨xs, hxs, hJ.putObj _ hj (by omega) hm rfl⟩))
  · rintro D c pre W1 hD hSp ⟨rfl, hjx⟩ hm
    exact SatM.ret (SatEM.blk_ret (SatEM.ret0 rfl hm (.inr ⟨pre, hSp, hJx.putObj _ hjx (by omega) hm rfl⟩)))
end
end Go.Proofs.Ytdoinfpkfbfjaaa
