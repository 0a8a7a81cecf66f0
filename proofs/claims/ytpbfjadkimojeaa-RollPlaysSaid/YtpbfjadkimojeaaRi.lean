/- The roll's iterator: each seat's record, in the seats' order. -/
import Derived.Test.YtpbfjadkimojeaaRo
import Derived.Test.YtpbfjadkimojeaaK19
set_option linter.unusedSimpArgs false
set_option linter.unusedVariables false
set_option maxRecDepth 100000
set_option maxHeartbeats 1000000
namespace Go.Proofs.Ytpbfjadkimojeaa
open Go.RowKit
/-- The records of the first i seats, in their order. -/
def seen (m : Mem) (i : Nat) : List Upd := (List.range i).filterMap fun (k : Nat) => look m (k : Int)
theorem seen_next (m : Mem) (i : Nat) : seen m (i + 1) = seen m i ++ (look m (i : Int)).toList := by
  unfold seen
  rw [List.range_succ, List.filterMap_append]
  cases h : look m (i : Int) <;> simp [h]
theorem seen_lt (m : Mem) {i : Nat} (h : i < 8) : (seen m i).length < 8 := Nat.lt_of_le_of_lt (List.length_filterMap_le ..) (by simpa using h)
theorem seen_at {m : Mem} {k : Int} (h : (look m k).isSome = true) : (look m k).toList = [at_ m k] := by
  unfold at_
  cases e : look m k with
  | none => rw [e] at h; cases h
  | some u => rfl
theorem seen_no {m : Mem} {k : Int} (h : (look m k).isSome = false) : (look m k).toList = [] := by
  cases e : look m k with
  | none => rfl
  | some u => rw [e] at h; cases h
theorem own_tail {w w0 : World} {X : List Nat} {c : Nat × Obj} {L : List (Nat × Obj)} (hS : St w0 X (c :: L) w) : Own w L := ⟨fun d hd => hS.own d (List.mem_cons_of_mem _ hd), (List.nodup_cons.1 hS.nd).2⟩
theorem yield_bool {A B : Prop} {e : Ending} (h : (e = .returned (.bool true) ∧ A) ∨ (e = .returned (.bool false) ∧ B)) : ∃ r : Bool, e = .returned (.bool r) ∧ (r = true → A) ∧ (r = false → B) := by
  rcases h with ⟨rfl, h⟩ | ⟨rfl, h⟩
  · exact ⟨true, rfl, fun _ => h, (fun h => by cases h)⟩
  · exact ⟨false, rfl, (fun h => by cases h), fun _ => h⟩
theorem each_stops {b b1 mb : Nat} {me : Int} {o : Obj} {m : Mem} (ho : IsMp eI o (mv m)) (w : World) (hown : Own w [(b1, C 24 [.pointer (some ⟨b, 0, none⟩)]), (b, C 63 (rc me mb)), (mb, o)]) :
    SeqStopsK Fence.wide 7 Try.prog 40 #[.pointer (some ⟨b1, 0, none⟩)] (fun u : Upd => #[uv u]) (Stays [(b1, C 24 [.pointer (some ⟨b, 0, none⟩)]), (b, C 63 (rc me mb)), (mb, o)]) (fun xs => xs = seen m 8) (fun _ => True) 8 w := by
  intro l J Jx W hW hJ hJx hY h0
  have hownW := hown.below hW (fun c hc => (Array.getElem?_eq_some_iff.1 (hown.1 c hc)).1)
  have hS := St.init hownW
  simp only [List.map_cons, List.map_nil] at hS
  refine callsIn_wide.2 (Calls.mono (?_ : Ret Try.prog 40 _ W fun v W' => (∃ xs, xs = seen m 8 ∧ J xs W') ∨ (∃ pre, True ∧ Jx pre W')) (fun e W' ⟨v, he, h⟩ => ⟨⟨v, he⟩, h⟩))
  refine Ret.enter (args := [.func (.yield l) #[] #[], .pointer (some ⟨b1, 0, none⟩)]) Try.func40 Try.ntmps40 rfl rfl ?_
  simp only [argEnv, Nat.reduceAdd]
  refine SatC.seq ?_
  refine SatC.region ?_
  refine SatL.pu (RunV.move rfl) rfl ?_
  refine SatL.nil (SatE.thenC ?_)
  refine SatC.block ?_
  refine SatC.loopK (G := Nat) (V := fun i => [(6, .int .i64 (i : Int))]) (Cn := [(0, _), (1, _)]) (I := fun i w' => i ≤ 8 ∧ J (seen m i) w' ∧ Own w' [(b1, C 24 [.pointer (some ⟨b, 0, none⟩)]), (b, C 63 (rc me mb)), (mb, o)]) (μ := fun i => 8 - i) 0 ?_ (by repeat constructor) ?_
  · exact ⟨by omega, h0, hownW⟩
  clear hS
  rintro i w1 ⟨hi, hj, hown1⟩
  refine SatC.weak (e' := [(0, _), (1, _), (6, _)]) (by repeat constructor) ?_
  refine SatC.seq ?_
  replace hS := St.init hown1
  simp only [List.map_cons, List.map_nil] at hS
  refine SatC.region ?_
  refine SatL.pu (RunV.lss rfl rfl) rfl ?_
  refine SatL.nil (SatE.thenC ?_)
  refine SatC.seq ?_
  refine SatC.cond rfl (fun h1 => ?_) (fun h1 => ?_)
  · (try simp only [cx, ne_eq] at h1)
    try (exfalso; (first | omega | exact h1 trivial | contradiction); done)
    all_goals
    refine SatC.skip (SatE.thenC ?_)
    refine SatC.seq ?_
    refine SatC.block ?_
    refine SatC.seq ?_
    refine SatC.region ?_
    refine SatL.pu (RunV.move rfl) rfl ?_
    refine SatL.pu (RunV.assign rfl) rfl ?_
    refine SatL.nil (SatE.thenC ?_)
    refine SatC.seq ?_
    refine SatC.region ?_
    refine SatL.pu (RunV.load1 hS rfl rfl (by repeat constructor) rfl) rfl ?_
    refine SatL.pu (RunV.move rfl) rfl ?_
    refine SatL.op rfl (OpW.enter rfl rfl rfl (rfl) (get_any (me := me) (m := m) _ (hS.ownT (by repeat constructor)) ho) ?_)
    rintro r2 w2 ⟨rfl, h⟩
    replace hS := St.callN hS h
    refine SatL.pu (RunV.move rfl) rfl ?_
    refine SatL.pu (RunV.extract rfl rfl) rfl ?_
    refine SatL.pu (RunV.extract rfl rfl) rfl ?_
    refine SatL.op rfl (OpW.alloc hS rfl rfl (by repeat constructor) ?_)
    clear hS
    intro b4 w3 _ hS
    refine SatL.op rfl (OpW.store hS rfl rfl (by repeat constructor) (by repeat constructor) (by repeat constructor) rfl rfl ?_)
    clear hS
    intro w4 hS
    refine SatL.pu (RunV.assign rfl) rfl ?_
    refine SatL.nil (SatE.thenC ?_)
    refine SatC.seq ?_
    refine SatC.regionY ?_
    refine SatY.pu (RunV.move rfl) rfl ?_
    refine SatY.pu (RunV.move rfl) rfl ?_
    refine SatY.guard rfl rfl rfl (fun h2 => ?_) (fun h2 => ?_)
    · (try simp only [cx, ne_eq] at h2)
      try (exfalso; (first | omega | exact h2 trivial | contradiction); done)
      all_goals
      refine SatY.pu (RunV.move rfl) rfl ?_
      refine SatY.guard_y rfl rfl ?_
      refine SatY.pu (RunV.loadN hS rfl rfl (by repeat constructor) (by repeat constructor)) rfl ?_
      refine SatY.guard_y rfl rfl ?_
      refine SatY.yield rfl rfl rfl (hY (seen m i) (at_ m i) _ (St.abides hJ hj hown1 hS (fun c hc => List.mem_cons_of_mem _ hc)) (seen_lt m (by omega))) ?_
      have hown4 := own_tail hS
      rintro e W5 he
      obtain ⟨r, rfl, hr⟩ := yield_bool he
      refine ⟨_, rfl, ?_⟩
      refine SatY.guard_y rfl rfl ?_
      refine SatY.pu (RunV.not rfl) rfl ?_
      refine SatY.pu (RunV.pick_t rfl rfl) rfl ?_
      refine SatY.nil (SatE.thenC ?_)
      refine SatC.weak (e' := [(0, _), (1, _), (6, _), (21, _)]) (by repeat constructor) ?_
      refine SatC.cond rfl (fun h3 => ?_) (fun h3 => ?_)
      · (try simp only [cx, ne_eq] at h3)
        try (exfalso; (first | omega | exact h3 trivial | contradiction); done)
        all_goals
        refine SatC.ret (SatE.blk_ret (SatE.then_ret (SatE.then_ret (SatE.blk_ret ?_))))
        refine SatE.ret0 rfl ?_
        first | exact .inr ⟨_, trivial, hr.2 (by assumption)⟩ | exact .inl ⟨_, rfl, by rw [show i = 8 by omega] at hj; exact hj⟩
      · (try simp only [cx, ne_eq] at h3)
        try (exfalso; (first | omega | exact h3 trivial | contradiction); done)
        all_goals
        refine SatC.skip (SatE.blk_normal (SatE.thenC ?_))
        refine SatC.region ?_
        refine SatL.pu (RunV.add rfl rfl (by first | exact wrapI64 (by omega) | rfl)) rfl ?_
        refine SatL.pu (RunV.move rfl) rfl ?_
        refine SatL.nil ?_
        refine SatE.again (i + 1) ?_ (by first | omega | (dsimp only; omega)) (by repeat constructor)
        first
        | (refine ⟨by omega, ?_, hown4.stays (hr.1 (by assumption)).2⟩
           rw [seen_next, seen_at (by assumption)]
           exact (hr.1 (by assumption)).1)
        | (refine ⟨by omega, ?_, own_tail hS⟩
           rw [seen_next, seen_no (by assumption), List.append_nil]
           exact St.abides hJ hj hown1 hS (fun c hc => List.mem_cons_of_mem _ hc))
    · (try simp only [cx, ne_eq] at h2)
      try (exfalso; (first | omega | exact h2 trivial | contradiction); done)
      all_goals
      refine SatY.guard_n rfl rfl rfl rfl ?_
      refine SatY.guard_n rfl rfl rfl rfl ?_
      refine SatY.guard_n rfl rfl rfl rfl ?_
      refine SatY.pu (RunV.pick_f rfl rfl) rfl ?_
      refine SatY.nil (SatE.thenC ?_)
      refine SatC.weak (e' := [(0, _), (1, _), (6, _), (21, _)]) (by repeat constructor) ?_
      refine SatC.cond_f rfl ?_
      refine SatC.skip (SatE.blk_normal (SatE.thenC ?_))
      refine SatC.region ?_
      refine SatL.pu (RunV.add rfl rfl (by first | exact wrapI64 (by omega) | rfl)) rfl ?_
      refine SatL.pu (RunV.move rfl) rfl ?_
      refine SatL.nil ?_
      refine SatE.again (i + 1) ?_ (by first | omega | (dsimp only; omega)) (by repeat constructor)
      first
      | (refine ⟨by omega, ?_, hown4.stays (hr.1 (by assumption)).2⟩
         rw [seen_next, seen_at (by assumption)]
         exact (hr.1 (by assumption)).1)
      | (refine ⟨by omega, ?_, own_tail hS⟩
         rw [seen_next, seen_no (by assumption), List.append_nil]
         exact St.abides hJ hj hown1 hS (fun c hc => List.mem_cons_of_mem _ hc))
  · (try simp only [cx, ne_eq] at h1)
    try (exfalso; (first | omega | exact h1 trivial | contradiction); done)
    all_goals
    refine SatC.exit (SatE.then_exit (SatE.then_exit (SatE.blk_exit ?_)))
    refine SatE.fin0 rfl ?_
    first | exact .inr ⟨_, trivial, hr.2 (by assumption)⟩ | exact .inl ⟨_, rfl, by rw [show i = 8 by omega] at hj; exact hj⟩
theorem each_any (b : Nat) (w : World) : Ret Try.prog 31 #[.pointer (some ⟨b, 0, none⟩)] w fun v w' => ∃ b1, v = .func (.func 40) #[] #[.pointer (some ⟨b1, 0, none⟩)] ∧ St w [] [(b1, C 24 [.pointer (some ⟨b, 0, none⟩)])] w' := by
  have hS := St.init0 w
  refine Ret.enter Try.func31 Try.ntmps31 rfl rfl ?_
  simp only [argEnv, Nat.reduceAdd]
  refine SatC.seq ?_
  refine SatC.region ?_
  refine SatL.op rfl (OpW.box hS rfl rfl (by repeat constructor) ?_)
  clear hS
  intro b1 w1 _ hS
  refine SatL.pu (RunV.assign rfl) rfl ?_
  refine SatL.nil (SatE.thenC ?_)
  refine SatC.seq ?_
  refine SatC.region ?_
  refine SatL.pu (RunV.mkFunc rfl) rfl ?_
  refine SatL.pu (RunV.assign rfl) rfl ?_
  refine SatL.nil (SatE.thenC ?_)
  refine SatC.ret ?_
  refine SatE.ret1 rfl rfl ?_
  exact ⟨_, rfl, hS⟩
end Go.Proofs.Ytpbfjadkimojeaa
