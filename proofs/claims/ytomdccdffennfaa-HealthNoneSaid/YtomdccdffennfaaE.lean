/- Contracts of chapter 25's steps, and of the known check. -/
import Derived.Test.YtomdccdffennfaaD
set_option linter.unusedSimpArgs false
set_option linter.unusedVariables false
set_option maxRecDepth 100000
set_option maxHeartbeats 1000000
namespace Go.Proofs.Ytomdccdffennfaa
open Go.RowKit
def mtC (c : Ck) (n : Int) : Ck := { c with maint := decide (¬ n.tmod 2 = 0) }
def stepC (c : Ck) (k n : Int) : Ck := if k = 0 then toldC c n else if k = 1 then folC c n else if k = 2 then mtC c n else if k = 3 then tickC c else c
def stepA (c d : Ck) (k n : Int) : Bool := if k = 0 then decide (toldA c n = toldA d n) else if k = 1 then decide (folA c n = folA d n) else if k = 2 then true else if k = 3 then tickA c == tickA d else true
theorem stepA_self (c : Ck) (k n : Int) : stepA c c k n = true := by
  unfold stepA
  (repeat' split) <;> simp
theorem stepC_bd {m : Int} {c : Ck} {k n : Int} (h : Bd m c) : Bd (m + 1) (stepC c k n) := by
  unfold stepC
  split
  · exact toldC_bd h
  · split
    · exact (folC_bd h).le (by omega)
    · split
      · exact Bd.le (c := mtC c n) (n := m) h (by omega)
      · split
        · exact tickC_bd h
        · exact h.le (by omega)
theorem stepC_p (c : Ck) (k n : Int) : (stepC c k n).p = c.p := by
  unfold stepC
  (repeat' split) <;> first | exact toldC_p _ _ | exact folC_p _ _ | exact tickC_p _ | rfl
theorem fv_p {c d : Ck} (h : c.p = d.p) : fv c = fv d := by rw [fv, fv, h]
section
variable {c d : Ck} {b r : Nat} {f : Value} {w : World}
theorem step_any (k n : Int) (hf : f = fv c) (hown : Own w [(b, C 49 (hc f c)), (r, C 37 (rc d))]) (hk : ¬ c.p.kind = 0) (hb : Bd 1000000 c) (hd : Bd 1000000 d) : Ret Try.prog 12 #[.pointer (some ⟨b, 0, none⟩), .pointer (some ⟨r, 0, none⟩), .agg #[.int .i64 k, .int .i64 n]] w fun v w' => v = .bool (stepA c d k n) ∧ St w [b, r] [(b, C 49 (hc f (stepC c k n))), (r, C 37 (rc (stepC d k n)))] w' := by
  have hS := St.init hown
  simp only [List.map_cons, List.map_nil] at hS
  refine Ret.enter Try.func12 Try.ntmps12 rfl rfl ?_
  simp only [argEnv, Nat.reduceAdd]
  refine SatC.seq ?_
  refine SatC.region ?_
  refine SatL.op rfl (OpW.box hS rfl rfl (by repeat constructor) ?_)
  clear hS
  intro b5 w1 _ hS
  refine SatL.pu (RunV.assign rfl) rfl ?_
  refine SatL.nil (SatE.thenC ?_)
  refine SatC.seq ?_
  refine SatC.seq ?_
  refine SatC.region ?_
  first | refine SatL.pu (RunV.fieldAddrL rfl rfl rfl) rfl ?_ | refine SatL.pu (RunV.fieldAddr rfl rfl rfl) rfl ?_
  refine SatL.pu (RunV.load1 hS rfl rfl (by repeat constructor) rfl) rfl ?_
  refine SatL.nil (SatE.thenC ?_)
  refine SatC.block ?_
  refine SatC.seq ?_
  refine SatC.region ?_
  refine SatL.pu (RunV.eql rfl rfl) rfl ?_
  refine SatL.pu (RunV.assign rfl) rfl ?_
  refine SatL.nil (SatE.thenC ?_)
  refine SatC.cond rfl (fun h1 => ?_) (fun h1 => ?_)
  · (try simp only [cx, ne_eq] at h1)
    try (exfalso; (first | omega | exact h1 trivial | contradiction); done)
    all_goals
    refine SatC.seq ?_
    refine SatC.drawnT 10 hS (hS.sub (show [(b5, C 39 [.int .i64 k, .int .i64 n])].Sublist _ by simp)) (by kernel_rfl) ?_
    clear hS
    intro w2 hh hS hD
    refine SatD.take 0 rfl [] (by kernel_rfl) (fun _ _ _ h => h) rfl rfl hD (fun _ hw => RunV.move rfl) ?_
    first | refine SatD.take 1 rfl [] (by kernel_rfl) (fun _ _ _ h => h) rfl rfl hD (fun _ hw => RunV.fieldAddrL rfl rfl rfl) ?_ | refine SatD.take 1 rfl [] (by kernel_rfl) (fun _ _ _ h => h) rfl rfl hD (fun _ hw => RunV.fieldAddr rfl rfl rfl) ?_
    refine SatD.take 2 rfl [] (by kernel_rfl) (fun _ _ _ h => h) rfl rfl hD (fun _ hw => RunV.load1 hw rfl rfl (by repeat constructor) rfl) ?_
    refine SatD.take 4 rfl [] (by kernel_rfl) (fun _ _ _ h => h) rfl rfl hD (fun _ hw => RunV.move rfl) ?_
    first | refine SatD.take 5 rfl [] (by kernel_rfl) (fun _ _ _ h => h) rfl rfl hD (fun _ hw => RunV.fieldAddrL rfl rfl rfl) ?_ | refine SatD.take 5 rfl [] (by kernel_rfl) (fun _ _ _ h => h) rfl rfl hD (fun _ hw => RunV.fieldAddr rfl rfl rfl) ?_
    refine SatD.take 6 rfl [] (by kernel_rfl) (fun _ _ _ h => h) rfl rfl hD (fun _ hw => RunV.load1 hw rfl rfl (by repeat constructor) rfl) ?_
    refine SatD.eff 3 (by kernel_rfl) rfl rfl (OpW.enter rfl rfl rfl (rfl) (told_any _ hf (hS.ownOf (by repeat constructor)) hk hb) ?_)
    rintro r3 w3 ⟨rfl, h⟩
    replace hS := hS.callR (A := [(b, C 49 (hc f c))]) (by repeat constructor) h
    refine keepS (hS.sb (by repeat constructor)) (fun hD => ?_)
    refine SatD.eff 7 (by kernel_rfl) rfl rfl (OpW.enter rfl rfl rfl (rfl) (told_ref _ (hS.ownOf (by repeat constructor)) hd) ?_)
    rintro r4 w4 ⟨rfl, h⟩
    replace hS := hS.callR (A := [(r, C 37 (rc d))]) (by repeat constructor) h
    refine keepS (hS.sb (by repeat constructor)) (fun hD => ?_)
    refine SatD.take 8 rfl [] (by kernel_rfl) (fun _ _ _ h => h) rfl rfl hD (fun _ hw => RunV.eql rfl rfl) ?_
    refine SatD.take 9 rfl [] (by kernel_rfl) (fun _ _ _ h => h) rfl rfl hD (fun _ hw => RunV.assign rfl) ?_
    refine SatD.done 0 (by kernel_rfl) (SatE.thenC ?_)
    clear hD
    refine SatC.ret (SatE.blk_ret (SatE.then_ret ?_))
    refine SatE.ret1 rfl rfl ?_
    subst h1
    exact ⟨rfl, hS.sel (R := [(b, C 49 (hc f (toldC c n))), (r, C 37 (rc (toldC d n)))]) (by repeat constructor)⟩
  · (try simp only [cx, ne_eq] at h1)
    try (exfalso; (first | omega | exact h1 trivial | contradiction); done)
    all_goals
    refine SatC.seq ?_
    refine SatC.region ?_
    refine SatL.pu (RunV.eql rfl rfl) rfl ?_
    refine SatL.pu (RunV.assign rfl) rfl ?_
    refine SatL.nil (SatE.thenC ?_)
    refine SatC.cond rfl (fun h2 => ?_) (fun h2 => ?_)
    · (try simp only [cx, ne_eq] at h2)
      try (exfalso; (first | omega | exact h2 trivial | contradiction); done)
      all_goals
      refine SatC.seq ?_
      refine SatC.drawnT 10 hS (hS.sub (show [(b5, C 39 [.int .i64 k, .int .i64 n])].Sublist _ by simp)) (by kernel_rfl) ?_
      clear hS
      intro w2 hh hS hD
      refine SatD.take 0 rfl [] (by kernel_rfl) (fun _ _ _ h => h) rfl rfl hD (fun _ hw => RunV.move rfl) ?_
      first | refine SatD.take 1 rfl [] (by kernel_rfl) (fun _ _ _ h => h) rfl rfl hD (fun _ hw => RunV.fieldAddrL rfl rfl rfl) ?_ | refine SatD.take 1 rfl [] (by kernel_rfl) (fun _ _ _ h => h) rfl rfl hD (fun _ hw => RunV.fieldAddr rfl rfl rfl) ?_
      refine SatD.take 2 rfl [] (by kernel_rfl) (fun _ _ _ h => h) rfl rfl hD (fun _ hw => RunV.load1 hw rfl rfl (by repeat constructor) rfl) ?_
      refine SatD.take 4 rfl [] (by kernel_rfl) (fun _ _ _ h => h) rfl rfl hD (fun _ hw => RunV.move rfl) ?_
      first | refine SatD.take 5 rfl [] (by kernel_rfl) (fun _ _ _ h => h) rfl rfl hD (fun _ hw => RunV.fieldAddrL rfl rfl rfl) ?_ | refine SatD.take 5 rfl [] (by kernel_rfl) (fun _ _ _ h => h) rfl rfl hD (fun _ hw => RunV.fieldAddr rfl rfl rfl) ?_
      refine SatD.take 6 rfl [] (by kernel_rfl) (fun _ _ _ h => h) rfl rfl hD (fun _ hw => RunV.load1 hw rfl rfl (by repeat constructor) rfl) ?_
      refine SatD.eff 3 (by kernel_rfl) rfl rfl (OpW.enter rfl rfl rfl (rfl) (fol_any _ (hS.ownOf (by repeat constructor)) hk) ?_)
      rintro r3 w3 ⟨rfl, h⟩
      replace hS := hS.callR (A := [(b, C 49 (hc f c))]) (by repeat constructor) h
      refine keepS (hS.sb (by repeat constructor)) (fun hD => ?_)
      refine SatD.eff 7 (by kernel_rfl) rfl rfl (OpW.enter rfl rfl rfl (rfl) (fol_ref _ (hS.ownOf (by repeat constructor))) ?_)
      rintro r4 w4 ⟨rfl, h⟩
      replace hS := hS.callR (A := [(r, C 37 (rc d))]) (by repeat constructor) h
      refine keepS (hS.sb (by repeat constructor)) (fun hD => ?_)
      refine SatD.take 8 rfl [] (by kernel_rfl) (fun _ _ _ h => h) rfl rfl hD (fun _ hw => RunV.eql rfl rfl) ?_
      refine SatD.take 9 rfl [] (by kernel_rfl) (fun _ _ _ h => h) rfl rfl hD (fun _ hw => RunV.assign rfl) ?_
      refine SatD.done 0 (by kernel_rfl) (SatE.thenC ?_)
      clear hD
      refine SatC.ret (SatE.blk_ret (SatE.then_ret ?_))
      refine SatE.ret1 rfl rfl ?_
      subst h2
      exact ⟨rfl, hS.sel (R := [(b, C 49 (hc f (folC c n))), (r, C 37 (rc (folC d n)))]) (by repeat constructor)⟩
    · (try simp only [cx, ne_eq] at h2)
      try (exfalso; (first | omega | exact h2 trivial | contradiction); done)
      all_goals
      refine SatC.seq ?_
      refine SatC.region ?_
      refine SatL.pu (RunV.eql rfl rfl) rfl ?_
      refine SatL.pu (RunV.assign rfl) rfl ?_
      refine SatL.nil (SatE.thenC ?_)
      refine SatC.cond rfl (fun h3 => ?_) (fun h3 => ?_)
      · (try simp only [cx, ne_eq] at h3)
        try (exfalso; (first | omega | exact h3 trivial | contradiction); done)
        all_goals
        refine SatC.seq ?_
        refine SatC.region ?_
        refine SatL.pu (RunV.move rfl) rfl ?_
        first | refine SatL.pu (RunV.fieldAddrL rfl rfl rfl) rfl ?_ | refine SatL.pu (RunV.fieldAddr rfl rfl rfl) rfl ?_
        refine SatL.pu (RunV.load1 hS rfl rfl (by repeat constructor) rfl) rfl ?_
        refine SatL.pu (RunV.rem rfl rfl (by first | decide | omega) rfl) rfl ?_
        refine SatL.pu (RunV.neq rfl rfl) rfl ?_
        refine SatL.op rfl (OpW.enter rfl rfl rfl (rfl) (maint_any _ (hS.ownOf (by repeat constructor)) hk) ?_)
        rintro r2 w2 h
        replace hS := hS.callR (A := [(b, C 49 (hc f c))]) (by repeat constructor) h
        refine SatL.nil (SatE.thenC ?_)
        refine SatC.weak (e' := [(1, _), (5, _), (6, _)]) (by repeat constructor) ?_
        refine SatC.region ?_
        refine SatL.pu (RunV.move rfl) rfl ?_
        first | refine SatL.pu (RunV.fieldAddrL rfl rfl rfl) rfl ?_ | refine SatL.pu (RunV.fieldAddr rfl rfl rfl) rfl ?_
        refine SatL.pu (RunV.load1 hS rfl rfl (by repeat constructor) rfl) rfl ?_
        refine SatL.pu (RunV.rem rfl rfl (by first | decide | omega) rfl) rfl ?_
        refine SatL.pu (RunV.neq rfl rfl) rfl ?_
        first | refine SatL.pu (RunV.nil_ptr rfl) rfl ?_ | refine SatL.pu (RunV.nil_func rfl) rfl ?_ | refine SatL.pu (RunV.nil_yield rfl) rfl ?_
        first | refine SatL.pu (RunV.fieldAddrL rfl rfl rfl) rfl ?_ | refine SatL.pu (RunV.fieldAddr rfl rfl rfl) rfl ?_
        refine SatL.op rfl (OpW.store hS rfl rfl (by repeat constructor) (by repeat constructor) (by repeat constructor) rfl rfl ?_)
        clear hS
        intro w3 hS
        refine SatL.nil (SatE.blk_normal (SatE.thenC ?_))
        refine SatC.seq ?_
        refine SatC.region ?_
        refine SatL.pu (RunV.assign rfl) rfl ?_
        refine SatL.nil (SatE.thenC ?_)
        refine SatC.ret ?_
        refine SatE.ret1 rfl rfl ?_
        subst h3
        exact ⟨rfl, hS.sel (R := [(b, C 49 (hc f (mtC c n))), (r, C 37 (rc (mtC d n)))]) (by repeat constructor)⟩
      · (try simp only [cx, ne_eq] at h3)
        try (exfalso; (first | omega | exact h3 trivial | contradiction); done)
        all_goals
        refine SatC.seq ?_
        refine SatC.region ?_
        refine SatL.pu (RunV.eql rfl rfl) rfl ?_
        refine SatL.pu (RunV.assign rfl) rfl ?_
        refine SatL.nil (SatE.thenC ?_)
        refine SatC.cond rfl (fun h4 => ?_) (fun h4 => ?_)
        · (try simp only [cx, ne_eq] at h4)
          try (exfalso; (first | omega | exact h4 trivial | contradiction); done)
          all_goals
          refine SatC.seq ?_
          refine SatC.weak (e' := [(0, _), (1, _), (6, _)]) (by repeat constructor) ?_
          refine SatC.region ?_
          refine SatL.pu (RunV.move rfl) rfl ?_
          refine SatL.op rfl (OpW.enter rfl rfl rfl (rfl) (tick_any (hS.ownOf (by repeat constructor)) hk hb) ?_)
          rintro r2 w2 ⟨rfl, h⟩
          replace hS := hS.callR (A := [(b, C 49 (hc f c))]) (by repeat constructor) h
          refine SatL.pu (RunV.move rfl) rfl ?_
          refine SatL.op rfl (OpW.enter rfl rfl rfl (rfl) (tick_ref (hS.ownOf (by repeat constructor)) hd) ?_)
          rintro r3 w3 ⟨rfl, h⟩
          replace hS := hS.callR (A := [(r, C 37 (rc d))]) (by repeat constructor) h
          refine SatL.pu (RunV.beql rfl rfl rfl) rfl ?_
          refine SatL.pu (RunV.assign rfl) rfl ?_
          refine SatL.nil (SatE.thenC ?_)
          refine SatC.ret (SatE.blk_ret (SatE.then_ret ?_))
          refine SatE.ret1 rfl rfl ?_
          subst h4
          exact ⟨rfl, hS.sel (R := [(b, C 49 (hc f (tickC c))), (r, C 37 (rc (tickC d)))]) (by repeat constructor)⟩
        · (try simp only [cx, ne_eq] at h4)
          try (exfalso; (first | omega | exact h4 trivial | contradiction); done)
          all_goals
          refine SatC.skip (SatE.blk_normal (SatE.thenC ?_))
          refine SatC.seq ?_
          refine SatC.weak (e' := [(6, _)]) (by repeat constructor) ?_
          refine SatC.region ?_
          refine SatL.pu (RunV.assign rfl) rfl ?_
          refine SatL.nil (SatE.thenC ?_)
          refine SatC.ret ?_
          refine SatE.ret1 rfl rfl ?_
          have e1 : stepA c d k n = true := by rw [stepA, if_neg h1, if_neg h2, if_neg h3, if_neg h4]
          have e2 : stepC c k n = c := by rw [stepC, if_neg h1, if_neg h2, if_neg h3, if_neg h4]
          have e3 : stepC d k n = d := by rw [stepC, if_neg h1, if_neg h2, if_neg h3, if_neg h4]
          rw [e1, e2, e3]
          exact ⟨rfl, hS.sel (R := [(b, C 49 (hc f c)), (r, C 37 (rc d))]) (by repeat constructor)⟩
end
@[reducible] def c0 : Ck := ⟨⟨2, 0, 2, 2, [], 0⟩, 2, 0, 0, 0, 0, false⟩
theorem c0_ok : Pok c0.p := by decide
theorem c0_1 : toldC c0 0 = { c0 with good := 1 } := by rw [toldC, if_neg (by decide), if_neg (by decide), cntC, if_pos rfl, if_neg (by decide)]; rfl
theorem c0_2 : toldC { c0 with good := 1 } 0 = { c0 with good := 2, bare := 0 } := by rw [toldC, if_neg (by decide), if_neg (by decide), cntC, if_pos rfl, if_pos (by decide)]; rfl
theorem works_any (w : World) : Ret Try.prog 11 #[] w fun v w' => v = .bool true ∧ St w [] [] w' := by
  have hS := St.init0 w
  refine Ret.enter Try.func11 Try.ntmps11 rfl rfl ?_
  simp only [argEnv, Nat.reduceAdd]
  have hb0 : Bd 1000000 c0 := by unfold Bd; decide
  have hb1 : Bd 1000000 { c0 with good := 1 } := by unfold Bd; decide
  refine SatC.seq ?_
  refine SatC.region ?_
  refine SatL.pu (RunV.assign rfl) rfl ?_
  refine SatL.nil (SatE.thenC ?_)
  refine SatC.seq ?_
  refine SatC.region ?_
  refine SatL.pu (RunV.build rfl (by simp [go_sem]; try rfl)) rfl ?_
  refine SatL.op rfl (OpW.enter rfl rfl rfl (rfl) (new_any c0.p _ c0_ok) ?_)
  rintro r1 w1 ⟨b, rfl, h⟩
  replace hS := hS.call0 h
  refine SatL.pu (RunV.move rfl) rfl ?_
  refine SatL.pu (RunV.extract rfl rfl) rfl ?_
  refine SatL.pu (RunV.extract rfl rfl) rfl ?_
  refine SatL.pu (RunV.assign rfl) rfl ?_
  refine SatL.pu (RunV.assign rfl) rfl ?_
  refine SatL.nil (SatE.thenC ?_)
  refine SatC.seq ?_
  refine SatC.region ?_
  refine SatL.pu (RunV.move rfl) rfl ?_
  refine SatL.op rfl (OpW.enter rfl rfl rfl (rfl) (told_any 0 rfl (c := c0) (hS.ownOf (by repeat constructor)) (by decide) hb0) ?_)
  rintro r2 w2 ⟨rfl, h⟩
  replace hS := hS.callR (A := [(b, C 49 (hc (fv c0) c0))]) (by repeat constructor) h
  rw [c0_1] at hS
  refine SatL.pu (RunV.assign rfl) rfl ?_
  refine SatL.nil (SatE.thenC ?_)
  refine SatC.seq ?_
  refine SatC.region ?_
  refine SatL.pu (RunV.move rfl) rfl ?_
  refine SatL.op rfl (OpW.enter rfl rfl rfl (rfl) (stat_any (c := { c0 with good := 1 }) (hS.ownOf (by repeat constructor)) (by decide)) ?_)
  rintro r3 w3 ⟨rfl, h⟩
  replace hS := St.callN hS h
  refine SatL.pu (RunV.assign rfl) rfl ?_
  refine SatL.nil (SatE.thenC ?_)
  refine SatC.seq ?_
  refine SatC.region ?_
  refine SatL.pu (RunV.move rfl) rfl ?_
  refine SatL.op rfl (OpW.enter rfl rfl rfl (rfl) (told_any 0 rfl (c := { c0 with good := 1 }) (hS.ownOf (by repeat constructor)) (by decide) hb1) ?_)
  rintro r4 w4 ⟨rfl, h⟩
  replace hS := hS.callR (A := [(b, C 49 (hc (fv c0) { c0 with good := 1 }))]) (by repeat constructor) h
  rw [c0_2] at hS
  refine SatL.pu (RunV.assign rfl) rfl ?_
  refine SatL.nil (SatE.thenC ?_)
  refine SatC.seq ?_
  refine SatC.region ?_
  refine SatL.pu (RunV.move rfl) rfl ?_
  refine SatL.pu (RunV.eql rfl rfl) rfl ?_
  refine SatL.pu (RunV.move rfl) rfl ?_
  refine SatL.guard rfl rfl rfl (fun h1 => ?_) (fun h1 => ?_)
  · (try simp only [cx, ne_eq] at h1)
    try (exfalso; (first | omega | exact h1 trivial | contradiction); done)
    all_goals
    refine SatL.pu (RunV.move rfl) rfl ?_
    refine SatL.guard_y rfl rfl ?_
    refine SatL.pu (RunV.eql rfl rfl) rfl ?_
    refine SatL.pu (RunV.pick_t rfl rfl) rfl ?_
    refine SatL.pu (RunV.move rfl) rfl ?_
    refine SatL.guard rfl rfl rfl (fun h2 => ?_) (fun h2 => ?_)
    · (try simp only [cx, ne_eq] at h2)
      try (exfalso; (first | omega | exact h2 trivial | contradiction); done)
      all_goals
      refine SatL.pu (RunV.move rfl) rfl ?_
      refine SatL.guard_y rfl rfl ?_
      refine SatL.pu (RunV.eql rfl rfl) rfl ?_
      refine SatL.pu (RunV.pick_t rfl rfl) rfl ?_
      refine SatL.pu (RunV.move rfl) rfl ?_
      refine SatL.guard rfl rfl rfl (fun h3 => ?_) (fun h3 => ?_)
      · (try simp only [cx, ne_eq] at h3)
        try (exfalso; (first | omega | exact h3 trivial | contradiction); done)
        all_goals
        refine SatL.pu (RunV.move rfl) rfl ?_
        refine SatL.guard_y rfl rfl ?_
        refine SatL.pu (RunV.eql rfl rfl) rfl ?_
        refine SatL.pu (RunV.pick_t rfl rfl) rfl ?_
        refine SatL.pu (RunV.move rfl) rfl ?_
        refine SatL.guard rfl rfl rfl (fun h4 => ?_) (fun h4 => ?_)
        · (try simp only [cx, ne_eq] at h4)
          try (exfalso; (first | omega | exact h4 trivial | contradiction); done)
          all_goals
          refine SatL.pu (RunV.move rfl) rfl ?_
          refine SatL.guard_y rfl rfl ?_
          refine SatL.op rfl (OpW.enter rfl rfl rfl (rfl) (stat_any (c := { c0 with good := 2, bare := 0 }) (hS.ownOf (by repeat constructor)) (by decide)) ?_)
          rintro r5 w5 ⟨rfl, h⟩
          replace hS := St.callN hS h
          refine SatL.guard_y rfl rfl ?_
          refine SatL.pu (RunV.eql rfl rfl) rfl ?_
          refine SatL.pu (RunV.pick_t rfl rfl) rfl ?_
          refine SatL.pu (RunV.assign rfl) rfl ?_
          refine SatL.nil (SatE.thenC ?_)
          refine SatC.ret ?_
          refine SatE.ret1 rfl rfl ?_
          exact ⟨rfl, hS.sub (List.nil_sublist _)⟩
        · (try simp only [cx, ne_eq] at h4)
          try (exfalso; (first | omega | exact h4 trivial | contradiction); done)
          all_goals
          refine SatL.guard_n rfl rfl rfl rfl ?_
          refine SatL.guard_n rfl rfl rfl rfl ?_
          refine SatL.pu (RunV.pick_f rfl rfl) rfl ?_
          refine SatL.pu (RunV.assign rfl) rfl ?_
          refine SatL.nil (SatE.thenC ?_)
          refine SatC.ret ?_
          refine SatE.ret1 rfl rfl ?_
          exact ⟨rfl, hS.sub (List.nil_sublist _)⟩
      · (try simp only [cx, ne_eq] at h3)
        try (exfalso; (first | omega | exact h3 trivial | contradiction); done)
        all_goals
        refine SatL.guard_n rfl rfl rfl rfl ?_
        refine SatL.pu (RunV.pick_f rfl rfl) rfl ?_
        refine SatL.pu (RunV.move rfl) rfl ?_
        refine SatL.guard_n rfl rfl rfl rfl ?_
        refine SatL.guard_n rfl rfl rfl rfl ?_
        refine SatL.guard_n rfl rfl rfl rfl ?_
        refine SatL.pu (RunV.pick_f rfl rfl) rfl ?_
        refine SatL.pu (RunV.assign rfl) rfl ?_
        refine SatL.nil (SatE.thenC ?_)
        refine SatC.ret ?_
        refine SatE.ret1 rfl rfl ?_
        exact ⟨rfl, hS.sub (List.nil_sublist _)⟩
    · (try simp only [cx, ne_eq] at h2)
      try (exfalso; (first | omega | exact h2 trivial | contradiction); done)
      all_goals
      refine SatL.guard_n rfl rfl rfl rfl ?_
      refine SatL.pu (RunV.pick_f rfl rfl) rfl ?_
      refine SatL.pu (RunV.move rfl) rfl ?_
      refine SatL.guard_n rfl rfl rfl rfl ?_
      refine SatL.guard_n rfl rfl rfl rfl ?_
      refine SatL.pu (RunV.pick_f rfl rfl) rfl ?_
      refine SatL.pu (RunV.move rfl) rfl ?_
      refine SatL.guard_n rfl rfl rfl rfl ?_
      refine SatL.guard_n rfl rfl rfl rfl ?_
      refine SatL.guard_n rfl rfl rfl rfl ?_
      refine SatL.pu (RunV.pick_f rfl rfl) rfl ?_
      refine SatL.pu (RunV.assign rfl) rfl ?_
      refine SatL.nil (SatE.thenC ?_)
      refine SatC.ret ?_
      refine SatE.ret1 rfl rfl ?_
      exact ⟨rfl, hS.sub (List.nil_sublist _)⟩
  · (try simp only [cx, ne_eq] at h1)
    try (exfalso; (first | omega | exact h1 trivial | contradiction); done)
    all_goals
    refine SatL.guard_n rfl rfl rfl rfl ?_
    refine SatL.pu (RunV.pick_f rfl rfl) rfl ?_
    refine SatL.pu (RunV.move rfl) rfl ?_
    refine SatL.guard_n rfl rfl rfl rfl ?_
    refine SatL.guard_n rfl rfl rfl rfl ?_
    refine SatL.pu (RunV.pick_f rfl rfl) rfl ?_
    refine SatL.pu (RunV.move rfl) rfl ?_
    refine SatL.guard_n rfl rfl rfl rfl ?_
    refine SatL.guard_n rfl rfl rfl rfl ?_
    refine SatL.pu (RunV.pick_f rfl rfl) rfl ?_
    refine SatL.pu (RunV.move rfl) rfl ?_
    refine SatL.guard_n rfl rfl rfl rfl ?_
    refine SatL.guard_n rfl rfl rfl rfl ?_
    refine SatL.guard_n rfl rfl rfl rfl ?_
    refine SatL.pu (RunV.pick_f rfl rfl) rfl ?_
    refine SatL.pu (RunV.assign rfl) rfl ?_
    refine SatL.nil (SatE.thenC ?_)
    refine SatC.ret ?_
    refine SatE.ret1 rfl rfl ?_
    exact ⟨rfl, hS.sub (List.nil_sublist _)⟩
end Go.Proofs.Ytomdccdffennfaa
