/- WheelPlays: whatever is set, stopped and ticked, the wheel answers as the document says. -/
import Derived.Test.YtabladeenemfoaaRc
import Derived.Test.YtabladeenemfoaaK7
import Derived.Test.YtabladeenemfoaaU
import Derived.Test.YtabladeenemfoaaK16
import Derived.Test.YtabladeenemfoaaK25
import Derived.Test.YtabladeenemfoaaRows
set_option linter.unusedSimpArgs false
set_option linter.unusedVariables false
set_option maxRecDepth 100000
set_option maxHeartbeats 16000000
namespace Go.Proofs.Ytabladeenemfoaa
open Go.RowKit Go.ChangeShapes Go.WideShapes Go.ChangeAt
@[reducible] def opr (x : Int × Int × Int) : List Value := [.int .i64 x.1, .int .i64 x.2.1, .int .i64 x.2.2]
theorem pack {b m b6 rb i : Nat} {y : Int × Int × Int} {W : Wl} {L RB : List (Nat × Obj)} {rv : Value} {l : List (Int × Nat)} {w w' : World} (hn : W.now ≤ 300 * (i + 1)) (hk : Wk b m W L) (hrel : Rel W l) (hsl : Sl 64 2 rv (l.map pw) RB) (hS : St w [] (L ++ ((b6, C 31 (opr y)) :: RO rb W.now rv RB)) w') :
    ∃ W L rv RB l, W.now ≤ 300 * (i + 1) ∧ Wk b m W L ∧ Rel W l ∧ Sl 64 2 rv (l.map pw) RB ∧ St w [] (L ++ ((b6, C 31 (opr y)) :: RO rb W.now rv RB)) w' := ⟨W, L, rv, RB, l, hn, hk, hrel, hsl, hS⟩
theorem plays_any (v : Value) (ys : List (Int × Int × Int)) (w : World) (hr : RdRow w v 3 (ys.map opr)) : Ret Try.prog 5 #[v] w fun v w' => v = .bool true ∧ St w [] [] w' := by
  have hS := St.init0 w
  obtain ⟨bl, ol, cl, hvl, hmaxl, hcl, hltl⟩ := hr.open
  simp only [List.length_map] at hvl hmaxl
  refine Ret.enter Try.func5 Try.ntmps5 rfl rfl ?_
  simp only [argEnv, Nat.reduceAdd]
  refine SatC.seq ?_
  refine SatC.region ?_
  refine SatL.pu (RunV.assign rfl) rfl ?_
  refine SatL.nil (SatE.thenC ?_)
  refine SatC.seq ?_
  refine SatC.region ?_
  refine SatL.op rfl (OpW.enter rfl rfl rfl (rfl) (new_k _) ?_)
  rintro r1 w1 ⟨b, m, L0, rfl, hk0, h⟩
  replace hS := hS.callT (A := []) .nil h
  rw [List.append_nil] at hS
  refine SatL.pu (RunV.assign rfl) rfl ?_
  refine SatL.nil (SatE.thenC ?_)
  refine SatC.seq ?_
  refine SatC.region ?_
  refine SatL.pu (RunV.build rfl (by simp [go_sem]; try rfl)) rfl ?_
  refine SatL.op rfl (OpW.box hS rfl rfl (by repeat constructor) ?_)
  clear hS
  intro b10 w2 _ hS
  refine SatL.pu (RunV.assign rfl) rfl ?_
  refine SatL.nil (SatE.thenC ?_)
  refine SatC.seq ?_
  refine SatC.seq ?_
  refine SatC.region ?_
  refine SatL.pu (RunV.assign rfl) rfl ?_
  refine SatL.nil (SatE.thenC ?_)
  refine SatC.block ?_
  refine SatC.loopK (G := Nat × Wl × List (Nat × Obj) × Value × List (Nat × Obj) × List (Int × Nat)) (V := fun ⟨i, W1, L1, rv, RB, l⟩ => [(5, .int .i64 (i : Int))]) (Cn := [(0, _), (3, _), (4, _), (2, _)]) (I := fun ⟨i, W1, L1, rv, RB, l⟩ w' => i ≤ ys.length ∧ i ≤ 60 ∧ W1.now ≤ 300 * i ∧ Wk b m W1 L1 ∧ Rel W1 l ∧ Sl 64 2 rv (l.map pw) RB ∧ St w [] (L1 ++ RO b10 W1.now rv RB) w') (μ := fun ⟨i, W1, L1, rv, RB, l⟩ => ys.length - i) (0, w0, L0, .slice none 0 0, [], []) ?_ (by repeat constructor) ?_
  · exact ⟨by omega, by omega, Nat.zero_le _, hk0, rel_new, .nil, hS.sel (by repeat constructor)⟩
  clear hS
  rintro ⟨i, W1, L1, rv, RB, l⟩ w3 ⟨hi, hi6, hn1, hk1, hrel1, hsl1, hS⟩
  refine SatC.weak (e' := [(0, _), (2, _), (3, _), (4, _), (5, _)]) (by repeat constructor) ?_
  refine SatC.seq ?_
  refine SatC.seq ?_
  refine SatC.region ?_
  refine SatL.pu (RunV.move rfl) rfl ?_
  refine SatL.pu (RunV.move rfl) rfl ?_
  first | refine SatL.pu (RunV.lenR (by assumption) rfl rfl) rfl ?_ | refine SatL.pu (RunV.lenS rfl rfl) rfl ?_
  refine SatL.pu (RunV.lss rfl rfl) rfl ?_
  refine SatL.pu (RunV.move rfl) rfl ?_
  refine SatL.guard rfl rfl rfl (fun h1 => ?_) (fun h1 => ?_)
  · (try simp only [cx, ne_eq] at h1)
    try (exfalso; (first | omega | exact h1 trivial | contradiction | (first | omega | exact absurd rfl h1 | (simp at h1; done))); done)
    all_goals
    refine SatL.pu (RunV.move rfl) rfl ?_
    refine SatL.guard_y rfl rfl ?_
    refine SatL.pu (RunV.lss rfl rfl) rfl ?_
    refine SatL.pu (RunV.pick_t rfl rfl) rfl ?_
    refine SatL.nil (SatE.thenC ?_)
    refine SatC.cond rfl (fun h2 => ?_) (fun h2 => ?_)
    · (try simp only [cx, ne_eq] at h2)
      try (exfalso; (first | omega | exact h2 trivial | contradiction | (first | omega | exact absurd rfl h2 | (simp at h2; done))); done)
      all_goals
      refine SatC.skip (SatE.thenC ?_)
      refine SatC.seq ?_
      refine SatC.block ?_
      refine SatC.seq ?_
      obtain ⟨y, hy⟩ := get_some ys i (by omega)
      have hll := hrel1.len
      have hfew := hk1.few
      refine SatC.region ?_
      refine SatL.pu (RunV.move rfl) rfl ?_
      refine SatL.pu (RunV.move rfl) rfl ?_
      first | refine SatL.pu (RunV.indexR (by assumption) rfl rfl rfl (by omega) (by omega) rfl) rfl ?_ | refine SatL.pu (RunV.indexS rfl rfl rfl (by omega) (by omega) rfl) rfl ?_
      refine SatL.pu (RunV.loadRNz (RdC.st hcl hS List.not_mem_nil) rfl rfl (map_get hy)) rfl ?_
      refine SatL.op rfl (OpW.alloc hS rfl rfl (by repeat constructor) ?_)
      clear hS
      intro b6 w4 _ hS
      refine SatL.op rfl (OpW.store hS rfl rfl (by repeat constructor) (by repeat constructor) (by repeat constructor) rfl rfl ?_)
      clear hS
      intro w5 hS
      refine SatL.nil (SatE.thenC ?_)
      refine SatC.seq ?_
      refine SatC.seq ?_
      refine SatC.weak (e' := [(0, _), (2, _), (3, _), (4, _), (5, _), (6, _)]) (by repeat constructor) ?_
      refine SatC.region ?_
      first | refine SatL.pu (RunV.fieldAddrL rfl rfl rfl) rfl ?_ | refine SatL.pu (RunV.fieldAddr rfl rfl rfl) rfl ?_
      refine SatL.pu (RunV.load1 hS rfl rfl (by repeat constructor) rfl) rfl ?_
      refine SatL.nil (SatE.thenC ?_)
      refine SatC.block ?_
      refine SatC.seq ?_
      refine SatC.region ?_
      refine SatL.pu (RunV.eql rfl rfl) rfl ?_
      refine SatL.pu (RunV.assign rfl) rfl ?_
      refine SatL.nil (SatE.thenC ?_)
      refine SatC.cond rfl (fun h3 => ?_) (fun h3 => ?_)
      · (try simp only [cx, ne_eq] at h3)
        try (exfalso; (first | omega | exact h3 trivial | contradiction | (first | omega | exact absurd rfl h3 | (simp at h3; done))); done)
        all_goals
        refine SatC.seq ?_
        refine SatC.drawnT 13 hS (hS.sel (R := [(b6, C 31 (opr y))]) (by repeat constructor)) (by kernel_rfl) ?_
        clear hS
        intro w6 hh hS hD
        refine SatD.tk 0 rfl hD (fun _ hw => RunV.move rfl) ?_
        first | refine SatD.tk 1 rfl hD (fun _ hw => RunV.fieldAddrL rfl rfl rfl) ?_ | refine SatD.tk 1 rfl hD (fun _ hw => RunV.fieldAddr rfl rfl rfl) ?_
        refine SatD.tk 2 rfl hD (fun _ hw => RunV.load1 hw rfl rfl (by repeat constructor) rfl) ?_
        first | refine SatD.tk 3 rfl hD (fun _ hw => RunV.fieldAddrL rfl rfl rfl) ?_ | refine SatD.tk 3 rfl hD (fun _ hw => RunV.fieldAddr rfl rfl rfl) ?_
        refine SatD.tk 4 rfl hD (fun _ hw => RunV.load1 hw rfl rfl (by repeat constructor) rfl) ?_
        refine SatD.tk 6 rfl hD (fun _ hw => RunV.move rfl) ?_
        first | refine SatD.tk 7 rfl hD (fun _ hw => RunV.fieldAddrL rfl rfl rfl) ?_ | refine SatD.tk 7 rfl hD (fun _ hw => RunV.fieldAddr rfl rfl rfl) ?_
        first | refine SatD.tk 9 rfl hD (fun _ hw => RunV.fieldAddrL rfl rfl rfl) ?_ | refine SatD.tk 9 rfl hD (fun _ hw => RunV.fieldAddr rfl rfl rfl) ?_
        refine SatD.effs [5, 8, 10] (by kernel_rfl) ⟨⟨_, rfl, rfl, OpW.enter rfl rfl rfl (rfl) (set_k y.2.1 y.2.2 (by omega) hk1 (hS.ownT (A := L1) (by repeat constructor))) ?_⟩, ⟨_, rfl, rfl, OpW.pure (RunV.load1 hS rfl rfl (by repeat constructor) rfl) rfl ?_⟩, ⟨_, rfl, rfl, OpW.pure (RunV.load1 hS rfl rfl (by repeat constructor) rfl) rfl ?_⟩, trivial⟩
        · skip
          rintro r7 w7 ⟨rfl, L2, hk2, hn2, h⟩
          replace hS := hS.callT (A := L1) (by repeat constructor) h
          refine keepS (hS.sel (by repeat constructor)) (fun hD => ?_)
          refine SatD.effs [8, 10] (by kernel_rfl) ⟨⟨_, rfl, rfl, OpW.pure (RunV.load1 hS rfl rfl (by repeat constructor) rfl) rfl ?_⟩, ⟨_, rfl, rfl, OpW.pure (RunV.load1 hS rfl rfl (by repeat constructor) rfl) rfl ?_⟩, trivial⟩
          · skip
            refine keepS (hS.sel (by repeat constructor)) (fun hD => ?_)
            refine SatD.ef 10 rfl (OpW.pure (RunV.load1 hS rfl rfl (by repeat constructor) rfl) rfl ?_)
            refine keepS (hS.sel (by repeat constructor)) (fun hD => ?_)
            refine SatD.ef 11 rfl (OpW.enter rfl rfl rfl (rfl) (rset_any y.2.1 y.2.2 hsl1 (by omega) (by omega) (hS.ownT (A := RO b10 W1.now rv RB) (by repeat constructor))) ?_)
            rintro r10 w10 ⟨rfl, rv2, RB2, hsl2, h⟩
            replace hS := hS.callT (A := RO b10 W1.now rv RB) (by repeat constructor) h
            rw [show decide (rokP l y.2.1 y.2.2) = decide (setOk W1 y.2.1 y.2.2) from decide_eq_decide.2 (hrel1.ok hk1.inv _ _)]
            rw [← hn2] at hS
            have hrel2 := hrel1.set hk1.inv y.2.1 y.2.2
            refine keepS (hS.sel (by repeat constructor)) (fun hD => ?_)
            refine SatD.tk 12 rfl hD (fun _ hw => RunV.bneq rfl rfl rfl) ?_
            refine SatD.done 0 (by kernel_rfl) (SatE.thenC ?_)
            clear hD
            refine SatC.weak (e' := [(0, _), (2, _), (3, _), (4, _), (5, _), (6, _), (41, _)]) (by repeat constructor) ?_
            refine SatC.cond rfl (fun h4 => ?_) (fun h4 => ?_)
            · (try simp only [cx, ne_eq] at h4)
              try (exfalso; (first | omega | exact h4 trivial | contradiction | (first | omega | exact absurd rfl h4 | (simp at h4; done))); done)
              all_goals
              refine SatC.seq ?_
              refine SatC.region ?_
              refine SatL.pu (RunV.assign rfl) rfl ?_
              refine SatL.nil (SatE.thenC ?_)
              refine SatC.ret (SatE.blk_ret (SatE.then_ret (SatE.blk_ret (SatE.then_ret (SatE.then_ret (SatE.blk_ret (SatE.then_ret ?_)))))))
              refine SatE.ret1 rfl rfl ?_
              exact ⟨rfl, hS.sel .nil⟩
            · (try simp only [cx, ne_eq] at h4)
              try (exfalso; (first | omega | exact h4 trivial | contradiction | (first | omega | exact absurd rfl h4 | (simp at h4; done))); done)
              all_goals
              refine SatC.skip (SatE.blk_normal (SatE.thenC ?_))
              refine SatC.seq ?_
              first
              | (revert hk2; intro hk2; obtain ⟨W9, L9, rv9, RB9, l9, hn9, hk9, hrel9, hsl9, hS⟩ := pack (i := i) (b6 := b6) (rb := b10) (y := y) (by omega) hk2 hrel2 hsl2 (hS.sel (by repeat constructor)))
              | obtain ⟨W9, L9, rv9, RB9, l9, hn9, hk9, hrel9, hsl9, hS⟩ := pack (i := i) (b6 := b6) (rb := b10) (y := y) (by omega) hk1 hrel1 hsl1 (hS.sel (by repeat constructor))
              refine SatC.region ?_
              refine SatL.pu (RunV.move rfl) rfl ?_
              refine SatL.pu (RunV.move rfl) rfl ?_
              first | refine SatL.pu (RunV.fieldAddrL rfl rfl rfl) rfl ?_ | refine SatL.pu (RunV.fieldAddr rfl rfl rfl) rfl ?_
              refine SatL.pu (RunV.load1 hS rfl rfl (by repeat constructor) rfl) rfl ?_
              refine SatL.op rfl (OpW.enter rfl rfl rfl (rfl) (looks_any y.2.1 (by omega) hk9 hrel9 hsl9 (hS.ownT (A := L9 ++ RO b10 W9.now rv9 RB9) (by repeat constructor))) ?_)
              rintro r11 w11 ⟨rfl, h⟩
              replace hS := St.callN hS h
              refine SatL.pu (RunV.not rfl) rfl ?_
              refine SatL.nil (SatE.thenC ?_)
              refine SatC.cond rfl (fun h5 => ?_) (fun h5 => ?_)
              · (try simp only [cx, ne_eq] at h5)
                try (exfalso; (first | omega | exact h5 trivial | contradiction | (first | omega | exact absurd rfl h5 | (simp at h5; done))); done)
                all_goals
                refine SatC.seq ?_
                refine SatC.region ?_
                refine SatL.pu (RunV.assign rfl) rfl ?_
                refine SatL.nil (SatE.thenC ?_)
                refine SatC.ret (SatE.blk_ret (SatE.then_ret (SatE.then_ret (SatE.blk_ret (SatE.then_ret ?_)))))
                refine SatE.ret1 rfl rfl ?_
                exact ⟨rfl, hS.sel .nil⟩
              · (try simp only [cx, ne_eq] at h5)
                try (exfalso; (first | omega | exact h5 trivial | contradiction | (first | omega | exact absurd rfl h5 | (simp at h5; done))); done)
                all_goals
                refine SatC.skip (SatE.blk_normal (SatE.thenC ?_))
                refine SatC.region ?_
                refine SatL.pu (RunV.move rfl) rfl ?_
                refine SatL.pu (RunV.add rfl rfl (by first | exact wrapI64 (by omega) | rfl)) rfl ?_
                refine SatL.pu (RunV.assign rfl) rfl ?_
                refine SatL.nil ?_
                refine SatE.again ((i + 1, W9, L9, rv9, RB9, l9)) ?_ (by first | omega | (dsimp only; omega)) (by repeat constructor)
                exact ⟨by omega, by omega, hn9, hk9, hrel9, hsl9, hS.sel (by repeat constructor)⟩
          · skip
            refine keepS (hS.sel (by repeat constructor)) (fun hD => ?_)
            refine SatD.ef 8 rfl (OpW.pure (RunV.load1 hS rfl rfl (by repeat constructor) rfl) rfl ?_)
            refine keepS (hS.sel (by repeat constructor)) (fun hD => ?_)
            refine SatD.ef 11 rfl (OpW.enter rfl rfl rfl (rfl) (rset_any y.2.1 y.2.2 hsl1 (by omega) (by omega) (hS.ownT (A := RO b10 W1.now rv RB) (by repeat constructor))) ?_)
            rintro r10 w10 ⟨rfl, rv2, RB2, hsl2, h⟩
            replace hS := hS.callT (A := RO b10 W1.now rv RB) (by repeat constructor) h
            rw [show decide (rokP l y.2.1 y.2.2) = decide (setOk W1 y.2.1 y.2.2) from decide_eq_decide.2 (hrel1.ok hk1.inv _ _)]
            rw [← hn2] at hS
            have hrel2 := hrel1.set hk1.inv y.2.1 y.2.2
            refine keepS (hS.sel (by repeat constructor)) (fun hD => ?_)
            refine SatD.tk 12 rfl hD (fun _ hw => RunV.bneq rfl rfl rfl) ?_
            refine SatD.done 0 (by kernel_rfl) (SatE.thenC ?_)
            clear hD
            refine SatC.weak (e' := [(0, _), (2, _), (3, _), (4, _), (5, _), (6, _), (41, _)]) (by repeat constructor) ?_
            refine SatC.cond rfl (fun h4 => ?_) (fun h4 => ?_)
            · (try simp only [cx, ne_eq] at h4)
              try (exfalso; (first | omega | exact h4 trivial | contradiction | (first | omega | exact absurd rfl h4 | (simp at h4; done))); done)
              all_goals
              refine SatC.seq ?_
              refine SatC.region ?_
              refine SatL.pu (RunV.assign rfl) rfl ?_
              refine SatL.nil (SatE.thenC ?_)
              refine SatC.ret (SatE.blk_ret (SatE.then_ret (SatE.blk_ret (SatE.then_ret (SatE.then_ret (SatE.blk_ret (SatE.then_ret ?_)))))))
              refine SatE.ret1 rfl rfl ?_
              exact ⟨rfl, hS.sel .nil⟩
            · (try simp only [cx, ne_eq] at h4)
              try (exfalso; (first | omega | exact h4 trivial | contradiction | (first | omega | exact absurd rfl h4 | (simp at h4; done))); done)
              all_goals
              refine SatC.skip (SatE.blk_normal (SatE.thenC ?_))
              refine SatC.seq ?_
              first
              | (revert hk2; intro hk2; obtain ⟨W9, L9, rv9, RB9, l9, hn9, hk9, hrel9, hsl9, hS⟩ := pack (i := i) (b6 := b6) (rb := b10) (y := y) (by omega) hk2 hrel2 hsl2 (hS.sel (by repeat constructor)))
              | obtain ⟨W9, L9, rv9, RB9, l9, hn9, hk9, hrel9, hsl9, hS⟩ := pack (i := i) (b6 := b6) (rb := b10) (y := y) (by omega) hk1 hrel1 hsl1 (hS.sel (by repeat constructor))
              refine SatC.region ?_
              refine SatL.pu (RunV.move rfl) rfl ?_
              refine SatL.pu (RunV.move rfl) rfl ?_
              first | refine SatL.pu (RunV.fieldAddrL rfl rfl rfl) rfl ?_ | refine SatL.pu (RunV.fieldAddr rfl rfl rfl) rfl ?_
              refine SatL.pu (RunV.load1 hS rfl rfl (by repeat constructor) rfl) rfl ?_
              refine SatL.op rfl (OpW.enter rfl rfl rfl (rfl) (looks_any y.2.1 (by omega) hk9 hrel9 hsl9 (hS.ownT (A := L9 ++ RO b10 W9.now rv9 RB9) (by repeat constructor))) ?_)
              rintro r11 w11 ⟨rfl, h⟩
              replace hS := St.callN hS h
              refine SatL.pu (RunV.not rfl) rfl ?_
              refine SatL.nil (SatE.thenC ?_)
              refine SatC.cond rfl (fun h5 => ?_) (fun h5 => ?_)
              · (try simp only [cx, ne_eq] at h5)
                try (exfalso; (first | omega | exact h5 trivial | contradiction | (first | omega | exact absurd rfl h5 | (simp at h5; done))); done)
                all_goals
                refine SatC.seq ?_
                refine SatC.region ?_
                refine SatL.pu (RunV.assign rfl) rfl ?_
                refine SatL.nil (SatE.thenC ?_)
                refine SatC.ret (SatE.blk_ret (SatE.then_ret (SatE.then_ret (SatE.blk_ret (SatE.then_ret ?_)))))
                refine SatE.ret1 rfl rfl ?_
                exact ⟨rfl, hS.sel .nil⟩
              · (try simp only [cx, ne_eq] at h5)
                try (exfalso; (first | omega | exact h5 trivial | contradiction | (first | omega | exact absurd rfl h5 | (simp at h5; done))); done)
                all_goals
                refine SatC.skip (SatE.blk_normal (SatE.thenC ?_))
                refine SatC.region ?_
                refine SatL.pu (RunV.move rfl) rfl ?_
                refine SatL.pu (RunV.add rfl rfl (by first | exact wrapI64 (by omega) | rfl)) rfl ?_
                refine SatL.pu (RunV.assign rfl) rfl ?_
                refine SatL.nil ?_
                refine SatE.again ((i + 1, W9, L9, rv9, RB9, l9)) ?_ (by first | omega | (dsimp only; omega)) (by repeat constructor)
                exact ⟨by omega, by omega, hn9, hk9, hrel9, hsl9, hS.sel (by repeat constructor)⟩
        · skip
          refine keepS (hS.sel (by repeat constructor)) (fun hD => ?_)
          refine SatD.effs [5, 10] (by kernel_rfl) ⟨⟨_, rfl, rfl, OpW.enter rfl rfl rfl (rfl) (set_k y.2.1 y.2.2 (by omega) hk1 (hS.ownT (A := L1) (by repeat constructor))) ?_⟩, ⟨_, rfl, rfl, OpW.pure (RunV.load1 hS rfl rfl (by repeat constructor) rfl) rfl ?_⟩, trivial⟩
          · skip
            rintro r8 w8 ⟨rfl, L2, hk2, hn2, h⟩
            replace hS := hS.callT (A := L1) (by repeat constructor) h
            refine keepS (hS.sel (by repeat constructor)) (fun hD => ?_)
            refine SatD.ef 10 rfl (OpW.pure (RunV.load1 hS rfl rfl (by repeat constructor) rfl) rfl ?_)
            refine keepS (hS.sel (by repeat constructor)) (fun hD => ?_)
            refine SatD.ef 11 rfl (OpW.enter rfl rfl rfl (rfl) (rset_any y.2.1 y.2.2 hsl1 (by omega) (by omega) (hS.ownT (A := RO b10 W1.now rv RB) (by repeat constructor))) ?_)
            rintro r10 w10 ⟨rfl, rv2, RB2, hsl2, h⟩
            replace hS := hS.callT (A := RO b10 W1.now rv RB) (by repeat constructor) h
            rw [show decide (rokP l y.2.1 y.2.2) = decide (setOk W1 y.2.1 y.2.2) from decide_eq_decide.2 (hrel1.ok hk1.inv _ _)]
            rw [← hn2] at hS
            have hrel2 := hrel1.set hk1.inv y.2.1 y.2.2
            refine keepS (hS.sel (by repeat constructor)) (fun hD => ?_)
            refine SatD.tk 12 rfl hD (fun _ hw => RunV.bneq rfl rfl rfl) ?_
            refine SatD.done 0 (by kernel_rfl) (SatE.thenC ?_)
            clear hD
            refine SatC.weak (e' := [(0, _), (2, _), (3, _), (4, _), (5, _), (6, _), (41, _)]) (by repeat constructor) ?_
            refine SatC.cond rfl (fun h4 => ?_) (fun h4 => ?_)
            · (try simp only [cx, ne_eq] at h4)
              try (exfalso; (first | omega | exact h4 trivial | contradiction | (first | omega | exact absurd rfl h4 | (simp at h4; done))); done)
              all_goals
              refine SatC.seq ?_
              refine SatC.region ?_
              refine SatL.pu (RunV.assign rfl) rfl ?_
              refine SatL.nil (SatE.thenC ?_)
              refine SatC.ret (SatE.blk_ret (SatE.then_ret (SatE.blk_ret (SatE.then_ret (SatE.then_ret (SatE.blk_ret (SatE.then_ret ?_)))))))
              refine SatE.ret1 rfl rfl ?_
              exact ⟨rfl, hS.sel .nil⟩
            · (try simp only [cx, ne_eq] at h4)
              try (exfalso; (first | omega | exact h4 trivial | contradiction | (first | omega | exact absurd rfl h4 | (simp at h4; done))); done)
              all_goals
              refine SatC.skip (SatE.blk_normal (SatE.thenC ?_))
              refine SatC.seq ?_
              first
              | (revert hk2; intro hk2; obtain ⟨W9, L9, rv9, RB9, l9, hn9, hk9, hrel9, hsl9, hS⟩ := pack (i := i) (b6 := b6) (rb := b10) (y := y) (by omega) hk2 hrel2 hsl2 (hS.sel (by repeat constructor)))
              | obtain ⟨W9, L9, rv9, RB9, l9, hn9, hk9, hrel9, hsl9, hS⟩ := pack (i := i) (b6 := b6) (rb := b10) (y := y) (by omega) hk1 hrel1 hsl1 (hS.sel (by repeat constructor))
              refine SatC.region ?_
              refine SatL.pu (RunV.move rfl) rfl ?_
              refine SatL.pu (RunV.move rfl) rfl ?_
              first | refine SatL.pu (RunV.fieldAddrL rfl rfl rfl) rfl ?_ | refine SatL.pu (RunV.fieldAddr rfl rfl rfl) rfl ?_
              refine SatL.pu (RunV.load1 hS rfl rfl (by repeat constructor) rfl) rfl ?_
              refine SatL.op rfl (OpW.enter rfl rfl rfl (rfl) (looks_any y.2.1 (by omega) hk9 hrel9 hsl9 (hS.ownT (A := L9 ++ RO b10 W9.now rv9 RB9) (by repeat constructor))) ?_)
              rintro r11 w11 ⟨rfl, h⟩
              replace hS := St.callN hS h
              refine SatL.pu (RunV.not rfl) rfl ?_
              refine SatL.nil (SatE.thenC ?_)
              refine SatC.cond rfl (fun h5 => ?_) (fun h5 => ?_)
              · (try simp only [cx, ne_eq] at h5)
                try (exfalso; (first | omega | exact h5 trivial | contradiction | (first | omega | exact absurd rfl h5 | (simp at h5; done))); done)
                all_goals
                refine SatC.seq ?_
                refine SatC.region ?_
                refine SatL.pu (RunV.assign rfl) rfl ?_
                refine SatL.nil (SatE.thenC ?_)
                refine SatC.ret (SatE.blk_ret (SatE.then_ret (SatE.then_ret (SatE.blk_ret (SatE.then_ret ?_)))))
                refine SatE.ret1 rfl rfl ?_
                exact ⟨rfl, hS.sel .nil⟩
              · (try simp only [cx, ne_eq] at h5)
                try (exfalso; (first | omega | exact h5 trivial | contradiction | (first | omega | exact absurd rfl h5 | (simp at h5; done))); done)
                all_goals
                refine SatC.skip (SatE.blk_normal (SatE.thenC ?_))
                refine SatC.region ?_
                refine SatL.pu (RunV.move rfl) rfl ?_
                refine SatL.pu (RunV.add rfl rfl (by first | exact wrapI64 (by omega) | rfl)) rfl ?_
                refine SatL.pu (RunV.assign rfl) rfl ?_
                refine SatL.nil ?_
                refine SatE.again ((i + 1, W9, L9, rv9, RB9, l9)) ?_ (by first | omega | (dsimp only; omega)) (by repeat constructor)
                exact ⟨by omega, by omega, hn9, hk9, hrel9, hsl9, hS.sel (by repeat constructor)⟩
          · skip
            refine keepS (hS.sel (by repeat constructor)) (fun hD => ?_)
            refine SatD.ef 5 rfl (OpW.enter rfl rfl rfl (rfl) (set_k y.2.1 y.2.2 (by omega) hk1 (hS.ownT (A := L1) (by repeat constructor))) ?_)
            rintro r9 w9 ⟨rfl, L2, hk2, hn2, h⟩
            replace hS := hS.callT (A := L1) (by repeat constructor) h
            refine keepS (hS.sel (by repeat constructor)) (fun hD => ?_)
            refine SatD.ef 11 rfl (OpW.enter rfl rfl rfl (rfl) (rset_any y.2.1 y.2.2 hsl1 (by omega) (by omega) (hS.ownT (A := RO b10 W1.now rv RB) (by repeat constructor))) ?_)
            rintro r10 w10 ⟨rfl, rv2, RB2, hsl2, h⟩
            replace hS := hS.callT (A := RO b10 W1.now rv RB) (by repeat constructor) h
            rw [show decide (rokP l y.2.1 y.2.2) = decide (setOk W1 y.2.1 y.2.2) from decide_eq_decide.2 (hrel1.ok hk1.inv _ _)]
            rw [← hn2] at hS
            have hrel2 := hrel1.set hk1.inv y.2.1 y.2.2
            refine keepS (hS.sel (by repeat constructor)) (fun hD => ?_)
            refine SatD.tk 12 rfl hD (fun _ hw => RunV.bneq rfl rfl rfl) ?_
            refine SatD.done 0 (by kernel_rfl) (SatE.thenC ?_)
            clear hD
            refine SatC.weak (e' := [(0, _), (2, _), (3, _), (4, _), (5, _), (6, _), (41, _)]) (by repeat constructor) ?_
            refine SatC.cond rfl (fun h4 => ?_) (fun h4 => ?_)
            · (try simp only [cx, ne_eq] at h4)
              try (exfalso; (first | omega | exact h4 trivial | contradiction | (first | omega | exact absurd rfl h4 | (simp at h4; done))); done)
              all_goals
              refine SatC.seq ?_
              refine SatC.region ?_
              refine SatL.pu (RunV.assign rfl) rfl ?_
              refine SatL.nil (SatE.thenC ?_)
              refine SatC.ret (SatE.blk_ret (SatE.then_ret (SatE.blk_ret (SatE.then_ret (SatE.then_ret (SatE.blk_ret (SatE.then_ret ?_)))))))
              refine SatE.ret1 rfl rfl ?_
              exact ⟨rfl, hS.sel .nil⟩
            · (try simp only [cx, ne_eq] at h4)
              try (exfalso; (first | omega | exact h4 trivial | contradiction | (first | omega | exact absurd rfl h4 | (simp at h4; done))); done)
              all_goals
              refine SatC.skip (SatE.blk_normal (SatE.thenC ?_))
              refine SatC.seq ?_
              first
              | (revert hk2; intro hk2; obtain ⟨W9, L9, rv9, RB9, l9, hn9, hk9, hrel9, hsl9, hS⟩ := pack (i := i) (b6 := b6) (rb := b10) (y := y) (by omega) hk2 hrel2 hsl2 (hS.sel (by repeat constructor)))
              | obtain ⟨W9, L9, rv9, RB9, l9, hn9, hk9, hrel9, hsl9, hS⟩ := pack (i := i) (b6 := b6) (rb := b10) (y := y) (by omega) hk1 hrel1 hsl1 (hS.sel (by repeat constructor))
              refine SatC.region ?_
              refine SatL.pu (RunV.move rfl) rfl ?_
              refine SatL.pu (RunV.move rfl) rfl ?_
              first | refine SatL.pu (RunV.fieldAddrL rfl rfl rfl) rfl ?_ | refine SatL.pu (RunV.fieldAddr rfl rfl rfl) rfl ?_
              refine SatL.pu (RunV.load1 hS rfl rfl (by repeat constructor) rfl) rfl ?_
              refine SatL.op rfl (OpW.enter rfl rfl rfl (rfl) (looks_any y.2.1 (by omega) hk9 hrel9 hsl9 (hS.ownT (A := L9 ++ RO b10 W9.now rv9 RB9) (by repeat constructor))) ?_)
              rintro r11 w11 ⟨rfl, h⟩
              replace hS := St.callN hS h
              refine SatL.pu (RunV.not rfl) rfl ?_
              refine SatL.nil (SatE.thenC ?_)
              refine SatC.cond rfl (fun h5 => ?_) (fun h5 => ?_)
              · (try simp only [cx, ne_eq] at h5)
                try (exfalso; (first | omega | exact h5 trivial | contradiction | (first | omega | exact absurd rfl h5 | (simp at h5; done))); done)
                all_goals
                refine SatC.seq ?_
                refine SatC.region ?_
                refine SatL.pu (RunV.assign rfl) rfl ?_
                refine SatL.nil (SatE.thenC ?_)
                refine SatC.ret (SatE.blk_ret (SatE.then_ret (SatE.then_ret (SatE.blk_ret (SatE.then_ret ?_)))))
                refine SatE.ret1 rfl rfl ?_
                exact ⟨rfl, hS.sel .nil⟩
              · (try simp only [cx, ne_eq] at h5)
                try (exfalso; (first | omega | exact h5 trivial | contradiction | (first | omega | exact absurd rfl h5 | (simp at h5; done))); done)
                all_goals
                refine SatC.skip (SatE.blk_normal (SatE.thenC ?_))
                refine SatC.region ?_
                refine SatL.pu (RunV.move rfl) rfl ?_
                refine SatL.pu (RunV.add rfl rfl (by first | exact wrapI64 (by omega) | rfl)) rfl ?_
                refine SatL.pu (RunV.assign rfl) rfl ?_
                refine SatL.nil ?_
                refine SatE.again ((i + 1, W9, L9, rv9, RB9, l9)) ?_ (by first | omega | (dsimp only; omega)) (by repeat constructor)
                exact ⟨by omega, by omega, hn9, hk9, hrel9, hsl9, hS.sel (by repeat constructor)⟩
        · skip
          refine keepS (hS.sel (by repeat constructor)) (fun hD => ?_)
          refine SatD.effs [5, 8] (by kernel_rfl) ⟨⟨_, rfl, rfl, OpW.enter rfl rfl rfl (rfl) (set_k y.2.1 y.2.2 (by omega) hk1 (hS.ownT (A := L1) (by repeat constructor))) ?_⟩, ⟨_, rfl, rfl, OpW.pure (RunV.load1 hS rfl rfl (by repeat constructor) rfl) rfl ?_⟩, trivial⟩
          · skip
            rintro r8 w8 ⟨rfl, L2, hk2, hn2, h⟩
            replace hS := hS.callT (A := L1) (by repeat constructor) h
            refine keepS (hS.sel (by repeat constructor)) (fun hD => ?_)
            refine SatD.ef 8 rfl (OpW.pure (RunV.load1 hS rfl rfl (by repeat constructor) rfl) rfl ?_)
            refine keepS (hS.sel (by repeat constructor)) (fun hD => ?_)
            refine SatD.ef 11 rfl (OpW.enter rfl rfl rfl (rfl) (rset_any y.2.1 y.2.2 hsl1 (by omega) (by omega) (hS.ownT (A := RO b10 W1.now rv RB) (by repeat constructor))) ?_)
            rintro r10 w10 ⟨rfl, rv2, RB2, hsl2, h⟩
            replace hS := hS.callT (A := RO b10 W1.now rv RB) (by repeat constructor) h
            rw [show decide (rokP l y.2.1 y.2.2) = decide (setOk W1 y.2.1 y.2.2) from decide_eq_decide.2 (hrel1.ok hk1.inv _ _)]
            rw [← hn2] at hS
            have hrel2 := hrel1.set hk1.inv y.2.1 y.2.2
            refine keepS (hS.sel (by repeat constructor)) (fun hD => ?_)
            refine SatD.tk 12 rfl hD (fun _ hw => RunV.bneq rfl rfl rfl) ?_
            refine SatD.done 0 (by kernel_rfl) (SatE.thenC ?_)
            clear hD
            refine SatC.weak (e' := [(0, _), (2, _), (3, _), (4, _), (5, _), (6, _), (41, _)]) (by repeat constructor) ?_
            refine SatC.cond rfl (fun h4 => ?_) (fun h4 => ?_)
            · (try simp only [cx, ne_eq] at h4)
              try (exfalso; (first | omega | exact h4 trivial | contradiction | (first | omega | exact absurd rfl h4 | (simp at h4; done))); done)
              all_goals
              refine SatC.seq ?_
              refine SatC.region ?_
              refine SatL.pu (RunV.assign rfl) rfl ?_
              refine SatL.nil (SatE.thenC ?_)
              refine SatC.ret (SatE.blk_ret (SatE.then_ret (SatE.blk_ret (SatE.then_ret (SatE.then_ret (SatE.blk_ret (SatE.then_ret ?_)))))))
              refine SatE.ret1 rfl rfl ?_
              exact ⟨rfl, hS.sel .nil⟩
            · (try simp only [cx, ne_eq] at h4)
              try (exfalso; (first | omega | exact h4 trivial | contradiction | (first | omega | exact absurd rfl h4 | (simp at h4; done))); done)
              all_goals
              refine SatC.skip (SatE.blk_normal (SatE.thenC ?_))
              refine SatC.seq ?_
              first
              | (revert hk2; intro hk2; obtain ⟨W9, L9, rv9, RB9, l9, hn9, hk9, hrel9, hsl9, hS⟩ := pack (i := i) (b6 := b6) (rb := b10) (y := y) (by omega) hk2 hrel2 hsl2 (hS.sel (by repeat constructor)))
              | obtain ⟨W9, L9, rv9, RB9, l9, hn9, hk9, hrel9, hsl9, hS⟩ := pack (i := i) (b6 := b6) (rb := b10) (y := y) (by omega) hk1 hrel1 hsl1 (hS.sel (by repeat constructor))
              refine SatC.region ?_
              refine SatL.pu (RunV.move rfl) rfl ?_
              refine SatL.pu (RunV.move rfl) rfl ?_
              first | refine SatL.pu (RunV.fieldAddrL rfl rfl rfl) rfl ?_ | refine SatL.pu (RunV.fieldAddr rfl rfl rfl) rfl ?_
              refine SatL.pu (RunV.load1 hS rfl rfl (by repeat constructor) rfl) rfl ?_
              refine SatL.op rfl (OpW.enter rfl rfl rfl (rfl) (looks_any y.2.1 (by omega) hk9 hrel9 hsl9 (hS.ownT (A := L9 ++ RO b10 W9.now rv9 RB9) (by repeat constructor))) ?_)
              rintro r11 w11 ⟨rfl, h⟩
              replace hS := St.callN hS h
              refine SatL.pu (RunV.not rfl) rfl ?_
              refine SatL.nil (SatE.thenC ?_)
              refine SatC.cond rfl (fun h5 => ?_) (fun h5 => ?_)
              · (try simp only [cx, ne_eq] at h5)
                try (exfalso; (first | omega | exact h5 trivial | contradiction | (first | omega | exact absurd rfl h5 | (simp at h5; done))); done)
                all_goals
                refine SatC.seq ?_
                refine SatC.region ?_
                refine SatL.pu (RunV.assign rfl) rfl ?_
                refine SatL.nil (SatE.thenC ?_)
                refine SatC.ret (SatE.blk_ret (SatE.then_ret (SatE.then_ret (SatE.blk_ret (SatE.then_ret ?_)))))
                refine SatE.ret1 rfl rfl ?_
                exact ⟨rfl, hS.sel .nil⟩
              · (try simp only [cx, ne_eq] at h5)
                try (exfalso; (first | omega | exact h5 trivial | contradiction | (first | omega | exact absurd rfl h5 | (simp at h5; done))); done)
                all_goals
                refine SatC.skip (SatE.blk_normal (SatE.thenC ?_))
                refine SatC.region ?_
                refine SatL.pu (RunV.move rfl) rfl ?_
                refine SatL.pu (RunV.add rfl rfl (by first | exact wrapI64 (by omega) | rfl)) rfl ?_
                refine SatL.pu (RunV.assign rfl) rfl ?_
                refine SatL.nil ?_
                refine SatE.again ((i + 1, W9, L9, rv9, RB9, l9)) ?_ (by first | omega | (dsimp only; omega)) (by repeat constructor)
                exact ⟨by omega, by omega, hn9, hk9, hrel9, hsl9, hS.sel (by repeat constructor)⟩
          · skip
            refine keepS (hS.sel (by repeat constructor)) (fun hD => ?_)
            refine SatD.ef 5 rfl (OpW.enter rfl rfl rfl (rfl) (set_k y.2.1 y.2.2 (by omega) hk1 (hS.ownT (A := L1) (by repeat constructor))) ?_)
            rintro r9 w9 ⟨rfl, L2, hk2, hn2, h⟩
            replace hS := hS.callT (A := L1) (by repeat constructor) h
            refine keepS (hS.sel (by repeat constructor)) (fun hD => ?_)
            refine SatD.ef 11 rfl (OpW.enter rfl rfl rfl (rfl) (rset_any y.2.1 y.2.2 hsl1 (by omega) (by omega) (hS.ownT (A := RO b10 W1.now rv RB) (by repeat constructor))) ?_)
            rintro r10 w10 ⟨rfl, rv2, RB2, hsl2, h⟩
            replace hS := hS.callT (A := RO b10 W1.now rv RB) (by repeat constructor) h
            rw [show decide (rokP l y.2.1 y.2.2) = decide (setOk W1 y.2.1 y.2.2) from decide_eq_decide.2 (hrel1.ok hk1.inv _ _)]
            rw [← hn2] at hS
            have hrel2 := hrel1.set hk1.inv y.2.1 y.2.2
            refine keepS (hS.sel (by repeat constructor)) (fun hD => ?_)
            refine SatD.tk 12 rfl hD (fun _ hw => RunV.bneq rfl rfl rfl) ?_
            refine SatD.done 0 (by kernel_rfl) (SatE.thenC ?_)
            clear hD
            refine SatC.weak (e' := [(0, _), (2, _), (3, _), (4, _), (5, _), (6, _), (41, _)]) (by repeat constructor) ?_
            refine SatC.cond rfl (fun h4 => ?_) (fun h4 => ?_)
            · (try simp only [cx, ne_eq] at h4)
              try (exfalso; (first | omega | exact h4 trivial | contradiction | (first | omega | exact absurd rfl h4 | (simp at h4; done))); done)
              all_goals
              refine SatC.seq ?_
              refine SatC.region ?_
              refine SatL.pu (RunV.assign rfl) rfl ?_
              refine SatL.nil (SatE.thenC ?_)
              refine SatC.ret (SatE.blk_ret (SatE.then_ret (SatE.blk_ret (SatE.then_ret (SatE.then_ret (SatE.blk_ret (SatE.then_ret ?_)))))))
              refine SatE.ret1 rfl rfl ?_
              exact ⟨rfl, hS.sel .nil⟩
            · (try simp only [cx, ne_eq] at h4)
              try (exfalso; (first | omega | exact h4 trivial | contradiction | (first | omega | exact absurd rfl h4 | (simp at h4; done))); done)
              all_goals
              refine SatC.skip (SatE.blk_normal (SatE.thenC ?_))
              refine SatC.seq ?_
              first
              | (revert hk2; intro hk2; obtain ⟨W9, L9, rv9, RB9, l9, hn9, hk9, hrel9, hsl9, hS⟩ := pack (i := i) (b6 := b6) (rb := b10) (y := y) (by omega) hk2 hrel2 hsl2 (hS.sel (by repeat constructor)))
              | obtain ⟨W9, L9, rv9, RB9, l9, hn9, hk9, hrel9, hsl9, hS⟩ := pack (i := i) (b6 := b6) (rb := b10) (y := y) (by omega) hk1 hrel1 hsl1 (hS.sel (by repeat constructor))
              refine SatC.region ?_
              refine SatL.pu (RunV.move rfl) rfl ?_
              refine SatL.pu (RunV.move rfl) rfl ?_
              first | refine SatL.pu (RunV.fieldAddrL rfl rfl rfl) rfl ?_ | refine SatL.pu (RunV.fieldAddr rfl rfl rfl) rfl ?_
              refine SatL.pu (RunV.load1 hS rfl rfl (by repeat constructor) rfl) rfl ?_
              refine SatL.op rfl (OpW.enter rfl rfl rfl (rfl) (looks_any y.2.1 (by omega) hk9 hrel9 hsl9 (hS.ownT (A := L9 ++ RO b10 W9.now rv9 RB9) (by repeat constructor))) ?_)
              rintro r11 w11 ⟨rfl, h⟩
              replace hS := St.callN hS h
              refine SatL.pu (RunV.not rfl) rfl ?_
              refine SatL.nil (SatE.thenC ?_)
              refine SatC.cond rfl (fun h5 => ?_) (fun h5 => ?_)
              · (try simp only [cx, ne_eq] at h5)
                try (exfalso; (first | omega | exact h5 trivial | contradiction | (first | omega | exact absurd rfl h5 | (simp at h5; done))); done)
                all_goals
                refine SatC.seq ?_
                refine SatC.region ?_
                refine SatL.pu (RunV.assign rfl) rfl ?_
                refine SatL.nil (SatE.thenC ?_)
                refine SatC.ret (SatE.blk_ret (SatE.then_ret (SatE.then_ret (SatE.blk_ret (SatE.then_ret ?_)))))
                refine SatE.ret1 rfl rfl ?_
                exact ⟨rfl, hS.sel .nil⟩
              · (try simp only [cx, ne_eq] at h5)
                try (exfalso; (first | omega | exact h5 trivial | contradiction | (first | omega | exact absurd rfl h5 | (simp at h5; done))); done)
                all_goals
                refine SatC.skip (SatE.blk_normal (SatE.thenC ?_))
                refine SatC.region ?_
                refine SatL.pu (RunV.move rfl) rfl ?_
                refine SatL.pu (RunV.add rfl rfl (by first | exact wrapI64 (by omega) | rfl)) rfl ?_
                refine SatL.pu (RunV.assign rfl) rfl ?_
                refine SatL.nil ?_
                refine SatE.again ((i + 1, W9, L9, rv9, RB9, l9)) ?_ (by first | omega | (dsimp only; omega)) (by repeat constructor)
                exact ⟨by omega, by omega, hn9, hk9, hrel9, hsl9, hS.sel (by repeat constructor)⟩
      · (try simp only [cx, ne_eq] at h3)
        try (exfalso; (first | omega | exact h3 trivial | contradiction | (first | omega | exact absurd rfl h3 | (simp at h3; done))); done)
        all_goals
        refine SatC.seq ?_
        refine SatC.region ?_
        refine SatL.pu (RunV.eql rfl rfl) rfl ?_
        refine SatL.pu (RunV.assign rfl) rfl ?_
        refine SatL.nil (SatE.thenC ?_)
        refine SatC.cond rfl (fun h4 => ?_) (fun h4 => ?_)
        · (try simp only [cx, ne_eq] at h4)
          try (exfalso; (first | omega | exact h4 trivial | contradiction | (first | omega | exact absurd rfl h4 | (simp at h4; done))); done)
          all_goals
          refine SatC.seq ?_
          refine SatC.drawnT 9 hS (hS.sel (R := [(b6, C 31 (opr y))]) (by repeat constructor)) (by kernel_rfl) ?_
          clear hS
          intro w6 hh hS hD
          refine SatD.tk 0 rfl hD (fun _ hw => RunV.move rfl) ?_
          first | refine SatD.tk 1 rfl hD (fun _ hw => RunV.fieldAddrL rfl rfl rfl) ?_ | refine SatD.tk 1 rfl hD (fun _ hw => RunV.fieldAddr rfl rfl rfl) ?_
          refine SatD.tk 2 rfl hD (fun _ hw => RunV.load1 hw rfl rfl (by repeat constructor) rfl) ?_
          refine SatD.tk 4 rfl hD (fun _ hw => RunV.move rfl) ?_
          first | refine SatD.tk 5 rfl hD (fun _ hw => RunV.fieldAddrL rfl rfl rfl) ?_ | refine SatD.tk 5 rfl hD (fun _ hw => RunV.fieldAddr rfl rfl rfl) ?_
          refine SatD.effs [3, 6] (by kernel_rfl) ⟨⟨_, rfl, rfl, OpW.enter rfl rfl rfl (rfl) (stop_k y.2.1 hk1 (hS.ownT (A := L1) (by repeat constructor))) ?_⟩, ⟨_, rfl, rfl, OpW.pure (RunV.load1 hS rfl rfl (by repeat constructor) rfl) rfl ?_⟩, trivial⟩
          · skip
            rintro r7 w7 ⟨rfl, L2, hk2, hn2, h⟩
            replace hS := hS.callT (A := L1) (by repeat constructor) h
            refine keepS (hS.sel (by repeat constructor)) (fun hD => ?_)
            refine SatD.ef 6 rfl (OpW.pure (RunV.load1 hS rfl rfl (by repeat constructor) rfl) rfl ?_)
            refine keepS (hS.sel (by repeat constructor)) (fun hD => ?_)
            refine SatD.ef 7 rfl (OpW.enter rfl rfl rfl (rfl) (rstop_any y.2.1 hsl1 (by omega) (hS.ownT (A := RO b10 W1.now rv RB) (by repeat constructor))) ?_)
            rintro r9 w9 ⟨rfl, rv2, RB2, hsl2, h⟩
            replace hS := hS.callT (A := RO b10 W1.now rv RB) (by repeat constructor) h
            rw [hrel1.has hk1.inv y.2.1]
            rw [← hn2] at hS
            have hrel2 := hrel1.stop hk1.inv y.2.1
            refine keepS (hS.sel (by repeat constructor)) (fun hD => ?_)
            refine SatD.tk 8 rfl hD (fun _ hw => RunV.bneq rfl rfl rfl) ?_
            refine SatD.done 0 (by kernel_rfl) (SatE.thenC ?_)
            clear hD
            refine SatC.weak (e' := [(0, _), (2, _), (3, _), (4, _), (5, _), (6, _), (52, _)]) (by repeat constructor) ?_
            refine SatC.cond rfl (fun h5 => ?_) (fun h5 => ?_)
            · (try simp only [cx, ne_eq] at h5)
              try (exfalso; (first | omega | exact h5 trivial | contradiction | (first | omega | exact absurd rfl h5 | (simp at h5; done))); done)
              all_goals
              refine SatC.seq ?_
              refine SatC.region ?_
              refine SatL.pu (RunV.assign rfl) rfl ?_
              refine SatL.nil (SatE.thenC ?_)
              refine SatC.ret (SatE.blk_ret (SatE.then_ret (SatE.blk_ret (SatE.then_ret (SatE.then_ret (SatE.blk_ret (SatE.then_ret ?_)))))))
              refine SatE.ret1 rfl rfl ?_
              exact ⟨rfl, hS.sel .nil⟩
            · (try simp only [cx, ne_eq] at h5)
              try (exfalso; (first | omega | exact h5 trivial | contradiction | (first | omega | exact absurd rfl h5 | (simp at h5; done))); done)
              all_goals
              refine SatC.skip (SatE.blk_normal (SatE.thenC ?_))
              refine SatC.seq ?_
              first
              | (revert hk2; intro hk2; obtain ⟨W9, L9, rv9, RB9, l9, hn9, hk9, hrel9, hsl9, hS⟩ := pack (i := i) (b6 := b6) (rb := b10) (y := y) (by omega) hk2 hrel2 hsl2 (hS.sel (by repeat constructor)))
              | obtain ⟨W9, L9, rv9, RB9, l9, hn9, hk9, hrel9, hsl9, hS⟩ := pack (i := i) (b6 := b6) (rb := b10) (y := y) (by omega) hk1 hrel1 hsl1 (hS.sel (by repeat constructor))
              refine SatC.region ?_
              refine SatL.pu (RunV.move rfl) rfl ?_
              refine SatL.pu (RunV.move rfl) rfl ?_
              first | refine SatL.pu (RunV.fieldAddrL rfl rfl rfl) rfl ?_ | refine SatL.pu (RunV.fieldAddr rfl rfl rfl) rfl ?_
              refine SatL.pu (RunV.load1 hS rfl rfl (by repeat constructor) rfl) rfl ?_
              refine SatL.op rfl (OpW.enter rfl rfl rfl (rfl) (looks_any y.2.1 (by omega) hk9 hrel9 hsl9 (hS.ownT (A := L9 ++ RO b10 W9.now rv9 RB9) (by repeat constructor))) ?_)
              rintro r10 w10 ⟨rfl, h⟩
              replace hS := St.callN hS h
              refine SatL.pu (RunV.not rfl) rfl ?_
              refine SatL.nil (SatE.thenC ?_)
              refine SatC.cond rfl (fun h6 => ?_) (fun h6 => ?_)
              · (try simp only [cx, ne_eq] at h6)
                try (exfalso; (first | omega | exact h6 trivial | contradiction | (first | omega | exact absurd rfl h6 | (simp at h6; done))); done)
                all_goals
                refine SatC.seq ?_
                refine SatC.region ?_
                refine SatL.pu (RunV.assign rfl) rfl ?_
                refine SatL.nil (SatE.thenC ?_)
                refine SatC.ret (SatE.blk_ret (SatE.then_ret (SatE.then_ret (SatE.blk_ret (SatE.then_ret ?_)))))
                refine SatE.ret1 rfl rfl ?_
                exact ⟨rfl, hS.sel .nil⟩
              · (try simp only [cx, ne_eq] at h6)
                try (exfalso; (first | omega | exact h6 trivial | contradiction | (first | omega | exact absurd rfl h6 | (simp at h6; done))); done)
                all_goals
                refine SatC.skip (SatE.blk_normal (SatE.thenC ?_))
                refine SatC.region ?_
                refine SatL.pu (RunV.move rfl) rfl ?_
                refine SatL.pu (RunV.add rfl rfl (by first | exact wrapI64 (by omega) | rfl)) rfl ?_
                refine SatL.pu (RunV.assign rfl) rfl ?_
                refine SatL.nil ?_
                refine SatE.again ((i + 1, W9, L9, rv9, RB9, l9)) ?_ (by first | omega | (dsimp only; omega)) (by repeat constructor)
                exact ⟨by omega, by omega, hn9, hk9, hrel9, hsl9, hS.sel (by repeat constructor)⟩
          · skip
            refine keepS (hS.sel (by repeat constructor)) (fun hD => ?_)
            refine SatD.ef 3 rfl (OpW.enter rfl rfl rfl (rfl) (stop_k y.2.1 hk1 (hS.ownT (A := L1) (by repeat constructor))) ?_)
            rintro r8 w8 ⟨rfl, L2, hk2, hn2, h⟩
            replace hS := hS.callT (A := L1) (by repeat constructor) h
            refine keepS (hS.sel (by repeat constructor)) (fun hD => ?_)
            refine SatD.ef 7 rfl (OpW.enter rfl rfl rfl (rfl) (rstop_any y.2.1 hsl1 (by omega) (hS.ownT (A := RO b10 W1.now rv RB) (by repeat constructor))) ?_)
            rintro r9 w9 ⟨rfl, rv2, RB2, hsl2, h⟩
            replace hS := hS.callT (A := RO b10 W1.now rv RB) (by repeat constructor) h
            rw [hrel1.has hk1.inv y.2.1]
            rw [← hn2] at hS
            have hrel2 := hrel1.stop hk1.inv y.2.1
            refine keepS (hS.sel (by repeat constructor)) (fun hD => ?_)
            refine SatD.tk 8 rfl hD (fun _ hw => RunV.bneq rfl rfl rfl) ?_
            refine SatD.done 0 (by kernel_rfl) (SatE.thenC ?_)
            clear hD
            refine SatC.weak (e' := [(0, _), (2, _), (3, _), (4, _), (5, _), (6, _), (52, _)]) (by repeat constructor) ?_
            refine SatC.cond rfl (fun h5 => ?_) (fun h5 => ?_)
            · (try simp only [cx, ne_eq] at h5)
              try (exfalso; (first | omega | exact h5 trivial | contradiction | (first | omega | exact absurd rfl h5 | (simp at h5; done))); done)
              all_goals
              refine SatC.seq ?_
              refine SatC.region ?_
              refine SatL.pu (RunV.assign rfl) rfl ?_
              refine SatL.nil (SatE.thenC ?_)
              refine SatC.ret (SatE.blk_ret (SatE.then_ret (SatE.blk_ret (SatE.then_ret (SatE.then_ret (SatE.blk_ret (SatE.then_ret ?_)))))))
              refine SatE.ret1 rfl rfl ?_
              exact ⟨rfl, hS.sel .nil⟩
            · (try simp only [cx, ne_eq] at h5)
              try (exfalso; (first | omega | exact h5 trivial | contradiction | (first | omega | exact absurd rfl h5 | (simp at h5; done))); done)
              all_goals
              refine SatC.skip (SatE.blk_normal (SatE.thenC ?_))
              refine SatC.seq ?_
              first
              | (revert hk2; intro hk2; obtain ⟨W9, L9, rv9, RB9, l9, hn9, hk9, hrel9, hsl9, hS⟩ := pack (i := i) (b6 := b6) (rb := b10) (y := y) (by omega) hk2 hrel2 hsl2 (hS.sel (by repeat constructor)))
              | obtain ⟨W9, L9, rv9, RB9, l9, hn9, hk9, hrel9, hsl9, hS⟩ := pack (i := i) (b6 := b6) (rb := b10) (y := y) (by omega) hk1 hrel1 hsl1 (hS.sel (by repeat constructor))
              refine SatC.region ?_
              refine SatL.pu (RunV.move rfl) rfl ?_
              refine SatL.pu (RunV.move rfl) rfl ?_
              first | refine SatL.pu (RunV.fieldAddrL rfl rfl rfl) rfl ?_ | refine SatL.pu (RunV.fieldAddr rfl rfl rfl) rfl ?_
              refine SatL.pu (RunV.load1 hS rfl rfl (by repeat constructor) rfl) rfl ?_
              refine SatL.op rfl (OpW.enter rfl rfl rfl (rfl) (looks_any y.2.1 (by omega) hk9 hrel9 hsl9 (hS.ownT (A := L9 ++ RO b10 W9.now rv9 RB9) (by repeat constructor))) ?_)
              rintro r10 w10 ⟨rfl, h⟩
              replace hS := St.callN hS h
              refine SatL.pu (RunV.not rfl) rfl ?_
              refine SatL.nil (SatE.thenC ?_)
              refine SatC.cond rfl (fun h6 => ?_) (fun h6 => ?_)
              · (try simp only [cx, ne_eq] at h6)
                try (exfalso; (first | omega | exact h6 trivial | contradiction | (first | omega | exact absurd rfl h6 | (simp at h6; done))); done)
                all_goals
                refine SatC.seq ?_
                refine SatC.region ?_
                refine SatL.pu (RunV.assign rfl) rfl ?_
                refine SatL.nil (SatE.thenC ?_)
                refine SatC.ret (SatE.blk_ret (SatE.then_ret (SatE.then_ret (SatE.blk_ret (SatE.then_ret ?_)))))
                refine SatE.ret1 rfl rfl ?_
                exact ⟨rfl, hS.sel .nil⟩
              · (try simp only [cx, ne_eq] at h6)
                try (exfalso; (first | omega | exact h6 trivial | contradiction | (first | omega | exact absurd rfl h6 | (simp at h6; done))); done)
                all_goals
                refine SatC.skip (SatE.blk_normal (SatE.thenC ?_))
                refine SatC.region ?_
                refine SatL.pu (RunV.move rfl) rfl ?_
                refine SatL.pu (RunV.add rfl rfl (by first | exact wrapI64 (by omega) | rfl)) rfl ?_
                refine SatL.pu (RunV.assign rfl) rfl ?_
                refine SatL.nil ?_
                refine SatE.again ((i + 1, W9, L9, rv9, RB9, l9)) ?_ (by first | omega | (dsimp only; omega)) (by repeat constructor)
                exact ⟨by omega, by omega, hn9, hk9, hrel9, hsl9, hS.sel (by repeat constructor)⟩
        · (try simp only [cx, ne_eq] at h4)
          try (exfalso; (first | omega | exact h4 trivial | contradiction | (first | omega | exact absurd rfl h4 | (simp at h4; done))); done)
          all_goals
          refine SatC.seq ?_
          refine SatC.region ?_
          refine SatL.pu (RunV.eql rfl rfl) rfl ?_
          refine SatL.pu (RunV.assign rfl) rfl ?_
          refine SatL.nil (SatE.thenC ?_)
          refine SatC.cond rfl (fun h5 => ?_) (fun h5 => ?_)
          · (try simp only [cx, ne_eq] at h5)
            try (exfalso; (first | omega | exact h5 trivial | contradiction | (first | omega | exact absurd rfl h5 | (simp at h5; done))); done)
            all_goals
            refine SatC.seq ?_
            refine SatC.region ?_
            refine SatL.pu (RunV.assign rfl) rfl ?_
            refine SatL.nil (SatE.thenC ?_)
            refine SatC.block ?_
            refine SatC.loopK (G := Nat × Wl × List (Nat × Obj) × Value × List (Nat × Obj) × List (Int × Nat)) (V := fun ⟨j, W2, L2, rv2, RB2, l2⟩ => [(7, .int .i64 (j : Int))]) (Cn := [(0, _), (3, _), (4, _), (5, _), (6, _), (2, _)]) (I := fun ⟨j, W2, L2, rv2, RB2, l2⟩ w' => j ≤ 300 ∧ W2.now ≤ 300 * i + j ∧ Wk b m W2 L2 ∧ Rel W2 l2 ∧ Sl 64 2 rv2 (l2.map pw) RB2 ∧ St w [] (L2 ++ ((b6, C 31 (opr y)) :: RO b10 W2.now rv2 RB2)) w') (μ := fun ⟨j, W2, L2, rv2, RB2, l2⟩ => 300 - j) (0, W1, L1, rv, RB, l) ?_ (by repeat constructor) ?_
            · exact ⟨by omega, by omega, hk1, hrel1, hsl1, hS.sel (by repeat constructor)⟩
            clear hS
            rintro ⟨j, W2, L2, rv2, RB2, l2⟩ w6 ⟨hj, hn2, hk2, hrel2, hsl2, hS⟩
            refine SatC.weak (e' := [(0, _), (2, _), (3, _), (4, _), (5, _), (6, _), (7, _)]) (by repeat constructor) ?_
            refine SatC.seq ?_
            refine SatC.seq ?_
            refine SatC.region ?_
            refine SatL.pu (RunV.move rfl) rfl ?_
            first | refine SatL.pu (RunV.fieldAddrL rfl rfl rfl) rfl ?_ | refine SatL.pu (RunV.fieldAddr rfl rfl rfl) rfl ?_
            refine SatL.pu (RunV.load1 hS rfl rfl (by repeat constructor) rfl) rfl ?_
            refine SatL.op rfl (OpW.enter rfl rfl rfl (rfl) (many_any _ _) ?_)
            rintro r7 w7 ⟨⟨q, rfl, hq, _⟩, h⟩
            replace hS := St.callN hS h
            refine SatL.pu (RunV.lss rfl rfl) rfl ?_
            refine SatL.nil (SatE.thenC ?_)
            refine SatC.cond rfl (fun h6 => ?_) (fun h6 => ?_)
            · (try simp only [cx, ne_eq] at h6)
              try (exfalso; (first | omega | exact h6 trivial | contradiction | (first | omega | exact absurd rfl h6 | (simp at h6; done))); done)
              all_goals
              refine SatC.skip (SatE.thenC ?_)
              refine SatC.seq ?_
              refine SatC.block ?_
              refine SatC.seq ?_
              have hll2 := hrel2.len
              have hfew2 := hk2.few
              obtain ⟨hrel3, hout3⟩ := hrel2.tick hk2.inv
              have hld2 := hrel2.due hk2.inv (by omega)
              refine SatC.region ?_
              refine SatL.pu (RunV.move rfl) rfl ?_
              refine SatL.op rfl (OpW.enter rfl rfl rfl (rfl) (tick_k (by omega) hk2 (hS.ownT (A := L2) (by repeat constructor))) ?_)
              rintro r8 w8 ⟨AB, L3, hab, hal, hk3, hn3, h⟩
              replace hS := hS.callT (A := L2) (by repeat constructor) h
              simp only [List.append_assoc] at hS
              refine SatL.pu (RunV.move rfl) rfl ?_
              refine SatL.op rfl (OpW.enter rfl rfl rfl (rfl) (rtick_any hsl2 (by omega) (by omega) hld2 (hS.ownT (A := RO b10 W2.now rv2 RB2) (by repeat constructor))) ?_)
              rintro r9 w9 ⟨rv3, RB3, D3, hd3, hsl3, h⟩
              replace hS := hS.callT (A := RO b10 W2.now rv2 RB2) (by repeat constructor) h
              simp only [List.append_assoc] at hS
              rw [← hout3] at hd3
              rw [← hn3] at hS hsl3 hrel3
              refine SatL.op rfl (OpW.enter rfl rfl rfl (rfl) (same_any hab hd3 (by omega) (hS.ownT (A := AB ++ D3) (by repeat constructor))) ?_)
              rintro r10 w10 ⟨rfl, h⟩
              replace hS := St.callN hS h
              refine SatL.pu (RunV.not rfl) rfl ?_
              refine SatL.nil (SatE.thenC ?_)
              refine SatC.cond rfl (fun h7 => ?_) (fun h7 => ?_)
              · (try simp only [cx, ne_eq] at h7)
                try (exfalso; (first | omega | exact h7 trivial | contradiction | (first | omega | exact absurd rfl h7 | (simp at h7; done))); done)
                all_goals
                refine SatC.seq ?_
                refine SatC.region ?_
                refine SatL.pu (RunV.assign rfl) rfl ?_
                refine SatL.nil (SatE.thenC ?_)
                refine SatC.ret (SatE.blk_ret (SatE.then_ret (SatE.then_ret (SatE.blk_ret (SatE.blk_ret (SatE.then_ret (SatE.blk_ret (SatE.then_ret (SatE.then_ret (SatE.blk_ret (SatE.then_ret ?_)))))))))))
                refine SatE.ret1 rfl rfl ?_
                exact ⟨rfl, hS.sel .nil⟩
              · (try simp only [cx, ne_eq] at h7)
                try (exfalso; (first | omega | exact h7 trivial | contradiction | (first | omega | exact absurd rfl h7 | (simp at h7; done))); done)
                all_goals
                refine SatC.skip (SatE.blk_normal (SatE.thenC ?_))
                refine SatC.region ?_
                refine SatL.pu (RunV.move rfl) rfl ?_
                refine SatL.pu (RunV.add rfl rfl (by first | exact wrapI64 (by omega) | rfl)) rfl ?_
                refine SatL.pu (RunV.assign rfl) rfl ?_
                refine SatL.nil ?_
                refine SatE.again ((j + 1, (aTick W2).1, L3, rv3, RB3, notP l2 (aTick W2).1.now)) ?_ (by first | omega | (dsimp only; omega)) (by repeat constructor)
                exact ⟨by omega, by omega, hk3, hrel3, hsl3, hS.sel (by repeat constructor)⟩
            · (try simp only [cx, ne_eq] at h6)
              try (exfalso; (first | omega | exact h6 trivial | contradiction | (first | omega | exact absurd rfl h6 | (simp at h6; done))); done)
              all_goals
              refine SatC.exit (SatE.then_exit (SatE.then_exit (SatE.blk_exit (SatE.blk_normal (SatE.thenC ?_)))))
              refine SatC.seq ?_
              first
              | (revert hk2; intro hk2; obtain ⟨W9, L9, rv9, RB9, l9, hn9, hk9, hrel9, hsl9, hS⟩ := pack (i := i) (b6 := b6) (rb := b10) (y := y) (by omega) hk2 hrel2 hsl2 (hS.sel (by repeat constructor)))
              | obtain ⟨W9, L9, rv9, RB9, l9, hn9, hk9, hrel9, hsl9, hS⟩ := pack (i := i) (b6 := b6) (rb := b10) (y := y) (by omega) hk1 hrel1 hsl1 (hS.sel (by repeat constructor))
              refine SatC.region ?_
              refine SatL.pu (RunV.move rfl) rfl ?_
              refine SatL.pu (RunV.move rfl) rfl ?_
              first | refine SatL.pu (RunV.fieldAddrL rfl rfl rfl) rfl ?_ | refine SatL.pu (RunV.fieldAddr rfl rfl rfl) rfl ?_
              refine SatL.pu (RunV.load1 hS rfl rfl (by repeat constructor) rfl) rfl ?_
              refine SatL.op rfl (OpW.enter rfl rfl rfl (rfl) (looks_any y.2.1 (by omega) hk9 hrel9 hsl9 (hS.ownT (A := L9 ++ RO b10 W9.now rv9 RB9) (by repeat constructor))) ?_)
              rintro r8 w8 ⟨rfl, h⟩
              replace hS := St.callN hS h
              refine SatL.pu (RunV.not rfl) rfl ?_
              refine SatL.nil (SatE.thenC ?_)
              refine SatC.weak (e' := [(0, _), (2, _), (3, _), (4, _), (5, _), (73, _)]) (by repeat constructor) ?_
              refine SatC.cond rfl (fun h7 => ?_) (fun h7 => ?_)
              · (try simp only [cx, ne_eq] at h7)
                try (exfalso; (first | omega | exact h7 trivial | contradiction | (first | omega | exact absurd rfl h7 | (simp at h7; done))); done)
                all_goals
                refine SatC.seq ?_
                refine SatC.region ?_
                refine SatL.pu (RunV.assign rfl) rfl ?_
                refine SatL.nil (SatE.thenC ?_)
                refine SatC.ret (SatE.blk_ret (SatE.then_ret (SatE.then_ret (SatE.blk_ret (SatE.then_ret ?_)))))
                refine SatE.ret1 rfl rfl ?_
                exact ⟨rfl, hS.sel .nil⟩
              · (try simp only [cx, ne_eq] at h7)
                try (exfalso; (first | omega | exact h7 trivial | contradiction | (first | omega | exact absurd rfl h7 | (simp at h7; done))); done)
                all_goals
                refine SatC.skip (SatE.blk_normal (SatE.thenC ?_))
                refine SatC.region ?_
                refine SatL.pu (RunV.move rfl) rfl ?_
                refine SatL.pu (RunV.add rfl rfl (by first | exact wrapI64 (by omega) | rfl)) rfl ?_
                refine SatL.pu (RunV.assign rfl) rfl ?_
                refine SatL.nil ?_
                refine SatE.again ((i + 1, W9, L9, rv9, RB9, l9)) ?_ (by first | omega | (dsimp only; omega)) (by repeat constructor)
                exact ⟨by omega, by omega, hn9, hk9, hrel9, hsl9, hS.sel (by repeat constructor)⟩
          · (try simp only [cx, ne_eq] at h5)
            try (exfalso; (first | omega | exact h5 trivial | contradiction | (first | omega | exact absurd rfl h5 | (simp at h5; done))); done)
            all_goals
            refine SatC.skip (SatE.blk_normal (SatE.thenC ?_))
            refine SatC.seq ?_
            first
            | (revert hk2; intro hk2; obtain ⟨W9, L9, rv9, RB9, l9, hn9, hk9, hrel9, hsl9, hS⟩ := pack (i := i) (b6 := b6) (rb := b10) (y := y) (by omega) hk2 hrel2 hsl2 (hS.sel (by repeat constructor)))
            | obtain ⟨W9, L9, rv9, RB9, l9, hn9, hk9, hrel9, hsl9, hS⟩ := pack (i := i) (b6 := b6) (rb := b10) (y := y) (by omega) hk1 hrel1 hsl1 (hS.sel (by repeat constructor))
            refine SatC.region ?_
            refine SatL.pu (RunV.move rfl) rfl ?_
            refine SatL.pu (RunV.move rfl) rfl ?_
            first | refine SatL.pu (RunV.fieldAddrL rfl rfl rfl) rfl ?_ | refine SatL.pu (RunV.fieldAddr rfl rfl rfl) rfl ?_
            refine SatL.pu (RunV.load1 hS rfl rfl (by repeat constructor) rfl) rfl ?_
            refine SatL.op rfl (OpW.enter rfl rfl rfl (rfl) (looks_any y.2.1 (by omega) hk9 hrel9 hsl9 (hS.ownT (A := L9 ++ RO b10 W9.now rv9 RB9) (by repeat constructor))) ?_)
            rintro r6 w6 ⟨rfl, h⟩
            replace hS := St.callN hS h
            refine SatL.pu (RunV.not rfl) rfl ?_
            refine SatL.nil (SatE.thenC ?_)
            refine SatC.weak (e' := [(0, _), (2, _), (3, _), (4, _), (5, _), (73, _)]) (by repeat constructor) ?_
            refine SatC.cond rfl (fun h6 => ?_) (fun h6 => ?_)
            · (try simp only [cx, ne_eq] at h6)
              try (exfalso; (first | omega | exact h6 trivial | contradiction | (first | omega | exact absurd rfl h6 | (simp at h6; done))); done)
              all_goals
              refine SatC.seq ?_
              refine SatC.region ?_
              refine SatL.pu (RunV.assign rfl) rfl ?_
              refine SatL.nil (SatE.thenC ?_)
              refine SatC.ret (SatE.blk_ret (SatE.then_ret (SatE.then_ret (SatE.blk_ret (SatE.then_ret ?_)))))
              refine SatE.ret1 rfl rfl ?_
              exact ⟨rfl, hS.sel .nil⟩
            · (try simp only [cx, ne_eq] at h6)
              try (exfalso; (first | omega | exact h6 trivial | contradiction | (first | omega | exact absurd rfl h6 | (simp at h6; done))); done)
              all_goals
              refine SatC.skip (SatE.blk_normal (SatE.thenC ?_))
              refine SatC.region ?_
              refine SatL.pu (RunV.move rfl) rfl ?_
              refine SatL.pu (RunV.add rfl rfl (by first | exact wrapI64 (by omega) | rfl)) rfl ?_
              refine SatL.pu (RunV.assign rfl) rfl ?_
              refine SatL.nil ?_
              refine SatE.again ((i + 1, W9, L9, rv9, RB9, l9)) ?_ (by first | omega | (dsimp only; omega)) (by repeat constructor)
              exact ⟨by omega, by omega, hn9, hk9, hrel9, hsl9, hS.sel (by repeat constructor)⟩
    · (try simp only [cx, ne_eq] at h2)
      try (exfalso; (first | omega | exact h2 trivial | contradiction | (first | omega | exact absurd rfl h2 | (simp at h2; done))); done)
      all_goals
      refine SatC.exit (SatE.then_exit (SatE.then_exit (SatE.blk_exit (SatE.thenC ?_))))
      refine SatC.seq ?_
      refine SatC.weak (e' := [(2, _)]) (by repeat constructor) ?_
      refine SatC.region ?_
      refine SatL.op rfl (OpW.enter rfl rfl rfl (rfl) (works_any _) ?_)
      rintro r4 w4 ⟨rfl, h⟩
      replace hS := St.callN hS h
      refine SatL.pu (RunV.assign rfl) rfl ?_
      refine SatL.nil (SatE.thenC ?_)
      refine SatC.ret ?_
      refine SatE.ret1 rfl rfl ?_
      exact ⟨rfl, hS.sel .nil⟩
  · (try simp only [cx, ne_eq] at h1)
    try (exfalso; (first | omega | exact h1 trivial | contradiction | (first | omega | exact absurd rfl h1 | (simp at h1; done))); done)
    all_goals
    refine SatL.guard_n rfl rfl rfl rfl ?_
    refine SatL.pu (RunV.pick_f rfl rfl) rfl ?_
    refine SatL.nil (SatE.thenC ?_)
    refine SatC.cond_f rfl ?_
    refine SatC.exit (SatE.then_exit (SatE.then_exit (SatE.blk_exit (SatE.thenC ?_))))
    refine SatC.seq ?_
    refine SatC.weak (e' := [(2, _)]) (by repeat constructor) ?_
    refine SatC.region ?_
    refine SatL.op rfl (OpW.enter rfl rfl rfl (rfl) (works_any _) ?_)
    rintro r4 w4 ⟨rfl, h⟩
    replace hS := St.callN hS h
    refine SatL.pu (RunV.assign rfl) rfl ?_
    refine SatL.nil (SatE.thenC ?_)
    refine SatC.ret ?_
    refine SatE.ret1 rfl rfl ?_
    exact ⟨rfl, hS.sel .nil⟩
theorem wheelPlays_lifted (os : Os) (started : os.Started) (H : Type) (enc : TypeId × Value → H) :
    ReturnsInHanded {} Try.checked os 5 .any (Rows.wheelPlaysSpec.pre6 enc Try.prog Try.f5 Rows.wheelPlaysRow.domain false) (Rows.wheelPlaysSpec.post enc Try.prog Try.f5 false true false false) := by
  refine law_returns (C := Try.checked) (b := 4) (by kernel_rfl) started (by kernel_rfl) Try.func5
    (ChangeSpec.witness6 (enc := enc) (C := Try.checked) false ⟨#[], #[.slice none 0 0], []⟩ 8 (by kernel_rfl) (by kernel_rfl) (by kernel_rfl) (by kernel_rfl))
    rfl rfl (by kernel_rfl) (by kernel_rfl) (by kernel_rfl) (fun ds h => ?_) ?_
  · rw [Try.params5] at h
    match ds, h with
    | [_], _ => rfl
  intro W base args ds ps hval hA hsz
  rw [Try.params5] at hA hval
  obtain ⟨v0, d0, hargs, rfl, h0⟩ := trodAll_one hA
  subst hargs
  obtain ⟨xs0, hr0, hx0⟩ := open_rows (l := [3, 3, 3]) 6 Try.underlying24 (by kernel_rfl) (by kernel_rfl) (by decide) (hval 0 24 v0 rfl rfl) h0
  obtain ⟨ys0, rfl, hy0⟩ := rows_map (enc' := opr) (q := fun _ => True) (fun r hr => by
    obtain ⟨u0, u1, u2, rfl, l0, l1, l2⟩ := allLeaf_list3 hr
    obtain ⟨n0, rfl, e0⟩ := leaf_int Try.underlying3 l0
    obtain ⟨n1, rfl, e1⟩ := leaf_int Try.underlying3 l1
    obtain ⟨n2, rfl, e2⟩ := leaf_int Try.underlying3 l2
    exact ⟨⟨n0, n1, n2⟩, rfl, trivial⟩) xs0 hx0
  exact law_done (plays_any _ ys0 W hr0)
theorem wheelPlays_holds : Rows.WheelPlaysSaid :=
  OpenClaim.holds_of_wide 5 Try.f5 rfl rfl rfl rfl rfl rfl rfl ⟨rfl, rfl, rfl, rfl, rfl⟩ rfl rfl rfl rfl rfl (by kernel_rfl) Try.func5 (by kernel_rfl)
    (of_decide_eq_true (by kernel_rfl)) (by unfold Func.isWrapper; first | (rw [if_pos (by decide +kernel)]; kernel_rfl) | (rw [if_neg (by decide +kernel)]; exact ⟨rfl, rfl⟩))
    (fun os started H enc _ => wheelPlays_lifted os started H enc)
end Go.Proofs.Ytabladeenemfoaa
