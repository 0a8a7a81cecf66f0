/- RumorEnough: an update that is pushed, and taken often enough, is passed on just as often as the limit says. -/
import Derived.Test.YtfkalbbdmlinlaaE
import Derived.Test.YtfkalbbdmlinlaaK7
import Derived.Test.YtfkalbbdmlinlaaK16
import Derived.Test.YtfkalbbdmlinlaaK25
import Derived.Test.YtfkalbbdmlinlaaRows
set_option linter.unusedSimpArgs false
set_option linter.unusedVariables false
set_option maxRecDepth 100000
set_option maxHeartbeats 16000000
namespace Go.Proofs.Ytfkalbbdmlinlaa
open Go.RowKit Go.ChangeShapes Go.WideShapes Go.ChangeAt
theorem bnd_u16 {n : Int} (h : (Lit.int .u16 n).wf = true) : 0 ≤ n ∧ n ≤ 65535 := by
  have := (Lit.wf_int_iff _ _).1 h
  simp only [IntKind.min, IntKind.max, IntKind.bits, IntKind.signed] at this
  simp at this
  omega
theorem enough_any (n : Int) (u : Upd) (v : Value) (m : Int) (ys : List Upd) (hm : 0 ≤ m ∧ m ≤ 65535) (w : World) (hr : RdRow w v 3 (ys.map ud)) : Ret Try.prog 4 #[.int .i64 n, uv u, .agg #[v, .int .u16 m]] w fun r w' => r = .bool true ∧ St w [] [] w' := by
  have hS := St.init0 w
  obtain ⟨bl, ol, cl, hvl, hmaxl, hcl, hltl⟩ := hr.open
  obtain ⟨A0, hvA⟩ : ∃ A, v = .slice A ys.length cl := by
    obtain ⟨A, h, _⟩ := hvl.eq
    exact ⟨A, by simpa using h⟩
  simp only [List.length_map] at hvl hmaxl hltl
  subst hvA
  obtain ⟨mult, hmult⟩ : ∃ m, min (max n 1) 8 = m := ⟨_, rfl⟩
  have hmu : 0 ≤ mult ∧ mult ≤ 8 := by omega
  obtain ⟨lim, hlim⟩ : ∃ l, mult * dg (max m 1) = l := ⟨_, rfl⟩
  have hlb : 1 ≤ lim ∧ lim ≤ 128 := by
    have hdb := dg_16 (m := max m 1) (by omega)
    have h1 := Int.mul_le_mul hmu.2 hdb.2 (by omega) (by decide)
    have h2 := Int.mul_le_mul (a := 1) (b := 1) (c := mult) (d := dg (max m 1)) (by omega) hdb.1 (by decide) (by omega)
    omega
  refine Ret.enter Try.func4 Try.ntmps4 rfl rfl ?_
  simp only [argEnv, Nat.reduceAdd]
  refine SatC.seq ?_
  refine SatC.region ?_
  refine SatL.op rfl (OpW.box hS rfl rfl (by repeat constructor) ?_)
  clear hS
  intro b4 w1 _ hS
  refine SatL.op rfl (OpW.box hS rfl rfl (by repeat constructor) ?_)
  clear hS
  intro b5 w2 _ hS
  refine SatL.pu (RunV.assign rfl) rfl ?_
  refine SatL.nil (SatE.thenC ?_)
  refine SatC.seq ?_
  refine SatC.drawnT 6 hS (hS) (by kernel_rfl) ?_
  clear hS
  intro w3 hh hS hD
  first | refine SatD.tk 0 rfl hD (fun _ hw => RunV.fieldAddrL rfl rfl rfl) ?_ | refine SatD.tk 0 rfl hD (fun _ hw => RunV.fieldAddr rfl rfl rfl) ?_
  refine SatD.tk 1 rfl hD (fun _ hw => RunV.load1 hw rfl rfl (by repeat constructor) rfl) ?_
  first | refine SatD.tk 2 rfl hD (fun _ hw => RunV.fieldAddrL rfl rfl rfl) ?_ | refine SatD.tk 2 rfl hD (fun _ hw => RunV.fieldAddr rfl rfl rfl) ?_
  refine SatD.tk 3 rfl hD (fun _ hw => RunV.load1 hw rfl rfl (by repeat constructor) rfl) ?_
  refine SatD.tk 4 rfl hD (fun _ hw => RunV.assign rfl) ?_
  refine SatD.tk 5 rfl hD (fun _ hw => RunV.assign rfl) ?_
  refine SatD.done 0 (by kernel_rfl) (SatE.thenC ?_)
  clear hD
  refine SatC.seq ?_
  refine SatC.region ?_
  refine SatL.pu (RunV.move rfl) rfl ?_
  refine SatL.op rfl (OpW.enter rfl rfl rfl (rfl) (qnew_any n _) ?_)
  rintro r4 w4 ⟨b, mb, o0, rfl, ho0, h⟩
  replace hS := hS.callT (A := []) (by repeat constructor) h
  rw [hmult] at hS
  refine SatL.pu (RunV.assign rfl) rfl ?_
  refine SatL.nil (SatE.thenC ?_)
  refine SatC.merge (G := Tab × Int × Obj) (V := fun ⟨t, wh, o⟩ => []) (Cn := [(4, _), (6, _), (8, _), (9, _)]) (I := fun ⟨t, wh, o⟩ w' => Zero t ∧ t u.n = none ∧ 0 ≤ wh ∧ wh ≤ 8 ∧ QM o t ∧ St w [] ((b4, C 29 (ud u)) :: QO b mb mult wh o) w') (by repeat constructor) ?_ ?_
  · skip
    refine SatC.seq ?_
    refine SatC.region ?_
    refine SatL.pu (RunV.assign rfl) rfl ?_
    refine SatL.nil (SatE.thenC ?_)
    refine SatC.block ?_
    refine SatC.loopK (G := Nat × Tab × Int × Obj) (V := fun ⟨k, t, wh, o⟩ => [(10, .int .i64 (k : Int))]) (Cn := [(4, _), (6, _), (7, _), (8, _), (9, _)]) (I := fun ⟨k, t, wh, o⟩ w' => k ≤ ys.length ∧ k ≤ 8 ∧ Zero t ∧ t u.n = none ∧ 0 ≤ wh ∧ wh ≤ k ∧ QM o t ∧ St w [] ((b4, C 29 (ud u)) :: QO b mb mult wh o) w') (μ := fun ⟨k, t, wh, o⟩ => ys.length - k) (0, fun _ => none, 0, o0) ?_ (by repeat constructor) ?_
    · exact ⟨Nat.zero_le _, by omega, (fun k x h => by cases h), rfl, by decide, by decide, ho0, hS.sel (by repeat constructor)⟩
    clear hS
    rintro ⟨k, t, wh, o⟩ w5 ⟨hk, hk8, hz, hun, hw0, hwk, ho, hS⟩
    refine SatC.weak (e' := [(4, _), (6, _), (7, _), (8, _), (9, _), (10, _)]) (by repeat constructor) ?_
    refine SatC.seq ?_
    refine SatC.seq ?_
    refine SatC.region ?_
    refine SatL.pu (RunV.move rfl) rfl ?_
    refine SatL.pu (RunV.move rfl) rfl ?_
    first | refine SatL.pu (RunV.lenR (by assumption) rfl rfl) rfl ?_ | refine SatL.pu (RunV.lenS rfl rfl) rfl ?_
    refine SatL.pu (RunV.lss rfl rfl) rfl ?_
    refine SatL.pu (RunV.move rfl) rfl ?_
    refine SatL.guard rfl rfl rfl (fun h1 => ?_) (fun h1 => ?_)
    · (try simp only [cx, ne_eq] at h1)
      try (exfalso; (first | omega | exact h1 trivial | contradiction | (first | exact h1 rfl | cases h1 | (simp at h1; done))); done)
      all_goals
      refine SatL.pu (RunV.move rfl) rfl ?_
      refine SatL.guard_y rfl rfl ?_
      refine SatL.pu (RunV.lss rfl rfl) rfl ?_
      refine SatL.pu (RunV.pick_t rfl rfl) rfl ?_
      refine SatL.nil (SatE.thenC ?_)
      refine SatC.cond rfl (fun h2 => ?_) (fun h2 => ?_)
      · (try simp only [cx, ne_eq] at h2)
        try (exfalso; (first | omega | exact h2 trivial | contradiction | (first | exact h2 rfl | cases h2 | (simp at h2; done))); done)
        all_goals
        refine SatC.skip (SatE.thenC ?_)
        refine SatC.seq ?_
        refine SatC.block ?_
        refine SatC.seq ?_
        obtain ⟨y, hy⟩ := get_some ys k (by omega)
        refine SatC.drawnT 8 hS (hS) (by kernel_rfl) ?_
        clear hS
        intro w6 hh hS hD
        refine SatD.tk 0 rfl hD (fun _ hw => RunV.move rfl) ?_
        refine SatD.tk 1 rfl hD (fun _ hw => RunV.move rfl) ?_
        first | refine SatD.tk 2 rfl hD (fun _ hw => RunV.indexR (by assumption) rfl rfl rfl (by omega) (by omega) rfl) ?_ | refine SatD.tk 2 rfl hD (fun _ hw => RunV.indexS rfl rfl rfl (by omega) (by omega) rfl) ?_
        first | refine SatD.tk 3 rfl hD (fun _ hw => RunV.fieldAddrL rfl rfl rfl) ?_ | refine SatD.tk 3 rfl hD (fun _ hw => RunV.fieldAddr rfl rfl rfl) ?_
        first | refine SatD.tk 4 rfl hD (fun _ hw => RunV.loadR1f (RdC.st (by assumption) hw List.not_mem_nil) rfl rfl (by first | assumption | exact map_get (by assumption)) rfl) ?_ | refine SatD.tk 4 rfl hD (fun _ hw => RunV.loadR1f (Sl.rd (by assumption) hw (by repeat constructor)) rfl rfl (by first | assumption | exact map_get (by assumption)) rfl) ?_
        first | refine SatD.tk 5 rfl hD (fun _ hw => RunV.fieldAddrL rfl rfl rfl) ?_ | refine SatD.tk 5 rfl hD (fun _ hw => RunV.fieldAddr rfl rfl rfl) ?_
        refine SatD.tk 6 rfl hD (fun _ hw => RunV.load1 hw rfl rfl (by repeat constructor) rfl) ?_
        refine SatD.tk 7 rfl hD (fun _ hw => RunV.neq rfl rfl) ?_
        refine SatD.done 0 (by kernel_rfl) (SatE.thenC ?_)
        clear hD
        refine SatC.weak (e' := [(4, _), (6, _), (7, _), (8, _), (9, _), (10, _), (39, _)]) (by repeat constructor) ?_
        refine SatC.cond rfl (fun h3 => ?_) (fun h3 => ?_)
        · (try simp only [cx, ne_eq] at h3)
          try (exfalso; (first | omega | exact h3 trivial | contradiction | (first | exact h3 rfl | cases h3 | (simp at h3; done))); done)
          all_goals
          refine SatC.region ?_
          refine SatL.pu (RunV.move rfl) rfl ?_
          refine SatL.pu (RunV.move rfl) rfl ?_
          refine SatL.pu (RunV.move rfl) rfl ?_
          first | refine SatL.pu (RunV.indexR (by assumption) rfl rfl rfl (by omega) (by omega) rfl) rfl ?_ | refine SatL.pu (RunV.indexS rfl rfl rfl (by omega) (by omega) rfl) rfl ?_
          first | refine SatL.pu (RunV.loadRNz (RdC.st (by assumption) hS List.not_mem_nil) rfl rfl (by first | assumption | exact map_get (by assumption))) rfl ?_ | refine SatL.pu (RunV.loadRNz (Sl.rd (by assumption) hS (by repeat constructor)) rfl rfl (by first | assumption | exact map_get (by assumption))) rfl ?_
          refine SatL.op rfl (OpW.enter rfl rfl rfl (rfl) (push_any ⟨y.n, y.i, y.s⟩ ho ⟨hw0, by omega⟩ (hS.ownT (A := QO b mb mult wh o) (by repeat constructor))) ?_)
          rintro r7 w7 ⟨rfl, o2, ho2, h⟩
          replace hS := hS.callT (A := QO b mb mult wh o) (by repeat constructor) h
          refine SatL.nil (SatE.blk_normal (SatE.thenC ?_))
          refine SatC.region ?_
          refine SatL.pu (RunV.move rfl) rfl ?_
          refine SatL.pu (RunV.add rfl rfl (by first | exact wrapI64 (by omega) | rfl)) rfl ?_
          refine SatL.pu (RunV.assign rfl) rfl ?_
          refine SatL.nil ?_
          first
          | (have hq := pushQ_w (t := t) (wh := wh) (u := ⟨y.n, y.i, y.s⟩)
             exact SatE.again (k + 1, (pushQ t wh ⟨y.n, y.i, y.s⟩).2.1, (pushQ t wh ⟨y.n, y.i, y.s⟩).2.2, o2) ⟨by omega, by omega, hz.push, push_ne hun (by assumption), by omega, by omega, ho2, hS.sel (by repeat constructor)⟩ (by dsimp only; omega) (by repeat constructor))
          | exact SatE.again (k + 1, t, wh, o) ⟨by omega, by omega, hz, hun, hw0, by omega, ho, hS.sel (by repeat constructor)⟩ (by dsimp only; omega) (by repeat constructor)
        · (try simp only [cx, ne_eq] at h3)
          try (exfalso; (first | omega | exact h3 trivial | contradiction | (first | exact h3 rfl | cases h3 | (simp at h3; done))); done)
          all_goals
          refine SatC.skip (SatE.blk_normal (SatE.thenC ?_))
          refine SatC.region ?_
          refine SatL.pu (RunV.move rfl) rfl ?_
          refine SatL.pu (RunV.add rfl rfl (by first | exact wrapI64 (by omega) | rfl)) rfl ?_
          refine SatL.pu (RunV.assign rfl) rfl ?_
          refine SatL.nil ?_
          first
          | (have hq := pushQ_w (t := t) (wh := wh) (u := ⟨y.n, y.i, y.s⟩)
             exact SatE.again (k + 1, (pushQ t wh ⟨y.n, y.i, y.s⟩).2.1, (pushQ t wh ⟨y.n, y.i, y.s⟩).2.2, o2) ⟨by omega, by omega, hz.push, push_ne hun (by assumption), by omega, by omega, ho2, hS.sel (by repeat constructor)⟩ (by dsimp only; omega) (by repeat constructor))
          | exact SatE.again (k + 1, t, wh, o) ⟨by omega, by omega, hz, hun, hw0, by omega, ho, hS.sel (by repeat constructor)⟩ (by dsimp only; omega) (by repeat constructor)
      · (try simp only [cx, ne_eq] at h2)
        try (exfalso; (first | omega | exact h2 trivial | contradiction | (first | exact h2 rfl | cases h2 | (simp at h2; done))); done)
        all_goals
        refine SatC.exit (SatE.then_exit (SatE.then_exit (SatE.blk_exit ?_)))
        refine SatE.met ((t, wh, o)) ?_ (by repeat constructor)
        exact ⟨hz, hun, hw0, by omega, ho, hS⟩
    · (try simp only [cx, ne_eq] at h1)
      try (exfalso; (first | omega | exact h1 trivial | contradiction | (first | exact h1 rfl | cases h1 | (simp at h1; done))); done)
      all_goals
      refine SatL.guard_n rfl rfl rfl rfl ?_
      refine SatL.pu (RunV.pick_f rfl rfl) rfl ?_
      refine SatL.nil (SatE.thenC ?_)
      refine SatC.cond_f rfl ?_
      refine SatC.exit (SatE.then_exit (SatE.then_exit (SatE.blk_exit ?_)))
      refine SatE.met ((t, wh, o)) ?_ (by repeat constructor)
      exact ⟨hz, hun, hw0, by omega, ho, hS⟩
  · clear hS
    rintro ⟨t, wh, o⟩ w65 ⟨hz, hun, hw0, hwk, ho, hS⟩
    refine SatC.weak (e' := [(4, _), (6, _), (8, _), (9, _)]) (by repeat constructor) ?_
    refine SatC.seq ?_
    refine SatC.seq ?_
    refine SatC.region ?_
    refine SatL.pu (RunV.loadN hS rfl rfl (by repeat constructor) (by repeat constructor)) rfl ?_
    refine SatL.op rfl (OpW.enter rfl rfl rfl (rfl) (right_any u _) ?_)
    rintro r66 w66 ⟨rfl, h⟩
    replace hS := St.callN hS h
    refine SatL.pu (RunV.not rfl) rfl ?_
    refine SatL.nil (SatE.thenC ?_)
    refine SatC.cond rfl (fun h1 => ?_) (fun h1 => ?_)
    · (try simp only [cx, ne_eq] at h1)
      try (exfalso; (first | omega | exact h1 trivial | contradiction | (first | exact h1 rfl | cases h1 | (simp at h1; done))); done)
      all_goals
      refine SatC.seq ?_
      refine SatC.region ?_
      refine SatL.pu (RunV.move rfl) rfl ?_
      refine SatL.pu (RunV.loadN hS rfl rfl (by repeat constructor) (by repeat constructor)) rfl ?_
      refine SatL.op rfl (OpW.enter rfl rfl rfl (rfl) (push_any u ho ⟨hw0, by omega⟩ (hS.ownT (A := QO b mb mult wh o) (by repeat constructor))) ?_)
      rintro r67 w67 ⟨rfl, o2, ho2, h⟩
      replace hS := hS.callT (A := QO b mb mult wh o) (by repeat constructor) h
      rw [show (pushQ t wh u).1 = false from by unfold pushQ; rw [if_pos (by assumption)]]
      refine SatL.pu (RunV.not rfl) rfl ?_
      refine SatL.pu (RunV.move rfl) rfl ?_
      refine SatL.guard rfl rfl rfl (fun h2 => ?_) (fun h2 => ?_)
      · (try simp only [cx, ne_eq] at h2)
        try (exfalso; (first | omega | exact h2 trivial | contradiction | (first | exact h2 rfl | cases h2 | (simp at h2; done))); done)
        all_goals
        refine SatL.op rfl (OpW.enter rfl rfl rfl (rfl) (works_any _) ?_)
        rintro r68 w68 ⟨rfl, h⟩
        replace hS := St.callN hS h
        refine SatL.pu (RunV.pick_t rfl rfl) rfl ?_
        refine SatL.pu (RunV.assign rfl) rfl ?_
        refine SatL.nil (SatE.thenC ?_)
        refine SatC.ret (SatE.then_ret ?_)
        refine SatE.ret1 rfl rfl ?_
        exact ⟨rfl, hS.sel (by repeat constructor)⟩
      · (try simp only [cx, ne_eq] at h2)
        try (exfalso; (first | omega | exact h2 trivial | contradiction | (first | exact h2 rfl | cases h2 | (simp at h2; done))); done)
        all_goals
        refine SatL.pu (RunV.pick_f rfl rfl) rfl ?_
        refine SatL.pu (RunV.assign rfl) rfl ?_
        refine SatL.nil (SatE.thenC ?_)
        refine SatC.ret (SatE.then_ret ?_)
        refine SatE.ret1 rfl rfl ?_
        exact ⟨rfl, hS.sel (by repeat constructor)⟩
    · (try simp only [cx, ne_eq] at h1)
      try (exfalso; (first | omega | exact h1 trivial | contradiction | (first | exact h1 rfl | cases h1 | (simp at h1; done))); done)
      all_goals
      refine SatC.skip (SatE.thenC ?_)
      refine SatC.seq ?_
      refine SatC.seq ?_
      refine SatC.region ?_
      refine SatL.pu (RunV.move rfl) rfl ?_
      refine SatL.pu (RunV.loadN hS rfl rfl (by repeat constructor) (by repeat constructor)) rfl ?_
      refine SatL.op rfl (OpW.enter rfl rfl rfl (rfl) (push_any u ho ⟨hw0, by omega⟩ (hS.ownT (A := QO b mb mult wh o) (by repeat constructor))) ?_)
      rintro r67 w67 ⟨rfl, o2, ho2, h⟩
      replace hS := hS.callT (A := QO b mb mult wh o) (by repeat constructor) h
      rw [push_new hun (by assumption)] at hS ho2 ⊢
      refine SatL.pu (RunV.not rfl) rfl ?_
      refine SatL.nil (SatE.thenC ?_)
      refine SatC.cond rfl (fun h2 => ?_) (fun h2 => ?_)
      · (try simp only [cx, ne_eq] at h2)
        try (exfalso; (first | omega | exact h2 trivial | contradiction | (first | exact h2 rfl | cases h2 | (simp at h2; done))); done)
        all_goals
        refine SatC.seq ?_
        refine SatC.region ?_
        refine SatL.pu (RunV.assign rfl) rfl ?_
        refine SatL.nil (SatE.thenC ?_)
        refine SatC.ret (SatE.then_ret ?_)
        refine SatE.ret1 rfl rfl ?_
        exact ⟨rfl, hS.sel (by repeat constructor)⟩
      · (try simp only [cx, ne_eq] at h2)
        try (exfalso; (first | omega | exact h2 trivial | contradiction | (first | exact h2 rfl | cases h2 | (simp at h2; done))); done)
        all_goals
        refine SatC.skip (SatE.thenC ?_)
        refine SatC.seq ?_
        refine SatC.region ?_
        refine SatL.pu (RunV.move rfl) rfl ?_
        refine SatL.pu (RunV.move rfl) rfl ?_
        refine SatL.pu (RunV.conv rfl rfl rfl (by first | exact wrapI64 (by omega) | rfl)) rfl ?_
        refine SatL.op rfl (OpW.enter rfl rfl rfl (rfl) (limit_any m (by omega) hmu (hS.ownT (A := QO b mb mult (wh + 1) o2) (by repeat constructor))) ?_)
        rintro r68 w68 ⟨rfl, h⟩
        replace hS := St.callN hS h
        rw [hlim]
        refine SatL.pu (RunV.assign rfl) rfl ?_
        refine SatL.nil (SatE.thenC ?_)
        refine SatC.seq ?_
        refine SatC.region ?_
        refine SatL.pu (RunV.assign rfl) rfl ?_
        refine SatL.nil (SatE.thenC ?_)
        refine SatC.seq ?_
        refine SatC.seq ?_
        refine SatC.region ?_
        refine SatL.pu (RunV.assign rfl) rfl ?_
        refine SatL.nil (SatE.thenC ?_)
        refine SatC.block ?_
        refine SatC.loopK (G := Nat × Tab × Int × Obj) (V := fun ⟨k, t, cn, o⟩ => [(13, .int .i64 (k : Int)), (12, .int .i64 cn)]) (Cn := [(4, _), (6, _), (8, _), (9, _), (11, _)]) (I := fun ⟨k, t, cn, o⟩ w' => k ≤ 9 * lim ∧ AllLt lim t ∧ InvU lim u t cn ∧ left lim t 8 ≤ max 0 (8 * lim - k) ∧ 0 ≤ cn ∧ QM o t ∧ St w [] ((b4, C 29 (ud u)) :: QO b mb mult (wh + 1) o) w') (μ := fun ⟨k, t, cn, o⟩ => (9 * lim).toNat - k) (0, setT t u.n (some ⟨u.n, u.i, u.s, 0, wh + 1⟩), 0, o2) ?_ (by repeat constructor) ?_
        · have hs := start_ok (wh := wh) hz hun (by assumption) hlb.1
          exact ⟨by omega, hs.1, hs.2.1, by have := hs.2.2; omega, by decide, ho2, hS.sel (by repeat constructor)⟩
        clear hS
        rintro ⟨k, t, cn, o⟩ w69 ⟨hk, ha, hi, hleft, hcn, ho, hS⟩
        refine SatC.weak (e' := [(4, _), (6, _), (8, _), (9, _), (11, _), (12, _), (13, _)]) (by repeat constructor) ?_
        refine SatC.seq ?_
        refine SatC.seq ?_
        refine SatC.region ?_
        refine SatL.pu (RunV.move rfl) rfl ?_
        refine SatL.pu (RunV.move rfl) rfl ?_
        refine SatL.pu (RunV.mul rfl rfl (by rw [wrapI64 (by omega)])) rfl ?_
        refine SatL.pu (RunV.lss rfl rfl) rfl ?_
        refine SatL.pu (RunV.move rfl) rfl ?_
        refine SatL.guard rfl rfl rfl (fun h3 => ?_) (fun h3 => ?_)
        · (try simp only [cx, ne_eq] at h3)
          try (exfalso; (first | omega | exact h3 trivial | contradiction | (first | exact h3 rfl | cases h3 | (simp at h3; done))); done)
          all_goals
          refine SatL.pu (RunV.move rfl) rfl ?_
          refine SatL.guard_y rfl rfl ?_
          refine SatL.pu (RunV.lss rfl rfl) rfl ?_
          refine SatL.pu (RunV.pick_t rfl rfl) rfl ?_
          refine SatL.nil (SatE.thenC ?_)
          refine SatC.cond rfl (fun h4 => ?_) (fun h4 => ?_)
          · (try simp only [cx, ne_eq] at h4)
            try (exfalso; (first | omega | exact h4 trivial | contradiction | (first | exact h4 rfl | cases h4 | (simp at h4; done))); done)
            all_goals
            refine SatC.skip (SatE.thenC ?_)
            refine SatC.seq ?_
            refine SatC.block ?_
            refine SatC.seq ?_
            have hcle := hi.le
            refine SatC.region ?_
            refine SatL.pu (RunV.move rfl) rfl ?_
            refine SatL.pu (RunV.move rfl) rfl ?_
            refine SatL.pu (RunV.conv rfl rfl rfl (by first | exact wrapI64 (by omega) | rfl)) rfl ?_
            refine SatL.op rfl (OpW.enter rfl rfl rfl (rfl) (take_any 2 m (by omega) hmu (ha.wf (by omega)).tabB ho (hS.ownT (A := QO b mb mult (wh + 1) o) (by repeat constructor))) ?_)
            rintro r70 w70 ⟨ds, DB, o3, hper, hsrt, hsl, ho3, h⟩
            replace hS := hS.callT (A := QO b mb mult (wh + 1) o) (by repeat constructor) h
            rw [hlim] at ho3
            have hpw := ds_ne (ha.wf (by omega)) hper
            have hat : ∀ x ∈ ds, t x.n = some x := fun x hx => ds_at (ha.wf (by omega)) hper hx
            obtain ⟨xs, hxs⟩ : ∃ xs, ds.take 2 = xs := ⟨_, rfl⟩
            have hall := take_all hlb.1 xs t cn ha hi (fun x hx => hat x (List.mem_of_mem_take (hxs ▸ hx))) (hxs ▸ hpw.sublist (List.take_sublist _ _))
            have hxl : xs.length ≤ 2 := by rw [← hxs, List.length_take]; omega
            have hx0 : xs.length = 0 → left lim t 8 = 0 := fun h => left_nil 8 (by rw [← hxs, List.length_take] at h; have : ds = [] := List.length_eq_zero_iff.1 (by omega); subst this; exact List.nil_perm.1 hper)
            change Sl 29 3 _ ((ds.take 2).map fun x => ud (up x)) DB at hsl
            change QM o3 ((ds.take 2).foldl (takeF lim) t) at ho3
            rw [hxs] at hsl ho3
            obtain ⟨cV, hvV⟩ := hsl.slv
            simp only [List.length_map] at hvV
            simp only [List.append_assoc, List.cons_append, List.nil_append, List.append_nil] at hS
            refine SatL.pu (RunV.assign rfl) rfl ?_
            refine SatL.nil (SatE.thenC ?_)
            refine SatC.seq ?_
            refine SatC.weak (e' := [(4, _), (6, _), (8, _), (9, _), (11, _), (12, _), (13, _), (14, _)]) (by repeat constructor) ?_
            refine SatC.region ?_
            refine SatL.pu (RunV.assign rfl) rfl ?_
            refine SatL.nil (SatE.thenC ?_)
            refine SatC.block ?_
            refine SatC.loopK (G := Nat × Int) (V := fun ⟨j, c⟩ => [(15, .int .i64 (j : Int)), (12, .int .i64 c)]) (Cn := [(4, _), (6, _), (8, _), (9, _), (11, _), (13, _), (14, _)]) (I := fun ⟨j, c⟩ w' => j ≤ xs.length ∧ c = cn + cnt u (xs.take j) ∧ St w [] (DB ++ ((b4, C 29 (ud u)) :: QO b mb mult (wh + 1) o3)) w') (μ := fun ⟨j, c⟩ => xs.length - j) (0, cn) ?_ (by repeat constructor) ?_
            · exact ⟨Nat.zero_le _, by simp [cnt], hS.sel (by repeat constructor)⟩
            clear hS
            rintro ⟨j, c⟩ w71 ⟨hj, hc, hS⟩
            refine SatC.weak (e' := [(4, _), (6, _), (8, _), (9, _), (11, _), (12, _), (13, _), (14, _), (15, _)]) (by repeat constructor) ?_
            refine SatC.seq ?_
            refine SatC.seq ?_
            refine SatC.region ?_
            refine SatL.pu (RunV.move rfl) rfl ?_
            refine SatL.pu (RunV.move rfl) rfl ?_
            first | refine SatL.pu (RunV.lenR (by assumption) rfl rfl) rfl ?_ | refine SatL.pu (RunV.lenS rfl rfl) rfl ?_
            refine SatL.pu (RunV.lss rfl rfl) rfl ?_
            refine SatL.nil (SatE.thenC ?_)
            refine SatC.cond rfl (fun h5 => ?_) (fun h5 => ?_)
            · (try simp only [cx, ne_eq] at h5)
              try (exfalso; (first | omega | exact h5 trivial | contradiction | (first | exact h5 rfl | cases h5 | (simp at h5; done))); done)
              all_goals
              refine SatC.skip (SatE.thenC ?_)
              refine SatC.seq ?_
              refine SatC.block ?_
              refine SatC.seq ?_
              obtain ⟨x, hx⟩ := get_some xs j (by omega)
              have htk : xs.take (j + 1) = xs.take j ++ [x] := by rw [List.take_add_one, hx]; rfl
              have hcb := cnt_b u (xs.take j)
              have hcl2 : (xs.take j).length ≤ 2 := by rw [List.length_take]; omega
              have hct : cnt u (xs.take (j + 1)) = cnt u (xs.take j) + (if up x = u then 1 else 0) := by rw [htk, cnt_app]; show _ + (_ + 0) = _; omega
              refine SatC.drawnT 6 hS (hS) (by kernel_rfl) ?_
              clear hS
              intro w72 hh hS hD
              refine SatD.tk 0 rfl hD (fun _ hw => RunV.move rfl) ?_
              refine SatD.tk 1 rfl hD (fun _ hw => RunV.move rfl) ?_
              first | refine SatD.tk 2 rfl hD (fun _ hw => RunV.indexR (by assumption) rfl rfl rfl (by omega) (by omega) rfl) ?_ | refine SatD.tk 2 rfl hD (fun _ hw => RunV.indexS rfl rfl rfl (by omega) (by omega) rfl) ?_
              first | refine SatD.tk 3 rfl hD (fun _ hw => RunV.loadRNz (RdC.st (by assumption) hw List.not_mem_nil) rfl rfl (by first | assumption | exact map_get (by assumption))) ?_ | refine SatD.tk 3 rfl hD (fun _ hw => RunV.loadRNz (Sl.rd (by assumption) hw (by repeat constructor)) rfl rfl (by first | assumption | exact map_get (by assumption))) ?_
              refine SatD.tk 4 rfl hD (fun _ hw => RunV.loadN hw rfl rfl (by repeat constructor) (by repeat constructor)) ?_
              refine SatD.tk 5 rfl hD (fun _ hw => RunV.bin rfl rfl (guard29 _ _ _ _ _ _ _ _ _ _) (run_eql29 _ _ _ _ _ _ _)) ?_
              refine SatD.done 0 (by kernel_rfl) (SatE.thenC ?_)
              clear hD
              refine SatC.cond rfl (fun h6 => ?_) (fun h6 => ?_)
              · (try simp only [cx, ne_eq] at h6)
                try (exfalso; (first | omega | exact h6 trivial | contradiction | (first | exact h6 rfl | cases h6 | (simp at h6; done))); done)
                all_goals
                refine SatC.region ?_
                refine SatL.pu (RunV.move rfl) rfl ?_
                refine SatL.pu (RunV.add rfl rfl (by first | exact wrapI64 (by omega) | rfl)) rfl ?_
                refine SatL.pu (RunV.assign rfl) rfl ?_
                refine SatL.nil (SatE.blk_normal (SatE.thenC ?_))
                refine SatC.weak (e' := [(4, _), (6, _), (8, _), (9, _), (11, _), (12, _), (13, _), (14, _), (15, _)]) (by repeat constructor) ?_
                refine SatC.region ?_
                refine SatL.pu (RunV.move rfl) rfl ?_
                refine SatL.pu (RunV.add rfl rfl (by first | exact wrapI64 (by omega) | rfl)) rfl ?_
                refine SatL.pu (RunV.assign rfl) rfl ?_
                refine SatL.nil ?_
                first
                | (have hx1 : up x = u := by cases u; simp_all [up]
                   rw [if_pos hx1] at hct
                   exact SatE.again (j + 1, c + 1) ⟨by omega, by omega, hS.sel (by repeat constructor)⟩ (by dsimp only; omega) (by repeat constructor))
                | (have hx1 : ¬ up x = u := by cases u; simp_all [up]
                   rw [if_neg hx1] at hct
                   exact SatE.again (j + 1, c) ⟨by omega, by omega, hS.sel (by repeat constructor)⟩ (by dsimp only; omega) (by repeat constructor))
              · (try simp only [cx, ne_eq] at h6)
                try (exfalso; (first | omega | exact h6 trivial | contradiction | (first | exact h6 rfl | cases h6 | (simp at h6; done))); done)
                all_goals
                refine SatC.skip (SatE.blk_normal (SatE.thenC ?_))
                refine SatC.region ?_
                refine SatL.pu (RunV.move rfl) rfl ?_
                refine SatL.pu (RunV.add rfl rfl (by first | exact wrapI64 (by omega) | rfl)) rfl ?_
                refine SatL.pu (RunV.assign rfl) rfl ?_
                refine SatL.nil ?_
                first
                | (have hx1 : up x = u := by cases u; simp_all [up]
                   rw [if_pos hx1] at hct
                   exact SatE.again (j + 1, c + 1) ⟨by omega, by omega, hS.sel (by repeat constructor)⟩ (by dsimp only; omega) (by repeat constructor))
                | (have hx1 : ¬ up x = u := by cases u; simp_all [up]
                   rw [if_neg hx1] at hct
                   exact SatE.again (j + 1, c) ⟨by omega, by omega, hS.sel (by repeat constructor)⟩ (by dsimp only; omega) (by repeat constructor))
            · (try simp only [cx, ne_eq] at h5)
              try (exfalso; (first | omega | exact h5 trivial | contradiction | (first | exact h5 rfl | cases h5 | (simp at h5; done))); done)
              all_goals
              refine SatC.exit (SatE.then_exit (SatE.then_exit (SatE.blk_exit (SatE.blk_normal (SatE.thenC ?_)))))
              refine SatC.region ?_
              refine SatL.pu (RunV.move rfl) rfl ?_
              refine SatL.pu (RunV.add rfl rfl (by first | exact wrapI64 (by omega) | rfl)) rfl ?_
              refine SatL.pu (RunV.assign rfl) rfl ?_
              refine SatL.nil ?_
              refine SatE.again ((k + 1, xs.foldl (takeF lim) t, c, o3)) ?_ (by first | omega | (dsimp only; omega)) (by repeat constructor)
              have hxe : xs.take j = xs := List.take_of_length_le (by omega)
              rw [hxe] at hc
              have hl0 := left_nn hall.1 8
              have hcb := cnt_b u xs
              refine ⟨by omega, hall.1, hc ▸ hall.2.1, ?_, by omega, ho3, hS.sel (by repeat constructor)⟩
              rw [hall.2.2] at hl0 ⊢
              by_cases h0 : xs.length = 0
              · have := hx0 h0
                omega
              · omega
          · (try simp only [cx, ne_eq] at h4)
            try (exfalso; (first | omega | exact h4 trivial | contradiction | (first | exact h4 rfl | cases h4 | (simp at h4; done))); done)
            all_goals
            refine SatC.exit (SatE.then_exit (SatE.then_exit (SatE.blk_exit (SatE.thenC ?_))))
            refine SatC.seq ?_
            have hl0 := left_nn ha 8
            have hco := left_zero ha 8 (by omega)
            have hcl2 := hi.fin (coll_nil hco ((fun hrr : right u => ⟨hrr.1, hrr.2.1⟩) (by assumption)))
            refine SatC.region ?_
            refine SatL.pu (RunV.move rfl) rfl ?_
            refine SatL.pu (RunV.move rfl) rfl ?_
            refine SatL.pu (RunV.eql rfl rfl) rfl ?_
            refine SatL.pu (RunV.move rfl) rfl ?_
            refine SatL.guard rfl rfl rfl (fun h5 => ?_) (fun h5 => ?_)
            · (try simp only [cx, ne_eq] at h5)
              try (exfalso; (first | omega | exact h5 trivial | contradiction | (first | exact h5 rfl | cases h5 | (simp at h5; done))); done)
              all_goals
              refine SatL.pu (RunV.move rfl) rfl ?_
              refine SatL.guard_y rfl rfl ?_
              refine SatL.op rfl (OpW.enter rfl rfl rfl (rfl) (list_any ho (hS.ownT (A := QO b mb mult (wh + 1) o) (by repeat constructor))) ?_)
              rintro r70 w70 ⟨ds2, B2, hper2, _, hsl2, h⟩
              replace hS := hS.call0 h
              rw [hco] at hper2
              obtain rfl := List.perm_nil.1 hper2
              obtain ⟨cV2, hvV2⟩ := hsl2.slv
              refine SatL.guard_y rfl rfl ?_
              first | refine SatL.pu (RunV.lenR (by assumption) rfl rfl) rfl ?_ | refine SatL.pu (RunV.lenS rfl rfl) rfl ?_
              refine SatL.guard_y rfl rfl ?_
              refine SatL.pu (RunV.eql rfl rfl) rfl ?_
              refine SatL.pu (RunV.pick_t rfl rfl) rfl ?_
              refine SatL.pu (RunV.move rfl) rfl ?_
              refine SatL.guard rfl rfl rfl (fun h6 => ?_) (fun h6 => ?_)
              · (try simp only [cx, ne_eq] at h6)
                try (exfalso; (first | omega | exact h6 trivial | contradiction | (first | exact h6 rfl | cases h6 | (simp at h6; done))); done)
                all_goals
                refine SatL.op rfl (OpW.enter rfl rfl rfl (rfl) (works_any _) ?_)
                rintro r71 w71 ⟨rfl, h⟩
                replace hS := St.callN hS h
                refine SatL.pu (RunV.pick_t rfl rfl) rfl ?_
                refine SatL.pu (RunV.assign rfl) rfl ?_
                refine SatL.nil (SatE.thenC ?_)
                refine SatC.ret ?_
                refine SatE.ret1 rfl rfl ?_
                exact ⟨rfl, hS.sel (by repeat constructor)⟩
              · (try simp only [cx, ne_eq] at h6)
                try (exfalso; (first | omega | exact h6 trivial | contradiction | (first | exact h6 rfl | cases h6 | (simp at h6; done))); done)
                all_goals
                refine SatL.pu (RunV.pick_f rfl rfl) rfl ?_
                refine SatL.pu (RunV.assign rfl) rfl ?_
                refine SatL.nil (SatE.thenC ?_)
                refine SatC.ret ?_
                refine SatE.ret1 rfl rfl ?_
                exact ⟨rfl, hS.sel (by repeat constructor)⟩
            · (try simp only [cx, ne_eq] at h5)
              try (exfalso; (first | omega | exact h5 trivial | contradiction | (first | exact h5 rfl | cases h5 | (simp at h5; done))); done)
              all_goals
              refine SatL.guard_n rfl rfl rfl rfl ?_
              refine SatL.guard_n rfl rfl rfl rfl ?_
              refine SatL.guard_n rfl rfl rfl rfl ?_
              refine SatL.pu (RunV.pick_f rfl rfl) rfl ?_
              refine SatL.pu (RunV.move rfl) rfl ?_
              refine SatL.guard_n rfl rfl rfl rfl ?_
              refine SatL.pu (RunV.pick_f rfl rfl) rfl ?_
              refine SatL.pu (RunV.assign rfl) rfl ?_
              refine SatL.nil (SatE.thenC ?_)
              refine SatC.ret ?_
              refine SatE.ret1 rfl rfl ?_
              exact ⟨rfl, hS.sel (by repeat constructor)⟩
        · (try simp only [cx, ne_eq] at h3)
          try (exfalso; (first | omega | exact h3 trivial | contradiction | (first | exact h3 rfl | cases h3 | (simp at h3; done))); done)
          all_goals
          refine SatL.guard_n rfl rfl rfl rfl ?_
          refine SatL.pu (RunV.pick_f rfl rfl) rfl ?_
          refine SatL.nil (SatE.thenC ?_)
          refine SatC.cond_f rfl ?_
          refine SatC.exit (SatE.then_exit (SatE.then_exit (SatE.blk_exit (SatE.thenC ?_))))
          refine SatC.seq ?_
          have hl0 := left_nn ha 8
          have hco := left_zero ha 8 (by omega)
          have hcl2 := hi.fin (coll_nil hco ((fun hrr : right u => ⟨hrr.1, hrr.2.1⟩) (by assumption)))
          refine SatC.region ?_
          refine SatL.pu (RunV.move rfl) rfl ?_
          refine SatL.pu (RunV.move rfl) rfl ?_
          refine SatL.pu (RunV.eql rfl rfl) rfl ?_
          refine SatL.pu (RunV.move rfl) rfl ?_
          refine SatL.guard rfl rfl rfl (fun h4 => ?_) (fun h4 => ?_)
          · (try simp only [cx, ne_eq] at h4)
            try (exfalso; (first | omega | exact h4 trivial | contradiction | (first | exact h4 rfl | cases h4 | (simp at h4; done))); done)
            all_goals
            refine SatL.pu (RunV.move rfl) rfl ?_
            refine SatL.guard_y rfl rfl ?_
            refine SatL.op rfl (OpW.enter rfl rfl rfl (rfl) (list_any ho (hS.ownT (A := QO b mb mult (wh + 1) o) (by repeat constructor))) ?_)
            rintro r70 w70 ⟨ds2, B2, hper2, _, hsl2, h⟩
            replace hS := hS.call0 h
            rw [hco] at hper2
            obtain rfl := List.perm_nil.1 hper2
            obtain ⟨cV2, hvV2⟩ := hsl2.slv
            refine SatL.guard_y rfl rfl ?_
            first | refine SatL.pu (RunV.lenR (by assumption) rfl rfl) rfl ?_ | refine SatL.pu (RunV.lenS rfl rfl) rfl ?_
            refine SatL.guard_y rfl rfl ?_
            refine SatL.pu (RunV.eql rfl rfl) rfl ?_
            refine SatL.pu (RunV.pick_t rfl rfl) rfl ?_
            refine SatL.pu (RunV.move rfl) rfl ?_
            refine SatL.guard rfl rfl rfl (fun h5 => ?_) (fun h5 => ?_)
            · (try simp only [cx, ne_eq] at h5)
              try (exfalso; (first | omega | exact h5 trivial | contradiction | (first | exact h5 rfl | cases h5 | (simp at h5; done))); done)
              all_goals
              refine SatL.op rfl (OpW.enter rfl rfl rfl (rfl) (works_any _) ?_)
              rintro r71 w71 ⟨rfl, h⟩
              replace hS := St.callN hS h
              refine SatL.pu (RunV.pick_t rfl rfl) rfl ?_
              refine SatL.pu (RunV.assign rfl) rfl ?_
              refine SatL.nil (SatE.thenC ?_)
              refine SatC.ret ?_
              refine SatE.ret1 rfl rfl ?_
              exact ⟨rfl, hS.sel (by repeat constructor)⟩
            · (try simp only [cx, ne_eq] at h5)
              try (exfalso; (first | omega | exact h5 trivial | contradiction | (first | exact h5 rfl | cases h5 | (simp at h5; done))); done)
              all_goals
              refine SatL.pu (RunV.pick_f rfl rfl) rfl ?_
              refine SatL.pu (RunV.assign rfl) rfl ?_
              refine SatL.nil (SatE.thenC ?_)
              refine SatC.ret ?_
              refine SatE.ret1 rfl rfl ?_
              exact ⟨rfl, hS.sel (by repeat constructor)⟩
          · (try simp only [cx, ne_eq] at h4)
            try (exfalso; (first | omega | exact h4 trivial | contradiction | (first | exact h4 rfl | cases h4 | (simp at h4; done))); done)
            all_goals
            refine SatL.guard_n rfl rfl rfl rfl ?_
            refine SatL.guard_n rfl rfl rfl rfl ?_
            refine SatL.guard_n rfl rfl rfl rfl ?_
            refine SatL.pu (RunV.pick_f rfl rfl) rfl ?_
            refine SatL.pu (RunV.move rfl) rfl ?_
            refine SatL.guard_n rfl rfl rfl rfl ?_
            refine SatL.pu (RunV.pick_f rfl rfl) rfl ?_
            refine SatL.pu (RunV.assign rfl) rfl ?_
            refine SatL.nil (SatE.thenC ?_)
            refine SatC.ret ?_
            refine SatE.ret1 rfl rfl ?_
            exact ⟨rfl, hS.sel (by repeat constructor)⟩
theorem rumorEnough_lifted (os : Os) (started : os.Started) (H : Type) (enc : TypeId × Value → H) :
    ReturnsInHanded {} Try.checked os 4 .any (Rows.rumorEnoughSpec.pre6 enc Try.prog Try.f4 Rows.rumorEnoughRow.domain false) (Rows.rumorEnoughSpec.post enc Try.prog Try.f4 false true false false) := by
  refine law_returns (C := Try.checked) (b := 4) (by kernel_rfl) started (by kernel_rfl) Try.func4
    (ChangeSpec.witness6 (enc := enc) (C := Try.checked) false ⟨#[], #[.int .i64 0, .agg #[.int .i64 0, .int .u32 0, .int .i64 0], .agg #[.slice none 0 0, .int .u16 0]], []⟩ 8 (by kernel_rfl) (by kernel_rfl) (by kernel_rfl) (by kernel_rfl))
    rfl rfl (by kernel_rfl) (by kernel_rfl) (by kernel_rfl) (fun ds h => ?_) ?_
  · rw [Try.params4] at h
    match ds, h with
    | [_, _, _], _ => rfl
  intro W base args ds ps hval hA hsz
  rw [Try.params4] at hA hval
  obtain ⟨v0, v1, v2, d0, d1, d2, q0, q1, q2, hargs, rfl, rfl, h0, h1, h2⟩ := trodAll_three hA
  subst hargs
  obtain ⟨a0, rfl, rfl, rfl, b0⟩ := open_int Try.underlying3 (hval 0 3 v0 rfl rfl) h0
  replace b0 := bnd_i64 b0
  obtain ⟨c1, rfl, l1⟩ := open_struct (l := [3, 27, 3]) 6 Try.underlying29 (by kernel_rfl) (hval 1 29 v1 rfl rfl) h1
  obtain ⟨a1_0, a1_1, a1_2, rfl, l1_0, l1_1, l1_2⟩ := allLeaf_list3 l1
  obtain ⟨a1_0, rfl, ba1_0⟩ := leaf_int Try.underlying3 l1_0
  replace ba1_0 := bnd_i64 ba1_0
  obtain ⟨a1_1, rfl, ba1_1⟩ := leaf_int Try.underlying27 l1_1
  replace ba1_1 := bnd_u32 ba1_1
  obtain ⟨a1_2, rfl, ba1_2⟩ := leaf_int Try.underlying3 l1_2
  replace ba1_2 := bnd_i64 ba1_2
  obtain ⟨c2, rfl, l2⟩ := open_struct (l := [32, 40]) 6 Try.underlying42 (by kernel_rfl) (hval 2 42 v2 rfl rfl) h2
  obtain ⟨a2_0, a2_1, rfl, l2_0, l2_1⟩ := allLeaf_list2 l2
  obtain ⟨xs2_0, hr2_0, hx2_0⟩ := leaf_rows (l := [3, 27, 3]) 6 Try.underlying32 (by kernel_rfl) (by kernel_rfl) (by decide) l2_0
  obtain ⟨ys2_0, rfl, hy2_0⟩ := rows_map (enc' := ud) (q := fun _ => True) (fun r hr => by
    obtain ⟨u0, u1, u2, rfl, l0, l1, l2⟩ := allLeaf_list3 hr
    obtain ⟨n0, rfl, e0⟩ := leaf_int Try.underlying3 l0
    obtain ⟨n1, rfl, e1⟩ := leaf_int Try.underlying27 l1
    obtain ⟨n2, rfl, e2⟩ := leaf_int Try.underlying3 l2
    exact ⟨⟨n0, n1, n2⟩, rfl, trivial⟩) xs2_0 hx2_0
  obtain ⟨a2_1, rfl, ba2_1⟩ := leaf_int Try.underlying40 l2_1
  replace ba2_1 := bnd_u16 ba2_1
  exact law_done (enough_any a0 ⟨a1_0, a1_1, a1_2⟩ _ a2_1 ys2_0 ba2_1 W hr2_0)
theorem rumorEnough_holds : Rows.RumorEnoughSaid :=
  OpenClaim.holds_of_wide 4 Try.f4 rfl rfl rfl rfl rfl rfl rfl ⟨rfl, rfl, rfl, rfl, rfl⟩ rfl rfl rfl rfl rfl (by kernel_rfl) Try.func4 (by kernel_rfl)
    (of_decide_eq_true (by kernel_rfl)) (by unfold Func.isWrapper; first | (rw [if_pos (by decide +kernel)]; kernel_rfl) | (rw [if_neg (by decide +kernel)]; exact ⟨rfl, rfl⟩))
    (fun os started H enc _ => rumorEnough_lifted os started H enc)
end Go.Proofs.Ytfkalbbdmlinlaa
