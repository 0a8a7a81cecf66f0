/- FlightPlays: whatever is sent, picked and lost, what is in flight is what the document says. -/
import Derived.Test.YtpnkcoahbadnjaaPs
import Derived.Test.YtpnkcoahbadnjaaW
import Derived.Test.YtpnkcoahbadnjaaK7
import Derived.Test.YtpnkcoahbadnjaaK16
import Derived.Test.YtpnkcoahbadnjaaK25
import Derived.Test.YtpnkcoahbadnjaaRows
set_option linter.unusedSimpArgs false
set_option linter.unusedVariables false
set_option maxRecDepth 100000
set_option maxHeartbeats 16000000
namespace Go.Proofs.Ytpnkcoahbadnjaa
open Go.RowKit Go.ChangeShapes Go.WideShapes Go.ChangeAt
theorem plays_any (n : Int) (v : Value) (ys : List Stp) (w : World) (hr : RdRow w v 5 (ys.map sr)) (hys : ∀ y ∈ ys, StB w y) : Ret Try.prog 5 #[.int .i64 n, v] w fun u w' => u = .bool true ∧ St w [] [] w' := by
  have hS := St.init0 w
  obtain ⟨bl, ol, cl, hvl, hmaxl, hcl, hltl⟩ := hr.open
  simp only [List.length_map] at hvl hmaxl hltl
  have hm : ¬ min (max n 1) 256 = 0 := by omega
  generalize hM : min (max n 1) 256 = most at hm
  refine Ret.enter Try.func5 Try.ntmps5 rfl rfl ?_
  simp only [argEnv, Nat.reduceAdd]
  refine SatC.seq ?_
  refine SatC.region ?_
  refine SatL.pu (RunV.assign rfl) rfl ?_
  refine SatL.nil (SatE.thenC ?_)
  refine SatC.seq ?_
  refine SatC.region ?_
  refine SatL.pu (RunV.move rfl) rfl ?_
  refine SatL.op rfl (OpW.enter rfl rfl rfl (rfl) (fnew_any n _) ?_)
  rintro r1 w1 ⟨b, rfl, h⟩
  replace hS := hS.call0 h
  rw [hM] at hS
  simp only [List.append_assoc, List.cons_append, List.nil_append, List.append_nil] at hS
  refine SatL.pu (RunV.assign rfl) rfl ?_
  refine SatL.nil (SatE.thenC ?_)
  refine SatC.seq ?_
  refine SatC.region ?_
  refine SatL.pu (RunV.move rfl) rfl ?_
  refine SatL.op rfl (OpW.enter rfl rfl rfl (rfl) (rnew_any n _) ?_)
  rintro r2 w2 ⟨rb, rfl, h⟩
  replace hS := hS.call0 h
  rw [hM] at hS
  simp only [List.append_assoc, List.cons_append, List.nil_append, List.append_nil] at hS
  refine SatL.pu (RunV.assign rfl) rfl ?_
  refine SatL.nil (SatE.thenC ?_)
  refine SatC.seq ?_
  refine SatC.seq ?_
  refine SatC.region ?_
  refine SatL.pu (RunV.assign rfl) rfl ?_
  refine SatL.nil (SatE.thenC ?_)
  refine SatC.block ?_
  refine SatC.loopK (G := Nat × List Fl × List Fl × Value × Value × Int × List (Nat × Obj) × List (Nat × Obj) × List (Nat × Obj)) (V := fun ⟨i, l, rl, fv, rv, given, B, D, RB⟩ => [(7, .int .i64 (i : Int))]) (Cn := [(1, _), (5, _), (6, _), (4, _)]) (I := fun ⟨i, l, rl, fv, rv, given, B, D, RB⟩ w' => i ≤ ys.length ∧ i ≤ 80 ∧ l.length ≤ i ∧ (0 ≤ given ∧ given ≤ i) ∧ l.map key = rl.map key ∧ AllBd D l ∧ (∀ x ∈ rl, RdRow w x.v 1 (x.b.map by1c)) ∧ Sl 32 4 fv (l.map fr) B ∧ Sl 32 4 rv (rl.map fr) RB ∧ St w [] (FO b fv most given B D ++ RO rb rv most given RB) w') (μ := fun ⟨i, l, rl, fv, rv, given, B, D, RB⟩ => ys.length - i) (0, [], [], .slice none 0 0, .slice none 0 0, 0, [], [], []) ?_ (by repeat constructor) ?_
  · exact ⟨Nat.zero_le _, Nat.zero_le _, Nat.zero_le _, ⟨Int.le_refl _, Int.le_refl _⟩, rfl, (fun x hx => by cases hx), (fun x hx => by cases hx), .nil, .nil, hS.sel (by repeat constructor)⟩
  clear hS
  rintro ⟨i, l, rl, fv, rv, given, B, D, RB⟩ w3 ⟨hi, hi2, hli, hg, hkey, hab, hrl, hsl, hrsl, hS⟩
  have hown := hS.toOwn
  refine SatC.weak (e' := [(1, _), (4, _), (5, _), (6, _), (7, _)]) (by repeat constructor) ?_
  refine SatC.seq ?_
  refine SatC.seq ?_
  refine SatC.region ?_
  refine SatL.pu (RunV.move rfl) rfl ?_
  refine SatL.pu (RunV.move rfl) rfl ?_
  first | refine SatL.pu (RunV.lenR (by assumption) rfl rfl) rfl ?_ | refine SatL.pu (RunV.lenS rfl rfl) rfl ?_
  refine SatL.pu (RunV.lss rfl rfl) rfl ?_
  refine SatL.pu (RunV.move rfl) rfl ?_
  refine SatL.guard rfl rfl rfl (fun h1 => ?_) (fun h1 => ?_)
  · (try simp only [cx, ne_eq] at h1)
    try (exfalso; (first | omega | exact h1 trivial | contradiction | (simp at h1; done)); done)
    all_goals
    refine SatL.pu (RunV.move rfl) rfl ?_
    refine SatL.guard_y rfl rfl ?_
    refine SatL.pu (RunV.lss rfl rfl) rfl ?_
    refine SatL.pu (RunV.pick_t rfl rfl) rfl ?_
    refine SatL.nil (SatE.thenC ?_)
    refine SatC.cond rfl (fun h2 => ?_) (fun h2 => ?_)
    · (try simp only [cx, ne_eq] at h2)
      try (exfalso; (first | omega | exact h2 trivial | contradiction | (simp at h2; done)); done)
      all_goals
      refine SatC.skip (SatE.thenC ?_)
      refine SatC.seq ?_
      refine SatC.block ?_
      refine SatC.seq ?_
      obtain ⟨y, hy⟩ := get_some ys i (by omega)
      have hyb := hys y (List.mem_of_getElem? hy)
      have hcom : ∀ {W'}, St _ ((FO b fv most given B D ++ RO rb rv most given RB).map Prod.fst) [] W' → St w [] [] W' := fun h => (St.call (B := []) (by rw [List.append_nil]; exact hS) h).sel .nil
      refine SatC.region ?_
      refine SatL.pu (RunV.move rfl) rfl ?_
      refine SatL.pu (RunV.move rfl) rfl ?_
      refine SatL.pu (RunV.move rfl) rfl ?_
      refine SatL.pu (RunV.move rfl) rfl ?_
      first | refine SatL.pu (RunV.indexR (by assumption) rfl rfl rfl (by omega) (by omega) rfl) rfl ?_ | refine SatL.pu (RunV.indexS rfl rfl rfl (by omega) (by omega) rfl) rfl ?_
      first | refine SatL.pu (RunV.loadRNz (RdC.st (by assumption) hS List.not_mem_nil) rfl rfl (by first | assumption | exact map_get (by assumption))) rfl ?_ | refine SatL.pu (RunV.loadRNz (Sl.rd (by assumption) hS (by repeat constructor)) rfl rfl (by first | assumption | exact map_get (by assumption))) rfl ?_
      refine SatL.op rfl (OpW.enter rfl rfl rfl (rfl) (step_any y hm ⟨hg.1, by omega⟩ (by omega) hkey hab (fun W' h => RdRow.st hyb (hcom h)) (fun W' h x hx => RdRow.st (hrl x hx) (hcom h)) hsl hrsl hown) ?_)
      rintro r4 w4 ⟨rfl, l2, rl2, fv2, rv2, given2, B2, D2, RB2, hkey2, hl2, hg2, hab2, hfrom, hsl2, hrsl2, h⟩
      replace hS := (St.call (B := []) (by rw [List.append_nil]; exact hS) h)
      rw [List.append_nil] at hS
      refine SatL.pu (RunV.not rfl) rfl ?_
      refine SatL.pu (RunV.move rfl) rfl ?_
      refine SatL.guard rfl rfl rfl (fun h3 => ?_) (fun h3 => ?_)
      · (try simp only [cx, ne_eq] at h3)
        try (exfalso; (first | omega | exact h3 trivial | contradiction | (simp at h3; done)); done)
        all_goals
        refine SatL.pu (RunV.move rfl) rfl ?_
        refine SatL.guard_y rfl rfl ?_
        refine SatL.pu (RunV.move rfl) rfl ?_
        refine SatL.guard_y rfl rfl ?_
        refine SatL.op rfl (OpW.enter rfl rfl rfl (rfl) (lsame_any hm (by omega) hkey2 hab2 (fun x hx => by
          rcases hfrom x hx with ⟨e1, e2⟩ | ⟨z, hz, e1, e2⟩
          · rw [e1, e2]; exact RdRow.st hyb (hS.sel .nil)
          · rw [e1, e2]; exact RdRow.st (hrl z hz) (hS.sel .nil)) hsl2 hrsl2 hS.toOwn) ?_)
        rintro r5 w5 ⟨rfl, h⟩
        replace hS := St.callN hS h
        refine SatL.guard_y rfl rfl ?_
        refine SatL.pu (RunV.not rfl) rfl ?_
        refine SatL.pu (RunV.pick_f rfl rfl) rfl ?_
        refine SatL.nil (SatE.thenC ?_)
        refine SatC.weak (e' := [(1, _), (4, _), (5, _), (6, _), (7, _), (35, _)]) (by repeat constructor) ?_
        refine SatC.cond rfl (fun h4 => ?_) (fun h4 => ?_)
        · (try simp only [cx, ne_eq] at h4)
          try (exfalso; (first | omega | exact h4 trivial | contradiction | (simp at h4; done)); done)
          all_goals
          refine SatC.seq ?_
          refine SatC.region ?_
          refine SatL.pu (RunV.assign rfl) rfl ?_
          refine SatL.nil (SatE.thenC ?_)
          refine SatC.ret (SatE.blk_ret (SatE.then_ret (SatE.then_ret (SatE.blk_ret (SatE.then_ret ?_)))))
          refine SatE.ret1 rfl rfl ?_
          exact ⟨rfl, hS.sel .nil⟩
        · (try simp only [cx, ne_eq] at h4)
          try (exfalso; (first | omega | exact h4 trivial | contradiction | (simp at h4; done)); done)
          all_goals
          refine SatC.skip (SatE.blk_normal (SatE.thenC ?_))
          refine SatC.region ?_
          refine SatL.pu (RunV.move rfl) rfl ?_
          refine SatL.pu (RunV.add rfl rfl (by first | exact wrapI64 (by omega) | rfl)) rfl ?_
          refine SatL.pu (RunV.assign rfl) rfl ?_
          refine SatL.nil ?_
          refine SatE.again ((i + 1, l2, rl2, fv2, rv2, given2, B2, D2, RB2)) ?_ (by first | omega | (dsimp only; omega)) (by repeat constructor)
          exact ⟨by omega, by omega, by omega, ⟨by omega, by omega⟩, hkey2, hab2, (fun x hx => by
            rcases hfrom x hx with ⟨e1, e2⟩ | ⟨z, hz, e1, e2⟩
            · rw [e1, e2]; exact hyb
            · rw [e1, e2]; exact hrl z hz), hsl2, hrsl2, hS⟩
      · (try simp only [cx, ne_eq] at h3)
        try (exfalso; (first | omega | exact h3 trivial | contradiction | (simp at h3; done)); done)
        all_goals
        refine SatL.guard_n rfl rfl rfl rfl ?_
        refine SatL.guard_n rfl rfl rfl rfl ?_
        refine SatL.guard_n rfl rfl rfl rfl ?_
        refine SatL.pu (RunV.pick_t rfl rfl) rfl ?_
        refine SatL.nil (SatE.thenC ?_)
        refine SatC.weak (e' := [(1, _), (4, _), (5, _), (6, _), (7, _), (35, _)]) (by repeat constructor) ?_
        refine SatC.cond_t rfl ?_
        refine SatC.seq ?_
        refine SatC.region ?_
        refine SatL.pu (RunV.assign rfl) rfl ?_
        refine SatL.nil (SatE.thenC ?_)
        refine SatC.ret (SatE.blk_ret (SatE.then_ret (SatE.then_ret (SatE.blk_ret (SatE.then_ret ?_)))))
        refine SatE.ret1 rfl rfl ?_
        exact ⟨rfl, hS.sel .nil⟩
    · (try simp only [cx, ne_eq] at h2)
      try (exfalso; (first | omega | exact h2 trivial | contradiction | (simp at h2; done)); done)
      all_goals
      refine SatC.exit (SatE.then_exit (SatE.then_exit (SatE.blk_exit (SatE.thenC ?_))))
      refine SatC.seq ?_
      refine SatC.region ?_
      refine SatL.pu (RunV.move rfl) rfl ?_
      refine SatL.pu (RunV.move rfl) rfl ?_
      refine SatL.op rfl (OpW.enter rfl rfl rfl (rfl) (lsame_any hm (by omega) hkey hab (fun x hx => RdRow.st (hrl x hx) (hS.sel .nil)) hsl hrsl hS.toOwn) ?_)
      rintro r4 w4 ⟨rfl, h⟩
      replace hS := St.callN hS h
      refine SatL.pu (RunV.move rfl) rfl ?_
      refine SatL.guard rfl rfl rfl (fun h3 => ?_) (fun h3 => ?_)
      · (try simp only [cx, ne_eq] at h3)
        try (exfalso; (first | omega | exact h3 trivial | contradiction | (simp at h3; done)); done)
        all_goals
        refine SatL.op rfl (OpW.enter rfl rfl rfl (rfl) (works_any _) ?_)
        rintro r5 w5 ⟨rfl, h⟩
        replace hS := St.callN hS h
        refine SatL.pu (RunV.pick_t rfl rfl) rfl ?_
        refine SatL.pu (RunV.assign rfl) rfl ?_
        refine SatL.nil (SatE.thenC ?_)
        refine SatC.ret ?_
        refine SatE.ret1 rfl rfl ?_
        exact ⟨rfl, hS.sel .nil⟩
      · (try simp only [cx, ne_eq] at h3)
        try (exfalso; (first | omega | exact h3 trivial | contradiction | (simp at h3; done)); done)
        all_goals
        refine SatL.pu (RunV.pick_f rfl rfl) rfl ?_
        refine SatL.pu (RunV.assign rfl) rfl ?_
        refine SatL.nil (SatE.thenC ?_)
        refine SatC.ret ?_
        refine SatE.ret1 rfl rfl ?_
        exact ⟨rfl, hS.sel .nil⟩
  · (try simp only [cx, ne_eq] at h1)
    try (exfalso; (first | omega | exact h1 trivial | contradiction | (simp at h1; done)); done)
    all_goals
    refine SatL.guard_n rfl rfl rfl rfl ?_
    refine SatL.pu (RunV.pick_f rfl rfl) rfl ?_
    refine SatL.nil (SatE.thenC ?_)
    refine SatC.cond_f rfl ?_
    refine SatC.exit (SatE.then_exit (SatE.then_exit (SatE.blk_exit (SatE.thenC ?_))))
    refine SatC.seq ?_
    refine SatC.region ?_
    refine SatL.pu (RunV.move rfl) rfl ?_
    refine SatL.pu (RunV.move rfl) rfl ?_
    refine SatL.op rfl (OpW.enter rfl rfl rfl (rfl) (lsame_any hm (by omega) hkey hab (fun x hx => RdRow.st (hrl x hx) (hS.sel .nil)) hsl hrsl hS.toOwn) ?_)
    rintro r4 w4 ⟨rfl, h⟩
    replace hS := St.callN hS h
    refine SatL.pu (RunV.move rfl) rfl ?_
    refine SatL.guard rfl rfl rfl (fun h2 => ?_) (fun h2 => ?_)
    · (try simp only [cx, ne_eq] at h2)
      try (exfalso; (first | omega | exact h2 trivial | contradiction | (simp at h2; done)); done)
      all_goals
      refine SatL.op rfl (OpW.enter rfl rfl rfl (rfl) (works_any _) ?_)
      rintro r5 w5 ⟨rfl, h⟩
      replace hS := St.callN hS h
      refine SatL.pu (RunV.pick_t rfl rfl) rfl ?_
      refine SatL.pu (RunV.assign rfl) rfl ?_
      refine SatL.nil (SatE.thenC ?_)
      refine SatC.ret ?_
      refine SatE.ret1 rfl rfl ?_
      exact ⟨rfl, hS.sel .nil⟩
    · (try simp only [cx, ne_eq] at h2)
      try (exfalso; (first | omega | exact h2 trivial | contradiction | (simp at h2; done)); done)
      all_goals
      refine SatL.pu (RunV.pick_f rfl rfl) rfl ?_
      refine SatL.pu (RunV.assign rfl) rfl ?_
      refine SatL.nil (SatE.thenC ?_)
      refine SatC.ret ?_
      refine SatE.ret1 rfl rfl ?_
      exact ⟨rfl, hS.sel .nil⟩
theorem flightPlays_lifted (os : Os) (started : os.Started) (H : Type) (enc : TypeId × Value → H) :
    ReturnsInHanded {} Try.checked os 5 .any (Rows.flightPlaysSpec.pre6 enc Try.prog Try.f5 Rows.flightPlaysRow.domain false) (Rows.flightPlaysSpec.post enc Try.prog Try.f5 false true false false) := by
  refine law_returns (C := Try.checked) (b := 4) (by kernel_rfl) started (by kernel_rfl) Try.func5
    (ChangeSpec.witness6 (enc := enc) (C := Try.checked) false ⟨#[], #[.int .i64 0, .slice none 0 0], []⟩ 8 (by kernel_rfl) (by kernel_rfl) (by kernel_rfl) (by kernel_rfl))
    rfl rfl (by kernel_rfl) (by kernel_rfl) (by kernel_rfl) (fun ds h => ?_) ?_
  · rw [Try.params5] at h
    match ds, h with
    | [_, _], _ => rfl
  intro W base args ds ps hval hA hsz
  rw [Try.params5] at hA hval
  obtain ⟨v0, v1, d0, d1, q0, q1, hargs, rfl, rfl, h0, h1⟩ := trodAll_two hA
  subst hargs
  obtain ⟨a0, rfl, rfl, rfl, b0⟩ := open_int Try.underlying3 (hval 0 3 v0 rfl rfl) h0
  replace b0 := bnd_i64 b0
  obtain ⟨xs1, hr1, hx1⟩ := open_rows (l := [3, 3, 3, 3, 22]) 6 Try.underlying38 (by kernel_rfl) (by kernel_rfl) (by decide) (hval 1 38 v1 rfl rfl) h1
  obtain ⟨ys1, rfl, hy1⟩ := rows_map (enc' := sr) (q := StB W) (fun r hr => by
    obtain ⟨u0, u1, u2, u3, u4, rfl, l0, l1, l2, l3, l4⟩ := allLeaf_list5 hr
    obtain ⟨n0, rfl, e0⟩ := leaf_int Try.underlying3 l0
    obtain ⟨n1, rfl, e1⟩ := leaf_int Try.underlying3 l1
    obtain ⟨n2, rfl, e2⟩ := leaf_int Try.underlying3 l2
    obtain ⟨n3, rfl, e3⟩ := leaf_int Try.underlying3 l3
    obtain ⟨xb, hb, hxb⟩ := leaf_rows (l := [5]) 6 Try.underlying22 (by kernel_rfl) (by kernel_rfl) (by decide) l4
    obtain ⟨bs, rfl, _⟩ := rows_map (enc' := by1c) (q := fun _ => True) (fun r hr => by
      obtain ⟨u, rfl, lu⟩ := allLeaf_list1 hr
      obtain ⟨m, rfl, em⟩ := leaf_int Try.underlying5 lu
      obtain ⟨c, rfl⟩ : ∃ c : UInt8, m = (c.toNat : Int) := ⟨UInt8.ofNat m.toNat, by have := bnd_u8 em; simp; omega⟩
      exact ⟨c, rfl, trivial⟩) xb hxb
    exact ⟨⟨n0, n1, n2, n3, u4, bs⟩, rfl, hb⟩) xs1 hx1
  exact law_done (plays_any a0 _ ys1 W hr1 hy1)
theorem flightPlays_holds : Rows.FlightPlaysSaid :=
  OpenClaim.holds_of_wide 5 Try.f5 rfl rfl rfl rfl rfl rfl rfl ⟨rfl, rfl, rfl, rfl, rfl⟩ rfl rfl rfl rfl rfl (by kernel_rfl) Try.func5 (by kernel_rfl)
    (of_decide_eq_true (by kernel_rfl)) (by unfold Func.isWrapper; first | (rw [if_pos (by decide +kernel)]; kernel_rfl) | (rw [if_neg (by decide +kernel)]; exact ⟨rfl, rfl⟩))
    (fun os started H enc _ => flightPlays_lifted os started H enc)
end Go.Proofs.Ytpnkcoahbadnjaa
