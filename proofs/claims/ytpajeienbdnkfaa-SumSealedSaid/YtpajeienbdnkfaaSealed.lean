/- SumSealed: any bytes, and their sum behind them, are sealed; any bytes are just if the document says so: true at every input, with no condition. -/
import Derived.Test.YtpajeienbdnkfaaE
import Derived.Test.YtpajeienbdnkfaaK7
import Derived.Test.YtpajeienbdnkfaaRows
set_option linter.unusedSimpArgs false
set_option linter.unusedVariables false
set_option maxRecDepth 100000
set_option maxHeartbeats 1000000
namespace Go.Proofs.Ytpajeienbdnkfaa
open Go.RowKit Go.ChangeShapes Go.WideShapes Go.ChangeAt
theorem toU8 {n : Int} (h : 0 ≤ n ∧ n ≤ 255) : ∃ a : BitVec 8, n = (a.toNat : Int) := ⟨BitVec.ofNat 8 n.toNat, by rw [BitVec.toNat_ofNat]; omega⟩
theorem sealed_short {bs : List (BitVec 8)} (h : bs.length < 4) : sealed bs = false := decide_eq_false fun e => by omega
theorem sealed_eq {bs : List (BitVec 8)} (h : 4 ≤ bs.length) : sealed bs = decide (tx (bs.take ((bs.length : Int) - 4).toNat ++ be (crc 0#32 (bs.take ((bs.length : Int) - 4).toNat))) = tx bs) := by
  rw [tx_dec, show ((bs.length : Int) - 4).toNat = bs.length - 4 by omega, sealed, Bool.eq_iff_iff]
  simp only [decide_eq_true_eq]
  constructor
  · rintro ⟨_, e⟩
    rw [e]
    exact List.take_append_drop _ _
  · intro e
    refine ⟨h, ?_⟩
    have := congrArg (List.drop (bs.length - 4)) e
    rw [List.drop_left' (by rw [List.length_take]; omega)] at this
    exact this
theorem ssealed_any (v : Value) (bs : List (BitVec 8)) (w : World) (hr : RdRow w v 1 (bs.map by1)) (hn : bs.length ≤ 140737488351232) : Ret Try.prog 6 #[v] w fun u w' => u = .bool true ∧ St w [] [] w' := by
  have hS := St.init0 w
  obtain ⟨b, o, c, hv, hmax, hc, hlt⟩ := hr.open
  simp only [List.length_map] at hv hmax hlt
  have hv1 : v.oneCell' = true := by obtain ⟨A, rfl, _⟩ := hv.eq; rfl
  refine Ret.enter Try.func6 Try.ntmps6 rfl rfl ?_
  simp only [argEnv, Nat.reduceAdd]
  refine SatC.seq ?_
  refine SatC.region ?_
  refine SatL.pu (RunV.assign rfl) rfl ?_
  refine SatL.nil (SatE.thenC ?_)
  refine SatC.seq ?_
  refine SatC.region ?_
  refine SatL.op rfl (OpW.buildSlice0 hS rfl rfl rfl ?_)
  clear hS
  intro v4 b4 w1 _ hsl4 hv4 hS
  refine SatL.pu (RunV.move rfl) rfl ?_
  refine SatL.op rfl (OpW.appendB (news := bs.map by1) hsl4 hS (by repeat constructor) hv (hc.st hS List.not_mem_nil) (by rw [List.length_map]) rfl rfl rfl rfl rfl rfl rfl (by1_one _) (by simp only [List.length_nil]; omega) (by simp only [List.length_nil]; omega) rfl ?_)
  clear hS
  intro v6 B6 w2 hsl6 hS
  rw [List.nil_append] at hsl6
  refine SatL.pu (RunV.move rfl) rfl ?_
  refine SatL.op rfl (OpW.buildSlice1 hS rfl rfl rfl rfl rfl (.one hv1) rfl rfl rfl ?_)
  clear hS
  intro b8 w3 _ hS
  refine SatL.op rfl (OpW.enter rfl rfl rfl (rfl) (sum_any _ [(v, bs)] _ (RdRow.of ⟨⟨_, rfl, fun _ => rfl⟩, Nat.le_refl _⟩ rfl (by simp) (RdC.own (post := []) hS (by repeat constructor) (by simp)) (by decide)) (fun p hp => (by obtain rfl := List.mem_singleton.1 hp; exact hr.st hS))) ?_)
  rintro r4 w4 ⟨rfl, h⟩
  replace hS := St.callN hS h
  refine SatL.op rfl (OpW.enter rfl rfl rfl (rfl) (bytes_any (crc 0#32 bs) _) ?_)
  rintro r5 w5 ⟨B10, hsl10, h⟩
  replace hS := hS.call0 h
  obtain ⟨c10, hv10⟩ := hsl10.slv
  rw [List.length_map, be_len] at hv10
  refine SatL.op rfl (OpW.appendB (news := (be (crc 0#32 bs)).map by1) hsl6 hS (by repeat constructor) hv10 (hsl10.rd hS (by repeat constructor)) (by rw [List.length_map, be_len]) rfl rfl rfl rfl rfl rfl rfl (by1_one _) (by rw [List.length_map]; omega) (by rw [List.length_map]; omega) rfl ?_)
  clear hS
  intro v11 B11 w6 hsl11 hS
  rw [← List.map_append] at hsl11
  obtain ⟨c11, hv11⟩ := hsl11.slv
  refine SatL.pu (RunV.assign rfl) rfl ?_
  refine SatL.nil (SatE.thenC ?_)
  refine SatC.seq ?_
  refine SatC.seq ?_
  refine SatC.drawnT 11 hS (hS.sel (R := B11) (by repeat constructor)) (by kernel_rfl) ?_
  clear hS
  intro w7 hh hS hD
  refine SatD.take 0 rfl [] (by kernel_rfl) (fun _ _ _ h => h) rfl rfl hD (fun _ hw => RunV.move rfl) ?_
  refine SatD.take 1 rfl [] (by kernel_rfl) (fun _ _ _ h => h) rfl rfl hD (fun _ hw => RunV.b2s (cs := tx (bs ++ be (crc 0#32 bs))) hv11 (by rw [← tx_rows]; exact hsl11.rd hw (by repeat constructor)) (by rw [tx_len, List.length_map]) rfl rfl rfl rfl) ?_
  refine SatD.take 2 rfl [] (by kernel_rfl) (fun _ _ _ h => h) rfl rfl hD (fun _ hw => RunV.move rfl) ?_
  refine SatD.eff 3 (by kernel_rfl) rfl rfl (OpW.enter rfl rfl rfl (rfl) (rsealed_any _ bs _ (hr.st hS) hn) ?_)
  rintro r8 w8 ⟨B15, hsl15, h⟩
  replace hS := hS.call0 h
  obtain ⟨c15, hv15⟩ := hsl15.slv
  refine keepS (hS.sel (by repeat constructor)) (fun hD => ?_)
  refine SatD.eff 4 (by kernel_rfl) rfl rfl (OpW.pure (RunV.b2s (cs := tx (bs ++ be (crc 0#32 bs))) hv15 (by rw [← tx_rows]; exact hsl15.rd hS (by repeat constructor)) (by rw [tx_len, List.length_map]) rfl rfl rfl rfl) rfl ?_)
  refine keepS (hS.sel (by repeat constructor)) (fun hD => ?_)
  refine SatD.take 5 rfl [] (by kernel_rfl) (fun _ _ _ h => h) rfl rfl hD (fun _ hw => RunV.sneq rfl rfl) ?_
  refine SatD.take 6 rfl [] (by kernel_rfl) (fun _ _ _ h => h) rfl rfl hD (fun _ hw => RunV.move rfl) ?_
  refine SatD.ways 18 rfl (fun h1 => ?_) (fun h1 => ?_)
  · (try simp only [cx, ne_eq, sealed_be, not_true_eq_false, Bool.true_eq_false] at h1)
    try (exfalso; (first | omega | exact h1 trivial | contradiction | exact h1 rfl | (rw [sealed_short (by omega)] at h1; cases h1) | exact h1 (sealed_eq (by omega))); done)
    all_goals
    refine SatD.skip 7 rfl [] (by kernel_rfl) (fun _ _ _ h => h) rfl rfl hD ?_
    refine SatD.skip 8 rfl [] (by kernel_rfl) (fun _ _ _ h => h) rfl rfl hD ?_
    refine SatD.skip 9 rfl [] (by kernel_rfl) (fun _ _ _ h => h) rfl rfl hD ?_
    refine SatD.take 10 rfl [] (by kernel_rfl) (fun _ _ _ h => h) rfl rfl hD (fun _ hw => RunV.pick_t rfl rfl) ?_
    refine SatD.done 0 (by kernel_rfl) (SatE.thenC ?_)
    clear hD
    refine SatC.weak (e' := [(0, _), (2, _), (22, _)]) (by repeat constructor) ?_
    refine SatC.cond_t rfl ?_
    refine SatC.seq ?_
    refine SatC.region ?_
    refine SatL.pu (RunV.assign rfl) rfl ?_
    refine SatL.nil (SatE.thenC ?_)
    refine SatC.ret (SatE.then_ret ?_)
    refine SatE.ret1 rfl rfl ?_
    exact ⟨by first | rfl | simp, hS.sub (List.nil_sublist _)⟩
  · (try simp only [cx, ne_eq, sealed_be, not_true_eq_false, Bool.true_eq_false] at h1)
    try (exfalso; (first | omega | exact h1 trivial | contradiction | exact h1 rfl | (rw [sealed_short (by omega)] at h1; cases h1) | exact h1 (sealed_eq (by omega))); done)
    all_goals
    refine SatD.take 7 rfl [] (by kernel_rfl) (fun _ _ _ h => h) rfl rfl hD (fun _ hw => RunV.move rfl) ?_
    refine SatD.eff 8 (by kernel_rfl) rfl rfl (OpW.enter rfl rfl rfl (rfl) (sealed_any _ (bs ++ be (crc 0#32 bs)) _ (hsl11.row hS (by repeat constructor) (by rw [List.length_map, List.length_append, be_len]; omega))) ?_)
    rintro r10 w10 ⟨rfl, h⟩
    replace hS := St.callN hS h
    refine keepS (hS.sel (by repeat constructor)) (fun hD => ?_)
    refine SatD.take 9 rfl [] (by kernel_rfl) (fun _ _ _ h => h) rfl rfl hD (fun _ hw => RunV.not rfl) ?_
    refine SatD.take 10 rfl [] (by kernel_rfl) (fun _ _ _ h => h) rfl rfl hD (fun _ hw => RunV.pick_f rfl rfl) ?_
    refine SatD.done 0 (by kernel_rfl) (SatE.thenC ?_)
    clear hD
    refine SatC.weak (e' := [(0, _), (2, _), (22, _)]) (by repeat constructor) ?_
    refine SatC.cond rfl (fun h2 => ?_) (fun h2 => ?_)
    · (try simp only [cx, ne_eq, sealed_be, not_true_eq_false, Bool.true_eq_false] at h2)
      try (exfalso; (first | omega | exact h2 trivial | contradiction | exact h2 rfl | (rw [sealed_short (by omega)] at h2; cases h2) | exact h2 (sealed_eq (by omega))); done)
      all_goals
      refine SatC.seq ?_
      refine SatC.region ?_
      refine SatL.pu (RunV.assign rfl) rfl ?_
      refine SatL.nil (SatE.thenC ?_)
      refine SatC.ret (SatE.then_ret ?_)
      refine SatE.ret1 rfl rfl ?_
      exact ⟨by first | rfl | simp, hS.sub (List.nil_sublist _)⟩
    · (try simp only [cx, ne_eq, sealed_be, not_true_eq_false, Bool.true_eq_false] at h2)
      try (exfalso; (first | omega | exact h2 trivial | contradiction | exact h2 rfl | (rw [sealed_short (by omega)] at h2; cases h2) | exact h2 (sealed_eq (by omega))); done)
      all_goals
      refine SatC.skip (SatE.thenC ?_)
      refine SatC.seq ?_
      refine SatC.seq ?_
      refine SatC.region ?_
      refine SatL.pu (RunV.move rfl) rfl ?_
      first | refine SatL.pu (RunV.lenR (by assumption) rfl rfl) rfl ?_ | refine SatL.pu (RunV.lenS rfl rfl) rfl ?_
      refine SatL.pu (RunV.lss rfl rfl) rfl ?_
      refine SatL.nil (SatE.thenC ?_)
      refine SatC.cond rfl (fun h3 => ?_) (fun h3 => ?_)
      · (try simp only [cx, ne_eq, sealed_be, not_true_eq_false, Bool.true_eq_false] at h3)
        try (exfalso; (first | omega | exact h3 trivial | contradiction | exact h3 rfl | (rw [sealed_short (by omega)] at h3; cases h3) | exact h3 (sealed_eq (by omega))); done)
        all_goals
        refine SatC.seq ?_
        refine SatC.region ?_
        refine SatL.pu (RunV.move rfl) rfl ?_
        refine SatL.op rfl (OpW.enter rfl rfl rfl (rfl) (sealed_any _ bs _ (hr.st hS)) ?_)
        rintro r11 w11 ⟨rfl, h⟩
        replace hS := St.callN hS h
        refine SatL.pu (RunV.not rfl) rfl ?_
        refine SatL.pu (RunV.move rfl) rfl ?_
        refine SatL.guard rfl rfl rfl (fun h4 => ?_) (fun h4 => ?_)
        · (try simp only [cx, ne_eq, sealed_be, not_true_eq_false, Bool.true_eq_false] at h4)
          try (exfalso; (first | omega | exact h4 trivial | contradiction | exact h4 rfl | (rw [sealed_short (by omega)] at h4; cases h4) | exact h4 (sealed_eq (by omega))); done)
          all_goals
          refine SatL.op rfl (OpW.enter rfl rfl rfl (rfl) (works_any _) ?_)
          rintro r12 w12 ⟨rfl, h⟩
          replace hS := St.callN hS h
          refine SatL.pu (RunV.pick_t rfl rfl) rfl ?_
          refine SatL.pu (RunV.assign rfl) rfl ?_
          refine SatL.nil (SatE.thenC ?_)
          refine SatC.ret (SatE.then_ret ?_)
          refine SatE.ret1 rfl rfl ?_
          exact ⟨by first | rfl | simp, hS.sub (List.nil_sublist _)⟩
        · (try simp only [cx, ne_eq, sealed_be, not_true_eq_false, Bool.true_eq_false] at h4)
          try (exfalso; (first | omega | exact h4 trivial | contradiction | exact h4 rfl | (rw [sealed_short (by omega)] at h4; cases h4) | exact h4 (sealed_eq (by omega))); done)
          all_goals
          refine SatL.pu (RunV.pick_f rfl rfl) rfl ?_
          refine SatL.pu (RunV.assign rfl) rfl ?_
          refine SatL.nil (SatE.thenC ?_)
          refine SatC.ret (SatE.then_ret ?_)
          refine SatE.ret1 rfl rfl ?_
          exact ⟨by first | rfl | simp, hS.sub (List.nil_sublist _)⟩
      · (try simp only [cx, ne_eq, sealed_be, not_true_eq_false, Bool.true_eq_false] at h3)
        try (exfalso; (first | omega | exact h3 trivial | contradiction | exact h3 rfl | (rw [sealed_short (by omega)] at h3; cases h3) | exact h3 (sealed_eq (by omega))); done)
        all_goals
        refine SatC.skip (SatE.thenC ?_)
        refine SatC.seq ?_
        refine SatC.drawnT 17 hS (hS.sel (R := []) .nil) (by kernel_rfl) ?_
        clear hS
        intro w11 hh hS hD
        refine SatD.take 0 rfl [] (by kernel_rfl) (fun _ _ _ h => h) rfl rfl hD (fun _ hw => RunV.move rfl) ?_
        refine SatD.take 2 rfl [] (by kernel_rfl) (fun _ _ _ h => h) rfl rfl hD (fun _ hw => RunV.move rfl) ?_
        refine SatD.take 3 rfl [] (by kernel_rfl) (fun _ _ _ h => h) rfl rfl hD (fun _ hw => RunV.move rfl) ?_
        first | refine SatD.take 4 rfl [] (by kernel_rfl) (fun _ _ _ h => h) rfl rfl hD (fun _ hw => RunV.lenR (by assumption) rfl rfl) ?_ | refine SatD.take 4 rfl [] (by kernel_rfl) (fun _ _ _ h => h) rfl rfl hD (fun _ hw => RunV.lenS rfl rfl) ?_
        refine SatD.take 5 rfl [] (by kernel_rfl) (fun _ _ _ h => h) rfl rfl hD (fun _ hw => RunV.sub rfl rfl (by first | exact wrapI64 (by omega) | rfl)) ?_
        refine SatD.take 6 rfl [] (by kernel_rfl) (fun _ _ _ h => h) rfl rfl hD (fun _ hw => RunV.cutHv (by assumption) rfl rfl rfl rfl (by omega) (by omega)) ?_
        refine SatD.take 9 rfl [] (by kernel_rfl) (fun _ _ _ h => h) rfl rfl hD (fun _ hw => RunV.move rfl) ?_
        refine SatD.take 10 rfl [] (by kernel_rfl) (fun _ _ _ h => h) rfl rfl hD (fun _ hw => RunV.b2s (cs := tx bs) hv (by rw [← tx_rows]; exact hc.st hw List.not_mem_nil) (by rw [tx_len]) rfl rfl rfl rfl) ?_
        refine SatD.eff 1 (by kernel_rfl) rfl rfl (OpW.enter rfl rfl rfl (rfl) (sealed_any _ bs _ (hr.st hS)) ?_)
        rintro r12 w12 ⟨rfl, h⟩
        replace hS := St.callN hS h
        refine keepS (hS.sel (by repeat constructor)) (fun hD => ?_)
        refine SatD.eff 7 (by kernel_rfl) rfl rfl (OpW.enter rfl rfl rfl (rfl) (rsealed_any _ (bs.take ((bs.length : Int) - 4).toNat) _ (rd_take hv (hc.st hS List.not_mem_nil) (by omega) hmax) (by rw [List.length_take]; omega)) ?_)
        rintro r13 w13 ⟨B39, hsl39, h⟩
        replace hS := hS.call0 h
        obtain ⟨c39, hv39⟩ := hsl39.slv
        refine keepS (hS.sel (by repeat constructor)) (fun hD => ?_)
        refine SatD.eff 8 (by kernel_rfl) rfl rfl (OpW.pure (RunV.b2s (cs := tx (bs.take ((bs.length : Int) - 4).toNat ++ be (crc 0#32 (bs.take ((bs.length : Int) - 4).toNat)))) hv39 (by rw [← tx_rows]; exact hsl39.rd hS (by repeat constructor)) (by rw [tx_len, List.length_map]) rfl rfl rfl rfl) rfl ?_)
        refine keepS (hS.sel (by repeat constructor)) (fun hD => ?_)
        refine SatD.take 11 rfl [] (by kernel_rfl) (fun _ _ _ h => h) rfl rfl hD (fun _ hw => RunV.seql rfl rfl) ?_
        refine SatD.take 12 rfl [] (by kernel_rfl) (fun _ _ _ h => h) rfl rfl hD (fun _ hw => RunV.beql rfl rfl rfl) ?_
        refine SatD.take 13 rfl [] (by kernel_rfl) (fun _ _ _ h => h) rfl rfl hD (fun _ hw => RunV.move rfl) ?_
        refine SatD.ways 45 rfl (fun h4 => ?_) (fun h4 => ?_)
        · (try simp only [cx, ne_eq, sealed_be, not_true_eq_false, Bool.true_eq_false] at h4)
          try (exfalso; (first | omega | exact h4 trivial | contradiction | exact h4 rfl | (rw [sealed_short (by omega)] at h4; cases h4) | exact h4 (sealed_eq (by omega))); done)
          all_goals
          refine SatD.eff 14 (by kernel_rfl) rfl rfl (OpW.enter rfl rfl rfl (rfl) (works_any _) ?_)
          rintro r15 w15 ⟨rfl, h⟩
          replace hS := St.callN hS h
          refine keepS (hS.sel (by repeat constructor)) (fun hD => ?_)
          refine SatD.take 15 rfl [] (by kernel_rfl) (fun _ _ _ h => h) rfl rfl hD (fun _ hw => RunV.pick_t rfl rfl) ?_
          refine SatD.take 16 rfl [] (by kernel_rfl) (fun _ _ _ h => h) rfl rfl hD (fun _ hw => RunV.assign rfl) ?_
          refine SatD.done 0 (by kernel_rfl) (SatE.thenC ?_)
          clear hD
          refine SatC.ret ?_
          refine SatE.ret1 rfl rfl ?_
          exact ⟨by first | rfl | simp, hS.sub (List.nil_sublist _)⟩
        · (try simp only [cx, ne_eq, sealed_be, not_true_eq_false, Bool.true_eq_false] at h4)
          try (exfalso; (first | omega | exact h4 trivial | contradiction | exact h4 rfl | (rw [sealed_short (by omega)] at h4; cases h4) | exact h4 (sealed_eq (by omega))); done)
          all_goals
          refine SatD.skip 14 rfl [] (by kernel_rfl) (fun _ _ _ h => h) rfl rfl hD ?_
          refine SatD.take 15 rfl [] (by kernel_rfl) (fun _ _ _ h => h) rfl rfl hD (fun _ hw => RunV.pick_f rfl rfl) ?_
          refine SatD.take 16 rfl [] (by kernel_rfl) (fun _ _ _ h => h) rfl rfl hD (fun _ hw => RunV.assign rfl) ?_
          refine SatD.done 0 (by kernel_rfl) (SatE.thenC ?_)
          clear hD
          refine SatC.ret ?_
          refine SatE.ret1 rfl rfl ?_
          exact ⟨by first | rfl | simp, hS.sub (List.nil_sublist _)⟩
theorem sumSealed_lifted (os : Os) (started : os.Started) (H : Type) (enc : TypeId × Value → H) :
    ReturnsInHanded {} Try.checked os 6 .any (Rows.sumSealedSpec.pre6 enc Try.prog Try.f6 Rows.sumSealedRow.domain false) (Rows.sumSealedSpec.post enc Try.prog Try.f6 false true false false) := by
  refine law_returns (C := Try.checked) (b := 4) (by kernel_rfl) started (by kernel_rfl) Try.func6
    (ChangeSpec.witness6 (enc := enc) (C := Try.checked) false ⟨#[], #[.slice none 0 0], []⟩ 8 (by kernel_rfl) (by kernel_rfl) (by kernel_rfl) (by kernel_rfl))
    rfl rfl (by kernel_rfl) (by kernel_rfl) (by kernel_rfl) (fun ds h => ?_) ?_
  · rw [Try.params6] at h
    match ds, h with
    | [_], _ => rfl
  intro W base args ds ps hval hA hsz
  rw [Try.params6] at hA hval
  obtain ⟨v0, d0, hargs, rfl, h0⟩ := trodAll_one hA
  subst hargs
  obtain ⟨xs0, hr0, hx0⟩ := open_rows (l := [5]) 6 Try.underlying22 (by kernel_rfl) (by kernel_rfl) (by decide) (hval 0 22 v0 rfl rfl) h0
  obtain ⟨ys0, rfl, hy0⟩ := rows_map (enc' := by1) (q := fun _ => True) (fun r hr => by
    obtain ⟨u0, rfl, l0⟩ := allLeaf_list1 hr
    obtain ⟨n0, rfl, e0⟩ := leaf_int Try.underlying5 l0
    obtain ⟨a, rfl⟩ := toU8 (bnd_u8 e0); exact ⟨a, rfl, trivial⟩) xs0 hx0
  exact law_done (ssealed_any _ ys0 W hr0 (by have := rows_len (n := 1) hsz (j := 0) (by rw [Try.params6]; rfl) rfl Try.underlying22 (by kernel_rfl) (hval 0 22 v0 rfl rfl) h0 hr0; rw [List.length_map] at this; omega))
theorem sumSealed_holds : Rows.SumSealedSaid :=
  OpenClaim.holds_of_wide 6 Try.f6 rfl rfl rfl rfl rfl rfl rfl ⟨rfl, rfl, rfl, rfl, rfl⟩ rfl rfl rfl rfl rfl (by kernel_rfl) Try.func6 (by kernel_rfl)
    (of_decide_eq_true (by kernel_rfl)) (by unfold Func.isWrapper; first | (rw [if_pos (by decide +kernel)]; kernel_rfl) | (rw [if_neg (by decide +kernel)]; exact ⟨rfl, rfl⟩))
    (fun os started H enc _ => sumSealed_lifted os started H enc)
end Go.Proofs.Ytpajeienbdnkfaa
