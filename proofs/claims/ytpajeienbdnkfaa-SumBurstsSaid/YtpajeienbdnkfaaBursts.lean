/- SumBursts: bits that are turned within 32 that follow one another turn the sum, and spoil what is sealed: true at every input, with no condition. -/
import Derived.Test.YtpajeienbdnkfaaF
import Derived.Test.YtpajeienbdnkfaaK7
import Derived.Test.YtpajeienbdnkfaaRows
set_option linter.unusedSimpArgs false
set_option linter.unusedVariables false
set_option maxRecDepth 100000
set_option maxHeartbeats 1000000
namespace Go.Proofs.Ytpajeienbdnkfaa
open Go.RowKit Go.ChangeShapes Go.WideShapes Go.ChangeAt
theorem toU8 {n : Int} (h : 0 ≤ n ∧ n ≤ 255) : ∃ a : BitVec 8, n = (a.toNat : Int) := ⟨BitVec.ofNat 8 n.toNat, by rw [BitVec.toNat_ofNat]; omega⟩
theorem toU32 {n : Int} (h : 0 ≤ n ∧ n ≤ 4294967295) : ∃ a : BitVec 32, n = (a.toNat : Int) := ⟨BitVec.ofNat 32 n.toNat, by rw [BitVec.toNat_ofNat]; omega⟩
theorem tn_sum {bs c : List (BitVec 8)} {q : Bool} (h : Tn bs c q) : decide (¬ ((crc 0#32 bs).toNat : Int) = ((crc 0#32 c).toNat : Int)) = q := by
  obtain ⟨k, i, m, h1, h2, h3, rfl⟩ := h
  rw [← crc_turned h3 h1 h2, Bool.eq_iff_iff]
  simp only [decide_eq_true_eq]
  constructor
  · intro h e
    exact h (by rw [e])
  · intro h e
    exact h (BitVec.eq_of_toNat_eq (by omega))
theorem tn_len {bs c : List (BitVec 8)} {q : Bool} (h : Tn bs c q) : c.length = bs.length := by
  obtain ⟨k, i, m, h1, h2, h3, rfl⟩ := h
  exact h3.1
theorem tn_sealed {b t : List (BitVec 8)} {q : Bool} (h : Tn (b ++ be (crc 0#32 b)) t q) : sealed t = !q := by
  obtain ⟨k, i, m, h1, h2, h3, rfl⟩ := h
  exact sealed_turned h3 h1 h2 (sealed_be b) (by rw [List.length_append, be_len]; omega)
theorem bursts_any (at_ : Int) (m : BitVec 32) (v : Value) (bs : List (BitVec 8)) (w : World) (hr : RdRow w v 1 (bs.map by1)) (hn : bs.length ≤ 140737488351232) : Ret Try.prog 7 #[v, .agg #[.int .i64 at_, u32 m]] w fun u w' => u = .bool true ∧ St w [] [] w' := by
  have hS := St.init0 w
  obtain ⟨b, o, c, hv, hmax, hc, hlt⟩ := hr.open
  simp only [List.length_map] at hv hmax hlt
  have hv1 : v.oneCell' = true := by obtain ⟨A, rfl, _⟩ := hv.eq; rfl
  refine Ret.enter Try.func7 Try.ntmps7 rfl rfl ?_
  simp only [argEnv, Nat.reduceAdd]
  refine SatC.seq ?_
  refine SatC.region ?_
  refine SatL.op rfl (OpW.box hS rfl rfl (by repeat constructor) ?_)
  clear hS
  intro b3 w1 _ hS
  refine SatL.pu (RunV.assign rfl) rfl ?_
  refine SatL.nil (SatE.thenC ?_)
  refine SatC.seq ?_
  refine SatC.region ?_
  refine SatL.pu (RunV.move rfl) rfl ?_
  refine SatL.pu (RunV.loadN hS rfl rfl (by repeat constructor) (by repeat constructor)) rfl ?_
  refine SatL.op rfl (OpW.enter rfl rfl rfl (rfl) (turned_any at_ m v bs _ (hr.st hS) (by omega)) ?_)
  rintro r2 w2 ⟨cv, B1, c1, q1, rfl, hsl1, h, hT1⟩
  replace hS := hS.call0 h
  have hl1 := tn_len hT1
  refine SatL.pu (RunV.move rfl) rfl ?_
  refine SatL.pu (RunV.extract rfl rfl) rfl ?_
  refine SatL.pu (RunV.extract rfl rfl) rfl ?_
  refine SatL.pu (RunV.assign rfl) rfl ?_
  refine SatL.pu (RunV.assign rfl) rfl ?_
  refine SatL.nil (SatE.thenC ?_)
  refine SatC.seq ?_
  refine SatC.seq ?_
  refine SatC.region ?_
  refine SatL.pu (RunV.move rfl) rfl ?_
  refine SatL.op rfl (OpW.buildSlice1 hS rfl rfl rfl rfl rfl (.one hv1) rfl rfl rfl ?_)
  clear hS
  intro b17 w3 _ hS
  refine SatL.op rfl (OpW.enter rfl rfl rfl (rfl) (sum_any _ [(v, bs)] _ (RdRow.of ⟨⟨_, rfl, fun _ => rfl⟩, Nat.le_refl _⟩ rfl (by simp) (RdC.own (post := []) hS (by repeat constructor) (by simp)) (by decide)) (fun p hp => (by obtain rfl := List.mem_singleton.1 hp; exact hr.st hS))) ?_)
  rintro r4 w4 ⟨rfl, h⟩
  replace hS := St.callN hS h
  refine SatL.pu (RunV.move rfl) rfl ?_
  refine SatL.op rfl (OpW.buildSlice1 hS rfl rfl rfl rfl rfl (.one hsl1.one) rfl rfl rfl ?_)
  clear hS
  intro b20 w5 _ hS
  refine SatL.op rfl (OpW.enter rfl rfl rfl (rfl) (sum_any _ [(cv, c1)] _ (RdRow.of ⟨⟨_, rfl, fun _ => rfl⟩, Nat.le_refl _⟩ rfl (by simp) (RdC.own (post := []) hS (by repeat constructor) (by simp)) (by decide)) (fun p hp => (by obtain rfl := List.mem_singleton.1 hp; exact hsl1.row hS (by repeat constructor) (by rw [List.length_map]; omega)))) ?_)
  rintro r6 w6 ⟨rfl, h⟩
  replace hS := St.callN hS h
  refine SatL.pu (RunV.neq rfl rfl) rfl ?_
  refine SatL.pu (RunV.move rfl) rfl ?_
  refine SatL.pu (RunV.bneq rfl rfl rfl) rfl ?_
  refine SatL.nil (SatE.thenC ?_)
  refine SatC.weak (e' := [(0, _), (3, _), (4, _), (24, _)]) (by repeat constructor) ?_
  refine SatC.cond rfl (fun h1 => ?_) (fun h1 => ?_)
  · (try simp only [cx, ne_eq, sealed_be, not_true_eq_false, Bool.true_eq_false] at h1)
    try (exfalso; (first | omega | exact h1 trivial | contradiction | exact h1 rfl | exact h1 (tn_sum hT1) | exact h1 (tn_sealed hT2)); done)
    all_goals
    refine SatC.seq ?_
    refine SatC.region ?_
    refine SatL.pu (RunV.assign rfl) rfl ?_
    refine SatL.nil (SatE.thenC ?_)
    refine SatC.ret (SatE.then_ret ?_)
    refine SatE.ret1 rfl rfl ?_
    exact ⟨by first | rfl | simp, hS.sub (List.nil_sublist _)⟩
  · (try simp only [cx, ne_eq, sealed_be, not_true_eq_false, Bool.true_eq_false] at h1)
    try (exfalso; (first | omega | exact h1 trivial | contradiction | exact h1 rfl | exact h1 (tn_sum hT1) | exact h1 (tn_sealed hT2)); done)
    all_goals
    refine SatC.skip (SatE.thenC ?_)
    refine SatC.seq ?_
    refine SatC.region ?_
    refine SatL.op rfl (OpW.buildSlice0 hS rfl rfl rfl ?_)
    clear hS
    intro v4 b4 w7 _ hsl4 hv4 hS
    refine SatL.pu (RunV.move rfl) rfl ?_
    refine SatL.op rfl (OpW.appendB (news := bs.map by1) hsl4 hS (by repeat constructor) hv (hc.st hS List.not_mem_nil) (by rw [List.length_map]) rfl rfl rfl rfl rfl rfl rfl (by1_one _) (by simp only [List.length_nil]; omega) (by simp only [List.length_nil]; omega) rfl ?_)
    clear hS
    intro v6 B6 w8 hsl6 hS
    rw [List.nil_append] at hsl6
    refine SatL.pu (RunV.move rfl) rfl ?_
    refine SatL.op rfl (OpW.buildSlice1 hS rfl rfl rfl rfl rfl (.one hv1) rfl rfl rfl ?_)
    clear hS
    intro b8 w9 _ hS
    refine SatL.op rfl (OpW.enter rfl rfl rfl (rfl) (sum_any _ [(v, bs)] _ (RdRow.of ⟨⟨_, rfl, fun _ => rfl⟩, Nat.le_refl _⟩ rfl (by simp) (RdC.own (post := []) hS (by repeat constructor) (by simp)) (by decide)) (fun p hp => (by obtain rfl := List.mem_singleton.1 hp; exact hr.st hS))) ?_)
    rintro r10 w10 ⟨rfl, h⟩
    replace hS := St.callN hS h
    refine SatL.op rfl (OpW.enter rfl rfl rfl (rfl) (bytes_any (crc 0#32 bs) _) ?_)
    rintro r11 w11 ⟨B10, hsl10, h⟩
    replace hS := hS.call0 h
    obtain ⟨c10, hv10⟩ := hsl10.slv
    rw [List.length_map, be_len] at hv10
    refine SatL.op rfl (OpW.appendB (news := (be (crc 0#32 bs)).map by1) hsl6 hS (by repeat constructor) hv10 (hsl10.rd hS (by repeat constructor)) (by rw [List.length_map, be_len]) rfl rfl rfl rfl rfl rfl rfl (by1_one _) (by rw [List.length_map]; omega) (by rw [List.length_map]; omega) rfl ?_)
    clear hS
    intro v11 B11 w12 hsl11 hS
    rw [← List.map_append] at hsl11
    refine SatL.pu (RunV.assign rfl) rfl ?_
    refine SatL.nil (SatE.thenC ?_)
    refine SatC.seq ?_
    refine SatC.region ?_
    refine SatL.pu (RunV.move rfl) rfl ?_
    refine SatL.pu (RunV.loadN hS rfl rfl (by repeat constructor) (by repeat constructor)) rfl ?_
    refine SatL.op rfl (OpW.enter rfl rfl rfl (rfl) (turned_any at_ m v11 (bs ++ be (crc 0#32 bs)) _ (hsl11.row hS (by repeat constructor) (by rw [List.length_map, List.length_append, be_len]; omega)) (by rw [List.length_append, be_len]; omega)) ?_)
    rintro r13 w13 ⟨tv, B2, t2, q2, rfl, hsl2, h, hT2⟩
    replace hS := hS.call0 h
    have hl2 := tn_len hT2
    rw [List.length_append, be_len] at hl2
    refine SatL.pu (RunV.move rfl) rfl ?_
    refine SatL.pu (RunV.extract rfl rfl) rfl ?_
    refine SatL.pu (RunV.extract rfl rfl) rfl ?_
    refine SatL.pu (RunV.assign rfl) rfl ?_
    refine SatL.pu (RunV.assign rfl) rfl ?_
    refine SatL.nil (SatE.thenC ?_)
    refine SatC.seq ?_
    refine SatC.weak (e' := [(4, _), (7, _), (8, _), (9, _)]) (by repeat constructor) ?_
    refine SatC.region ?_
    refine SatL.pu (RunV.move rfl) rfl ?_
    refine SatL.op rfl (OpW.enter rfl rfl rfl (rfl) (sealed_any _ (bs ++ be (crc 0#32 bs)) _ (hsl11.row hS (by repeat constructor) (by rw [List.length_map, List.length_append, be_len]; omega))) ?_)
    rintro r14 w14 ⟨rfl, h⟩
    replace hS := St.callN hS h
    refine SatL.pu (RunV.move rfl) rfl ?_
    refine SatL.guard rfl rfl rfl (fun h2 => ?_) (fun h2 => ?_)
    · (try simp only [cx, ne_eq, sealed_be, not_true_eq_false, Bool.true_eq_false] at h2)
      try (exfalso; (first | omega | exact h2 trivial | contradiction | exact h2 rfl | exact h2 (tn_sum hT1) | exact h2 (tn_sealed hT2)); done)
      all_goals
      refine SatL.pu (RunV.move rfl) rfl ?_
      refine SatL.guard_y rfl rfl ?_
      refine SatL.op rfl (OpW.enter rfl rfl rfl (rfl) (sealed_any _ t2 _ (hsl2.row hS (by repeat constructor) (by rw [List.length_map]; omega))) ?_)
      rintro r15 w15 ⟨rfl, h⟩
      replace hS := St.callN hS h
      refine SatL.guard_y rfl rfl ?_
      refine SatL.pu (RunV.move rfl) rfl ?_
      refine SatL.guard_y rfl rfl ?_
      refine SatL.pu (RunV.not rfl) rfl ?_
      refine SatL.guard_y rfl rfl ?_
      refine SatL.pu (RunV.beql rfl rfl rfl) rfl ?_
      refine SatL.pu (RunV.pick_t rfl rfl) rfl ?_
      refine SatL.pu (RunV.move rfl) rfl ?_
      refine SatL.guard rfl rfl rfl (fun h3 => ?_) (fun h3 => ?_)
      · (try simp only [cx, ne_eq, sealed_be, not_true_eq_false, Bool.true_eq_false] at h3)
        try (exfalso; (first | omega | exact h3 trivial | contradiction | exact h3 rfl | exact h3 (tn_sum hT1) | exact h3 (tn_sealed hT2)); done)
        all_goals
        refine SatL.op rfl (OpW.enter rfl rfl rfl (rfl) (works_any _) ?_)
        rintro r16 w16 ⟨rfl, h⟩
        replace hS := St.callN hS h
        refine SatL.pu (RunV.pick_t rfl rfl) rfl ?_
        refine SatL.pu (RunV.assign rfl) rfl ?_
        refine SatL.nil (SatE.thenC ?_)
        refine SatC.ret ?_
        refine SatE.ret1 rfl rfl ?_
        exact ⟨by first | rfl | simp, hS.sub (List.nil_sublist _)⟩
      · (try simp only [cx, ne_eq, sealed_be, not_true_eq_false, Bool.true_eq_false] at h3)
        try (exfalso; (first | omega | exact h3 trivial | contradiction | exact h3 rfl | exact h3 (tn_sum hT1) | exact h3 (tn_sealed hT2)); done)
        all_goals
        refine SatL.pu (RunV.pick_f rfl rfl) rfl ?_
        refine SatL.pu (RunV.assign rfl) rfl ?_
        refine SatL.nil (SatE.thenC ?_)
        refine SatC.ret ?_
        refine SatE.ret1 rfl rfl ?_
        exact ⟨by first | rfl | simp, hS.sub (List.nil_sublist _)⟩
    · (try simp only [cx, ne_eq, sealed_be, not_true_eq_false, Bool.true_eq_false] at h2)
      try (exfalso; (first | omega | exact h2 trivial | contradiction | exact h2 rfl | exact h2 (tn_sum hT1) | exact h2 (tn_sealed hT2)); done)
      all_goals
      refine SatL.guard_n rfl rfl rfl rfl ?_
      refine SatL.guard_n rfl rfl rfl rfl ?_
      refine SatL.guard_n rfl rfl rfl rfl ?_
      refine SatL.guard_n rfl rfl rfl rfl ?_
      refine SatL.pu (RunV.pick_f rfl rfl) rfl ?_
      refine SatL.pu (RunV.move rfl) rfl ?_
      refine SatL.guard_n rfl rfl rfl rfl ?_
      refine SatL.pu (RunV.pick_f rfl rfl) rfl ?_
      refine SatL.pu (RunV.assign rfl) rfl ?_
      refine SatL.nil (SatE.thenC ?_)
      refine SatC.ret ?_
      refine SatE.ret1 rfl rfl ?_
      exact ⟨by first | rfl | simp, hS.sub (List.nil_sublist _)⟩
theorem sumBursts_lifted (os : Os) (started : os.Started) (H : Type) (enc : TypeId × Value → H) :
    ReturnsInHanded {} Try.checked os 7 .any (Rows.sumBurstsSpec.pre6 enc Try.prog Try.f7 Rows.sumBurstsRow.domain false) (Rows.sumBurstsSpec.post enc Try.prog Try.f7 false true false false) := by
  refine law_returns (C := Try.checked) (b := 4) (by kernel_rfl) started (by kernel_rfl) Try.func7
    (ChangeSpec.witness6 (enc := enc) (C := Try.checked) false ⟨#[], #[.slice none 0 0, .agg #[.int .i64 0, .int .u32 0]], []⟩ 8 (by kernel_rfl) (by kernel_rfl) (by kernel_rfl) (by kernel_rfl))
    rfl rfl (by kernel_rfl) (by kernel_rfl) (by kernel_rfl) (fun ds h => ?_) ?_
  · rw [Try.params7] at h
    match ds, h with
    | [_, _], _ => rfl
  intro W base args ds ps hval hA hsz
  rw [Try.params7] at hA hval
  obtain ⟨v0, v1, d0, d1, q0, q1, hargs, rfl, rfl, h0, h1⟩ := trodAll_two hA
  subst hargs
  obtain ⟨xs0, hr0, hx0⟩ := open_rows (l := [5]) 6 Try.underlying22 (by kernel_rfl) (by kernel_rfl) (by decide) (hval 0 22 v0 rfl rfl) h0
  obtain ⟨ys0, rfl, hy0⟩ := rows_map (enc' := by1) (q := fun _ => True) (fun r hr => by
    obtain ⟨u0, rfl, l0⟩ := allLeaf_list1 hr
    obtain ⟨n0, rfl, e0⟩ := leaf_int Try.underlying5 l0
    obtain ⟨a, rfl⟩ := toU8 (bnd_u8 e0); exact ⟨a, rfl, trivial⟩) xs0 hx0
  obtain ⟨c1, rfl, l1⟩ := open_struct (l := [3, 23]) 6 Try.underlying35 (by kernel_rfl) (hval 1 35 v1 rfl rfl) h1
  obtain ⟨a1_0, a1_1, rfl, l1_0, l1_1⟩ := allLeaf_list2 l1
  obtain ⟨a1_0, rfl, ba1_0⟩ := leaf_int Try.underlying3 l1_0
  replace ba1_0 := bnd_i64 ba1_0
  obtain ⟨a1_1, rfl, ba1_1⟩ := leaf_int Try.underlying23 l1_1
  replace ba1_1 := bnd_u32 ba1_1
  obtain ⟨m, rfl⟩ := toU32 ba1_1
  exact law_done (bursts_any a1_0 m _ ys0 W hr0 (by have := rows_len (n := 1) hsz (j := 0) (by rw [Try.params7]; rfl) rfl Try.underlying22 (by kernel_rfl) (hval 0 22 v0 rfl rfl) h0 hr0; rw [List.length_map] at this; omega))
theorem sumBursts_holds : Rows.SumBurstsSaid :=
  OpenClaim.holds_of_wide 7 Try.f7 rfl rfl rfl rfl rfl rfl rfl ⟨rfl, rfl, rfl, rfl, rfl⟩ rfl rfl rfl rfl rfl (by kernel_rfl) Try.func7 (by kernel_rfl)
    (of_decide_eq_true (by kernel_rfl)) (by unfold Func.isWrapper; first | (rw [if_pos (by decide +kernel)]; kernel_rfl) | (rw [if_neg (by decide +kernel)]; exact ⟨rfl, rfl⟩))
    (fun os started H enc _ => sumBursts_lifted os started H enc)
end Go.Proofs.Ytpajeienbdnkfaa
