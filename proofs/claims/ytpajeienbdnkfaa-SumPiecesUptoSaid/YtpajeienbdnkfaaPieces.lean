/- SumPieces, where what is read is of bulk at most 1048576: any bytes, in any pieces, have the document's sum; and one sum goes on where another one ended. -/
import Derived.Test.YtpajeienbdnkfaaE
import Derived.Test.YtpajeienbdnkfaaK14
set_option linter.unusedSimpArgs false
set_option linter.unusedVariables false
set_option maxRecDepth 100000
set_option maxHeartbeats 1000000
namespace Go.Proofs.Ytpajeienbdnkfaa
open Go.RowKit Go.ChangeShapes Go.WideShapes Go.ChangeAt
theorem toU8 {n : Int} (h : 0 ≤ n ∧ n ≤ 255) : ∃ a : BitVec 8, n = (a.toNat : Int) := ⟨BitVec.ofNat 8 n.toNat, by rw [BitVec.toNat_ofNat]; omega⟩
theorem sum_two {w w0 : World} {X : List Nat} {L : List (Nat × Obj)} {bt : Nat} {u v : Value} {al bs : List (BitVec 8)} (hS : St w0 X L w) (hm : Has L bt (C 22 [u, v])) (ha : RdRow w u 1 (al.map by1)) (hb : RdRow w v 1 (bs.map by1)) : Ret Try.prog 9 #[.slice (some ⟨bt, 0, none⟩) 2 2] w fun z w' => z = u32 (crc 0#32 (al ++ bs)) ∧ St w [] [] w' :=
  (sum_any _ [(u, al), (v, bs)] _ (RdRow.of ⟨⟨_, rfl, fun _ => rfl⟩, Nat.le_refl _⟩ rfl (by simp) (RdC.own (post := []) hS hm (by simp)) (by decide)) (fun p hp => by
    rcases List.mem_cons.1 hp with rfl | hp
    · exact ha
    · obtain rfl := List.mem_singleton.1 hp
      exact hb)).mono fun z w' h => ⟨by rw [h.1, crc_app]; rfl, h.2⟩
theorem sum_none (w : World) : Ret Try.prog 9 #[.slice none 0 0] w fun z w' => z = u32 0#32 ∧ St w [] [] w' :=
  sum_any _ [] _ RdRow.nil (fun p hp => by cases hp)
theorem sum_cut {w w0 : World} {X : List Nat} {L : List (Nat × Obj)} {bt : Nat} {v : Value} {bs : List (BitVec 8)} (hS : St w0 X L w) (hm : Has L bt (C 22 [v])) (hr : RdRow w v 1 (bs.map by1)) : Ret Try.prog 9 #[.slice (some ⟨bt, 0, none⟩) 1 1] w fun u w' => u = u32 (crc 0#32 bs) ∧ St w [] [] w' :=
  sum_any _ [(v, bs)] _ (RdRow.of ⟨⟨_, rfl, fun _ => rfl⟩, Nat.le_refl _⟩ rfl (by simp) (RdC.own (post := []) hS hm (by simp)) (by decide)) (fun p hp => (by obtain rfl := List.mem_singleton.1 hp; exact hr))
theorem pieces_any (va vb : Value) (a b : List (BitVec 8)) (w : World) (ha : RdRow w va 1 (a.map by1)) (hb : RdRow w vb 1 (b.map by1)) (hna : a.length ≤ 1048576) (hnb : b.length ≤ 1048576) : Ret Try.prog 3 #[va, vb] w fun u w' => u = .bool true ∧ St w [] [] w' := by
  have hS := St.init0 w
  obtain ⟨ba, oa, ca, hva, hma, hca, hlta⟩ := ha.open
  obtain ⟨bb, ob, cb, hvb, hmb, hcb, hltb⟩ := hb.open
  simp only [List.length_map] at hva hma hvb hmb
  have hv1 : va.oneCell' = true := by obtain ⟨A, rfl, _⟩ := hva.eq; rfl
  have hv2 : vb.oneCell' = true := by obtain ⟨A, rfl, _⟩ := hvb.eq; rfl
  refine Ret.enter Try.func3 Try.ntmps3 rfl rfl ?_
  simp only [argEnv, Nat.reduceAdd]
  refine SatC.seq ?_
  refine SatC.region ?_
  refine SatL.pu (RunV.assign rfl) rfl ?_
  refine SatL.nil (SatE.thenC ?_)
  refine SatC.seq ?_
  refine SatC.region ?_
  refine SatL.op rfl (OpW.buildSlice0 hS rfl rfl rfl ?_)
  clear hS
  intro v4 b4 w1 _ hsl4 hv4 hS
  refine SatL.pu (RunV.move rfl) rfl ?_
  refine SatL.op rfl (OpW.appendB (news := a.map by1) hsl4 hS (by repeat constructor) hva (hca.st hS List.not_mem_nil) (by rw [List.length_map]) rfl rfl rfl rfl rfl rfl rfl (by1_one _) (by simp only [List.length_nil]; omega) (by simp only [List.length_nil]; omega) rfl ?_)
  clear hS
  intro v6 B6 w2 hsl6 hS
  rw [List.nil_append] at hsl6
  refine SatL.pu (RunV.move rfl) rfl ?_
  refine SatL.op rfl (OpW.appendB (news := b.map by1) hsl6 hS (by repeat constructor) hvb (hcb.st hS List.not_mem_nil) (by rw [List.length_map]) rfl rfl rfl rfl rfl rfl rfl (by1_one _) (by rw [List.length_map]; omega) (by rw [List.length_map]; omega) rfl ?_)
  clear hS
  intro v11 B11 w3 hsl11 hS
  rw [← List.map_append] at hsl11
  have hla : ((a ++ b).map by1).length ≤ 9223372036854775807 := (by rw [List.length_map, List.length_append]; omega)
  refine SatL.pu (RunV.assign rfl) rfl ?_
  refine SatL.nil (SatE.thenC ?_)
  refine SatC.seq ?_
  refine SatC.region ?_
  refine SatL.pu (RunV.move rfl) rfl ?_
  refine SatL.op rfl (OpW.enter rfl rfl rfl (rfl) (rsum_any _ (a ++ b) _ (hsl11.row hS (by repeat constructor) hla)) ?_)
  rintro r4 w4 ⟨rfl, h⟩
  replace hS := St.callN hS h
  refine SatL.pu (RunV.assign rfl) rfl ?_
  refine SatL.nil (SatE.thenC ?_)
  refine SatC.seq ?_
  refine SatC.region ?_
  refine SatL.pu (RunV.move rfl) rfl ?_
  refine SatL.pu (RunV.move rfl) rfl ?_
  refine SatL.op rfl (OpW.buildSliceV (vs := [va, vb]) hS rfl rfl rfl rfl rfl rfl (by simp [hv1, hv2]) rfl rfl ?_)
  clear hS
  intro b16 w5 _ hS
  refine SatL.op rfl (OpW.enter rfl rfl rfl (rfl) (sum_two hS (by repeat constructor) (ha.st hS) (hb.st hS)) ?_)
  rintro r6 w6 ⟨rfl, h⟩
  replace hS := St.callN hS h
  refine SatL.pu (RunV.move rfl) rfl ?_
  refine SatL.pu (RunV.eql rfl rfl) rfl ?_
  refine SatL.pu (RunV.move rfl) rfl ?_
  refine SatL.guard rfl rfl rfl (fun h1 => ?_) (fun h1 => ?_)
  · (try simp only [cx, ne_eq] at h1)
    try (exfalso; (first | omega | exact h1 trivial | contradiction | exact h1 rfl); done)
    all_goals
    refine SatL.pu (RunV.move rfl) rfl ?_
    refine SatL.guard_y rfl rfl ?_
    refine SatL.op rfl (OpW.buildSlice1 hS rfl rfl rfl rfl rfl (.one hsl11.one) rfl rfl rfl ?_)
    clear hS
    intro b22 w7 _ hS
    refine SatL.guard_y rfl rfl ?_
    refine SatL.op rfl (OpW.enter rfl rfl rfl (rfl) (sum_cut hS (by repeat constructor) (hsl11.row hS (by repeat constructor) hla)) ?_)
    rintro r8 w8 ⟨rfl, h⟩
    replace hS := St.callN hS h
    refine SatL.guard_y rfl rfl ?_
    refine SatL.pu (RunV.move rfl) rfl ?_
    refine SatL.guard_y rfl rfl ?_
    refine SatL.pu (RunV.eql rfl rfl) rfl ?_
    refine SatL.pu (RunV.pick_t rfl rfl) rfl ?_
    refine SatL.pu (RunV.move rfl) rfl ?_
    refine SatL.guard rfl rfl rfl (fun h2 => ?_) (fun h2 => ?_)
    · (try simp only [cx, ne_eq] at h2)
      try (exfalso; (first | omega | exact h2 trivial | contradiction | exact h2 rfl); done)
      all_goals
      refine SatL.pu (RunV.move rfl) rfl ?_
      refine SatL.guard_y rfl rfl ?_
      refine SatL.op rfl (OpW.buildSlice1 hS rfl rfl rfl rfl rfl (.one hv1) rfl rfl rfl ?_)
      clear hS
      intro b29 w9 _ hS
      refine SatL.guard_y rfl rfl ?_
      refine SatL.op rfl (OpW.enter rfl rfl rfl (rfl) (sum_cut hS (by repeat constructor) (ha.st hS)) ?_)
      rintro r10 w10 ⟨rfl, h⟩
      replace hS := St.callN hS h
      refine SatL.guard_y rfl rfl ?_
      refine SatL.pu (RunV.move rfl) rfl ?_
      refine SatL.guard_y rfl rfl ?_
      refine SatL.op rfl (OpW.enter rfl rfl rfl (rfl) (from_any _ _ b _ (hb.st hS)) ?_)
      rintro r11 w11 ⟨rfl, h⟩
      replace hS := St.callN hS h
      rw [← crc_app]
      refine SatL.guard_y rfl rfl ?_
      refine SatL.pu (RunV.move rfl) rfl ?_
      refine SatL.guard_y rfl rfl ?_
      refine SatL.pu (RunV.eql rfl rfl) rfl ?_
      refine SatL.pu (RunV.pick_t rfl rfl) rfl ?_
      refine SatL.pu (RunV.move rfl) rfl ?_
      refine SatL.guard rfl rfl rfl (fun h3 => ?_) (fun h3 => ?_)
      · (try simp only [cx, ne_eq] at h3)
        try (exfalso; (first | omega | exact h3 trivial | contradiction | exact h3 rfl); done)
        all_goals
        refine SatL.op rfl (OpW.enter rfl rfl rfl (rfl) (sum_none _) ?_)
        rintro r12 w12 ⟨rfl, h⟩
        replace hS := St.callN hS h
        refine SatL.guard_y rfl rfl ?_
        refine SatL.pu (RunV.eql rfl rfl) rfl ?_
        refine SatL.pu (RunV.pick_t rfl rfl) rfl ?_
        refine SatL.pu (RunV.move rfl) rfl ?_
        refine SatL.guard rfl rfl rfl (fun h4 => ?_) (fun h4 => ?_)
        · (try simp only [cx, ne_eq] at h4)
          try (exfalso; (first | omega | exact h4 trivial | contradiction | exact h4 rfl); done)
          all_goals
          refine SatL.op rfl (OpW.enter rfl rfl rfl (rfl) (works_any _) ?_)
          rintro r13 w13 ⟨rfl, h⟩
          replace hS := St.callN hS h
          refine SatL.pu (RunV.pick_t rfl rfl) rfl ?_
          refine SatL.pu (RunV.assign rfl) rfl ?_
          refine SatL.nil (SatE.thenC ?_)
          refine SatC.ret ?_
          refine SatE.ret1 rfl rfl ?_
          exact ⟨by first | rfl | simp, hS.sub (List.nil_sublist _)⟩
        · (try simp only [cx, ne_eq] at h4)
          try (exfalso; (first | omega | exact h4 trivial | contradiction | exact h4 rfl); done)
          all_goals
          refine SatL.pu (RunV.pick_f rfl rfl) rfl ?_
          refine SatL.pu (RunV.assign rfl) rfl ?_
          refine SatL.nil (SatE.thenC ?_)
          refine SatC.ret ?_
          refine SatE.ret1 rfl rfl ?_
          exact ⟨by first | rfl | simp, hS.sub (List.nil_sublist _)⟩
      · (try simp only [cx, ne_eq] at h3)
        try (exfalso; (first | omega | exact h3 trivial | contradiction | exact h3 rfl); done)
        all_goals
        refine SatL.guard_n rfl rfl rfl rfl ?_
        refine SatL.pu (RunV.pick_f rfl rfl) rfl ?_
        refine SatL.pu (RunV.move rfl) rfl ?_
        refine SatL.guard_n rfl rfl rfl rfl ?_
        refine SatL.pu (RunV.pick_f rfl rfl) rfl ?_
        refine SatL.pu (RunV.assign rfl) rfl ?_
        refine SatL.nil (SatE.thenC ?_)
        refine SatC.ret ?_
        refine SatE.ret1 rfl rfl ?_
        exact ⟨by first | rfl | simp, hS.sub (List.nil_sublist _)⟩
    · (try simp only [cx, ne_eq] at h2)
      try (exfalso; (first | omega | exact h2 trivial | contradiction | exact h2 rfl); done)
      all_goals
      refine SatL.guard_n rfl rfl rfl rfl ?_
      refine SatL.guard_n rfl rfl rfl rfl ?_
      refine SatL.guard_n rfl rfl rfl rfl ?_
      refine SatL.guard_n rfl rfl rfl rfl ?_
      refine SatL.guard_n rfl rfl rfl rfl ?_
      refine SatL.guard_n rfl rfl rfl rfl ?_
      refine SatL.pu (RunV.pick_f rfl rfl) rfl ?_
      refine SatL.pu (RunV.move rfl) rfl ?_
      refine SatL.guard_n rfl rfl rfl rfl ?_
      refine SatL.guard_n rfl rfl rfl rfl ?_
      refine SatL.pu (RunV.pick_f rfl rfl) rfl ?_
      refine SatL.pu (RunV.move rfl) rfl ?_
      refine SatL.guard_n rfl rfl rfl rfl ?_
      refine SatL.pu (RunV.pick_f rfl rfl) rfl ?_
      refine SatL.pu (RunV.assign rfl) rfl ?_
      refine SatL.nil (SatE.thenC ?_)
      refine SatC.ret ?_
      refine SatE.ret1 rfl rfl ?_
      exact ⟨by first | rfl | simp, hS.sub (List.nil_sublist _)⟩
  · (try simp only [cx, ne_eq] at h1)
    try (exfalso; (first | omega | exact h1 trivial | contradiction | exact h1 rfl); done)
    all_goals
    refine SatL.guard_n rfl rfl rfl rfl ?_
    refine SatL.guard_n rfl rfl rfl rfl ?_
    refine SatL.guard_n rfl rfl rfl rfl ?_
    refine SatL.guard_n rfl rfl rfl rfl ?_
    refine SatL.pu (RunV.pick_f rfl rfl) rfl ?_
    refine SatL.pu (RunV.move rfl) rfl ?_
    refine SatL.guard_n rfl rfl rfl rfl ?_
    refine SatL.guard_n rfl rfl rfl rfl ?_
    refine SatL.guard_n rfl rfl rfl rfl ?_
    refine SatL.guard_n rfl rfl rfl rfl ?_
    refine SatL.guard_n rfl rfl rfl rfl ?_
    refine SatL.guard_n rfl rfl rfl rfl ?_
    refine SatL.guard_n rfl rfl rfl rfl ?_
    refine SatL.pu (RunV.pick_f rfl rfl) rfl ?_
    refine SatL.pu (RunV.move rfl) rfl ?_
    refine SatL.guard_n rfl rfl rfl rfl ?_
    refine SatL.guard_n rfl rfl rfl rfl ?_
    refine SatL.pu (RunV.pick_f rfl rfl) rfl ?_
    refine SatL.pu (RunV.move rfl) rfl ?_
    refine SatL.guard_n rfl rfl rfl rfl ?_
    refine SatL.pu (RunV.pick_f rfl rfl) rfl ?_
    refine SatL.pu (RunV.assign rfl) rfl ?_
    refine SatL.nil (SatE.thenC ?_)
    refine SatC.ret ?_
    refine SatE.ret1 rfl rfl ?_
    exact ⟨by first | rfl | simp, hS.sub (List.nil_sublist _)⟩
theorem sumPieces_lifted (os : Os) (started : os.Started) (H : Type) (enc : TypeId × Value → H) (F : Stop.Interp) :
    ReturnsInHanded {} Try.checked os 3 .any ((Rows.OpenSpec.upto Rows.sumPiecesSpec).pre6 enc Try.prog Try.f3 Rows.sumPiecesUptoRow.domain false) (((Rows.OpenSpec.upto Rows.sumPiecesSpec).at F).post enc Try.prog Try.f3 false true false false) := by
  refine law_returns_upto (C := Try.checked) (s := Rows.OpenSpec.upto Rows.sumPiecesSpec) (k := Rows.uptoSmall) (b := 4) rfl (by kernel_rfl) started (by kernel_rfl) Try.func3
    (OpenSpec.witness (enc := enc) (C := Try.checked) (s := Rows.OpenSpec.upto Rows.sumPiecesSpec) (k := Rows.uptoSmall) rfl false ⟨#[], #[.slice none 0 0, .slice none 0 0], []⟩ 8 (by kernel_rfl) (by kernel_rfl) (by kernel_rfl) (x := ([.nil, .nil], [], [])) (by kernel_rfl) rfl (by kernel_rfl))
    rfl rfl (by kernel_rfl) (by kernel_rfl) (by kernel_rfl) (fun ds h => ?_) ?_
  · rw [Try.params3] at h
    match ds, h with
    | [_, _], _ => rfl
  intro W base args ds ps hval hA hsz
  rw [Try.params3] at hA hval
  obtain ⟨v0, v1, d0, d1, q0, q1, hargs, rfl, rfl, h0, h1⟩ := trodAll_two hA
  subst hargs
  obtain ⟨xs0, hr0, hx0⟩ := open_rows (l := [5]) 6 Try.underlying22 (by kernel_rfl) (by kernel_rfl) (by decide) (hval 0 22 v0 rfl rfl) h0
  obtain ⟨ys0, rfl, hy0⟩ := rows_map (enc' := by1) (q := fun _ => True) (fun r hr => by
    obtain ⟨u0, rfl, l0⟩ := allLeaf_list1 hr
    obtain ⟨n0, rfl, e0⟩ := leaf_int Try.underlying5 l0
    obtain ⟨a, rfl⟩ := toU8 (bnd_u8 e0); exact ⟨a, rfl, trivial⟩) xs0 hx0
  obtain ⟨xs1, hr1, hx1⟩ := open_rows (l := [5]) 6 Try.underlying22 (by kernel_rfl) (by kernel_rfl) (by decide) (hval 1 22 v1 rfl rfl) h1
  obtain ⟨ys1, rfl, hy1⟩ := rows_map (enc' := by1) (q := fun _ => True) (fun r hr => by
    obtain ⟨u0, rfl, l0⟩ := allLeaf_list1 hr
    obtain ⟨n0, rfl, e0⟩ := leaf_int Try.underlying5 l0
    obtain ⟨a, rfl⟩ := toU8 (bnd_u8 e0); exact ⟨a, rfl, trivial⟩) xs1 hx1
  exact law_done (pieces_any _ _ ys0 ys1 W hr0 hr1 (by have := rows_small hsz (j := 0) rfl Try.underlying22 (hval 0 22 v0 rfl rfl) h0 hr0; rw [List.length_map] at this; omega) (by have := rows_small hsz (j := 1) rfl Try.underlying22 (hval 1 22 v1 rfl rfl) h1 hr1; rw [List.length_map] at this; omega))
theorem sumPieces_holds : Rows.SumPiecesUptoSaid :=
  OpenClaim.holds_of_cond 3 Try.f3 rfl rfl rfl rfl rfl rfl rfl ⟨rfl, rfl, rfl, rfl, rfl⟩ rfl rfl rfl rfl rfl (by kernel_rfl) Try.func3 (by kernel_rfl)
    (of_decide_eq_true (by kernel_rfl)) (by unfold Func.isWrapper; first | (rw [if_pos (by decide +kernel)]; kernel_rfl) | (rw [if_neg (by decide +kernel)]; exact ⟨rfl, rfl⟩))
    (fun os started H enc _ F => sumPieces_lifted os started H enc F)
end Go.Proofs.Ytpajeienbdnkfaa
