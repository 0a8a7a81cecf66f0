/- FlightOnce: each number that was given is delivered, dropped or lost just once, or in flight; what is delivered was sent. -/
import Derived.Test.YtpnkcoahbadnjaaOp
import Derived.Test.YtpnkcoahbadnjaaW
import Derived.Test.YtpnkcoahbadnjaaFe
import Derived.Test.YtpnkcoahbadnjaaK7
import Derived.Test.YtpnkcoahbadnjaaK16
import Derived.Test.YtpnkcoahbadnjaaK25
import Derived.Test.YtpnkcoahbadnjaaRows
set_option linter.unusedSimpArgs false
set_option linter.unusedVariables false
set_option maxRecDepth 100000
set_option maxHeartbeats 16000000
namespace Go.Proofs.Ytpnkcoahbadnjaa
open Go.RowKit Go.ChangeShapes Go.WideShapes Go.ChangeAt
theorem send_g {most given : Int} {l : List Fl} {bs : List UInt8} : given ≤ sendG most given l bs ∧ sendG most given l bs ≤ given + 1 := by
  classical
  unfold sendG
  split <;> omega
theorem copy_g {most given k : Int} {l : List Fl} : given ≤ cpG most given l k ∧ cpG most given l k ≤ given + 1 := by
  classical
  unfold cpG
  split
  · omega
  · exact send_g
theorem send_ig {most given : Int} {l : List Fl} {bs : List UInt8} (h : ¬ full most l bs) : sendI most given l bs = sendG most given l bs := by
  classical
  unfold sendI sendG
  rw [if_neg h, if_neg h]
theorem keep_len (to : Int) (l : List Fl) : (keepL to l).length ≤ l.length := List.length_filter_le ..
theorem out_le (l : List Fl) (k : Int) : (outL l k).length ≤ l.length := (List.eraseIdx_sublist ..).length_le
theorem ab_sub {D : List (Nat × Obj)} {l l' : List Fl} (h : AllBd D l) (hs : ∀ x ∈ l', x ∈ l) : AllBd D l' := fun x hx => h x (hs x hx)
theorem outP_one {D : List (Nat × Obj)} {l : List Fl} (hab : AllBd D l) (k : Int) : (outP l k).v.oneCell' = true := by
  unfold outP
  cases h : outX l k with
  | none => rfl
  | some x => exact (hab x (List.mem_of_getElem? h)).1.one
theorem outP_row {D : List (Nat × Obj)} {l : List Fl} {w : World} (hab : AllBd D l) (hD : ∀ c ∈ D, w.heap[c.1]? = some c.2) (k : Int) : RdRow w (outP l k).v 1 ((outP l k).b.map by1c) := by
  unfold outP
  cases h : outX l k with
  | none => exact RdRow.nil
  | some x => exact (hab x (List.mem_of_getElem? h)).1.row hD (by have := (hab x (List.mem_of_getElem? h)).2; show x.b.length ≤ _; omega)
def Fits (p : Fl) (y : Stp) : Prop := y.f = p.f ∧ y.t = p.t ∧ y.b = p.b
theorem fits_next {p : Fl} {xs : List Stp} {z : Stp} {q : Bool} (hq : q = true ↔ ∃ a ∈ xs, Fits p a) (h : q = false) : decide (z.f = p.f ∧ z.t = p.t ∧ z.b = p.b) = true ↔ ∃ a ∈ xs ++ [z], Fits p a := by
  rw [decide_eq_true_eq]
  constructor
  · intro h
    exact ⟨z, List.mem_append_right _ (List.mem_singleton.2 rfl), h⟩
  · rintro ⟨a, ha, hf⟩
    rcases List.mem_append.1 ha with ha | ha
    · have := hq.2 ⟨a, ha, hf⟩
      rw [h] at this
      cases this
    · simp only [List.mem_singleton] at ha
      subst ha
      exact hf
open Classical in
theorem once_any (v : Value) (ys : List Stp) (w : World) (hr : RdRow w v 5 (ys.map sr)) (hys : ∀ y ∈ ys, StB w y) : Ret Try.prog 4 #[v] w fun u w' => u = .bool true ∧ St w [] [] w' := by
  have hS := St.init0 w
  obtain ⟨bl, ol, cl, hvl, hmaxl, hcl, hltl⟩ := hr.open
  simp only [List.length_map] at hvl hmaxl hltl
  have hm : ¬ (256 : Int) = 0 := by decide
  refine Ret.enter Try.func4 Try.ntmps4 rfl rfl ?_
  simp only [argEnv, Nat.reduceAdd]
  refine SatC.seq ?_
  refine SatC.region ?_
  refine SatL.pu (RunV.assign rfl) rfl ?_
  refine SatL.nil (SatE.thenC ?_)
  refine SatC.seq ?_
  refine SatC.region ?_
  refine SatL.op rfl (OpW.enter rfl rfl rfl (rfl) (fnew_any 256 _) ?_)
  rintro r1 w1 ⟨b, rfl, h⟩
  replace hS := hS.call0 h
  change St w [] (FO b (.slice none 0 0) 256 0 [] []) _ at hS
  refine SatL.pu (RunV.assign rfl) rfl ?_
  refine SatL.nil (SatE.thenC ?_)
  refine SatC.seq ?_
  refine SatC.region ?_
  refine SatL.pu (RunV.assign rfl) rfl ?_
  refine SatL.nil (SatE.thenC ?_)
  refine SatC.seq ?_
  refine SatC.region ?_
  refine SatL.pu (RunV.assign rfl) rfl ?_
  refine SatL.nil (SatE.thenC ?_)
  refine SatC.seq ?_
  refine SatC.seq ?_
  refine SatC.region ?_
  refine SatL.pu (RunV.assign rfl) rfl ?_
  refine SatL.nil (SatE.thenC ?_)
  refine SatC.block ?_
  refine SatC.loopK (G := Nat × List Stp × List Fl × Int × Int × Value × List (Nat × Obj) × Value × List (Nat × Obj) × List (Nat × Obj)) (V := fun ⟨i, ss, l, given, out, sv, SB, fv, B, D⟩ => [(6, .int .i64 (i : Int)), (5, .int .i64 out), (4, sv)]) (Cn := [(0, _), (3, _), (2, _)]) (I := fun ⟨i, ss, l, given, out, sv, SB, fv, B, D⟩ w' => i ≤ ys.length ∧ i ≤ 80 ∧ ss.length ≤ i ∧ l.length ≤ i ∧ 0 ≤ given ∧ given ≤ i ∧ 0 ≤ out ∧ out + l.length = given ∧ (∀ y ∈ ss, StB w y) ∧ Said ss l ∧ AllBd D l ∧ Sl 24 3 sv (ss.map pr) SB ∧ Sl 32 4 fv (l.map fr) B ∧ St w [] (SB ++ FO b fv 256 given B D) w') (μ := fun ⟨i, ss, l, given, out, sv, SB, fv, B, D⟩ => ys.length - i) (0, [], [], 0, 0, .slice none 0 0, [], .slice none 0 0, [], []) ?_ (by repeat constructor) ?_
  · exact ⟨Nat.zero_le _, by decide, by simp, by simp, by decide, by decide, by decide, by simp, (fun y h => by cases h), (fun y h => by cases h), (fun y h => by cases h), .nil, .nil, hS.sel (by repeat constructor)⟩
  clear hS
  rintro ⟨i, ss, l, given, out, sv, SB, fv, B, D⟩ w2 ⟨hi, hi8, hss, hll, hg0, hgi, ho0, hbal, hst, hsaid, hab, hsv, hsl, hS⟩
  refine SatC.weak (e' := [(0, _), (2, _), (3, _), (4, _), (5, _), (6, _)]) (by repeat constructor) ?_
  refine SatC.seq ?_
  refine SatC.seq ?_
  refine SatC.region ?_
  refine SatL.pu (RunV.move rfl) rfl ?_
  refine SatL.pu (RunV.move rfl) rfl ?_
  first | refine SatL.pu (RunV.lenR (by assumption) rfl rfl) rfl ?_ | refine SatL.pu (RunV.lenS rfl rfl) rfl ?_
  refine SatL.pu (RunV.lss rfl rfl) rfl ?_
  refine SatL.pu (RunV.move rfl) rfl ?_
  refine SatL.guard rfl rfl rfl (fun h1 => ?_) (fun h1 => ?_)
  · (try simp only [cx, ne_eq] at h1)
    try (exfalso; (first | omega | exact h1 trivial | contradiction); done)
    all_goals
    refine SatL.pu (RunV.move rfl) rfl ?_
    refine SatL.guard_y rfl rfl ?_
    refine SatL.pu (RunV.lss rfl rfl) rfl ?_
    refine SatL.pu (RunV.pick_t rfl rfl) rfl ?_
    refine SatL.nil (SatE.thenC ?_)
    refine SatC.cond rfl (fun h2 => ?_) (fun h2 => ?_)
    · (try simp only [cx, ne_eq] at h2)
      try (exfalso; (first | omega | exact h2 trivial | contradiction); done)
      all_goals
      refine SatC.skip (SatE.thenC ?_)
      refine SatC.seq ?_
      refine SatC.block ?_
      refine SatC.seq ?_
      obtain ⟨y, hy⟩ := get_some ys i (by omega)
      have hyb := hys y (List.mem_of_getElem? hy)
      obtain ⟨cS, hvS⟩ := hsv.slv
      simp only [List.length_map] at hvS
      have hy1 : y.v.oneCell' = true := by obtain ⟨A, _, e, _⟩ := hyb; rw [e]; rfl
      refine SatC.region ?_
      refine SatL.pu (RunV.move rfl) rfl ?_
      refine SatL.pu (RunV.move rfl) rfl ?_
      first | refine SatL.pu (RunV.indexR (by assumption) rfl rfl rfl (by omega) (by omega) rfl) rfl ?_ | refine SatL.pu (RunV.indexS rfl rfl rfl (by omega) (by omega) rfl) rfl ?_
      first | refine SatL.pu (RunV.loadRNz (RdC.st (by assumption) hS List.not_mem_nil) rfl rfl (by first | assumption | exact map_get (by assumption))) rfl ?_ | refine SatL.pu (RunV.loadRNz (Sl.rd (by assumption) hS (by repeat constructor)) rfl rfl (by first | assumption | exact map_get (by assumption))) rfl ?_
      refine SatL.op rfl (OpW.alloc hS rfl rfl (by repeat constructor) ?_)
      clear hS
      intro b7 w3 _ hS
      refine SatL.op rfl (OpW.store hS rfl rfl (by repeat constructor) (by repeat constructor) (by repeat constructor) rfl (by simp only [List.all_cons, List.all_nil, hy1, Bool.and_true]; rfl) ?_)
      clear hS
      intro w4 hS
      refine SatL.nil (SatE.thenC ?_)
      refine SatC.seq ?_
      refine SatC.weak (e' := [(0, _), (2, _), (3, _), (4, _), (5, _), (6, _), (7, _)]) (by repeat constructor) ?_
      refine SatC.region ?_
      first | refine SatL.pu (RunV.fieldAddrL rfl rfl rfl) rfl ?_ | refine SatL.pu (RunV.fieldAddr rfl rfl rfl) rfl ?_
      refine SatL.pu (RunV.load1 hS rfl rfl (by repeat constructor) rfl) rfl ?_
      refine SatL.nil (SatE.thenC ?_)
      refine SatC.block ?_
      refine SatC.seq ?_
      refine SatC.region ?_
      refine SatL.pu (RunV.eql rfl rfl) rfl ?_
      refine SatL.pu (RunV.assign rfl) rfl ?_
      refine SatL.nil (SatE.thenC ?_)
      refine SatC.cond rfl (fun h3 => ?_) (fun h3 => ?_)
      · (try simp only [cx, ne_eq] at h3)
        try (exfalso; (first | omega | exact h3 trivial | contradiction); done)
        all_goals
        refine SatC.seq ?_
        refine SatC.region ?_
        refine SatL.pu (RunV.move rfl) rfl ?_
        first | refine SatL.pu (RunV.fieldAddrL rfl rfl rfl) rfl ?_ | refine SatL.pu (RunV.fieldAddr rfl rfl rfl) rfl ?_
        refine SatL.pu (RunV.loadN hS rfl rfl (by repeat constructor) (by repeat constructor)) rfl ?_
        refine SatL.op rfl (OpW.enter rfl rfl rfl (rfl) (send_any (given := given) y.f y.t y.v y.b (fun W' g h => hyb.st (hS.callT (A := FO b fv 256 given B D) (by repeat constructor) h)) hm ⟨hg0, by omega⟩ (by omega) hab hsl (hS.ownT (A := FO b fv 256 given B D) (by repeat constructor))) ?_)
        rintro r5 w5 ⟨rfl, bv, v2, B2, D2, hsl2, hD2, hab2, h⟩
        replace hS := hS.callT (A := FO b fv 256 given B D) (by repeat constructor) h
        simp only [List.append_assoc, List.cons_append, List.nil_append, List.append_nil] at hS
        have hbs := send_bal (l := l) (most := 256) (given := given) (f := y.f) (t := y.t) (bv := bv) (bs := y.b)
        have hsd := said_send (most := 256) (given := given) (bv := bv) (y := y) hsaid
        have hgg := send_g (most := 256) (given := given) (l := l) (bs := y.b)
        refine SatL.pu (RunV.move rfl) rfl ?_
        refine SatL.pu (RunV.extract rfl rfl) rfl ?_
        refine SatL.pu (RunV.extract rfl rfl) rfl ?_
        refine SatL.pu (RunV.assign rfl) rfl ?_
        refine SatL.pu (RunV.assign rfl) rfl ?_
        refine SatL.nil (SatE.thenC ?_)
        refine SatC.seq ?_
        refine SatC.region ?_
        refine SatL.pu (RunV.move rfl) rfl ?_
        refine SatL.nil (SatE.thenC ?_)
        refine SatC.weak (e' := [(0, _), (2, _), (3, _), (4, _), (5, _), (6, _), (7, _), (8, _), (48, _)]) (by repeat constructor) ?_
        refine SatC.cond rfl (fun h4 => ?_) (fun h4 => ?_)
        · (try simp only [cx, ne_eq] at h4)
          try (exfalso; (first | omega | exact h4 trivial | contradiction); done)
          all_goals
          refine SatC.seq ?_
          refine SatC.region ?_
          refine SatL.pu (RunV.move rfl) rfl ?_
          first | refine SatL.pu (RunV.fieldAddrL rfl rfl rfl) rfl ?_ | refine SatL.pu (RunV.fieldAddr rfl rfl rfl) rfl ?_
          refine SatL.pu (RunV.loadN hS rfl rfl (by repeat constructor) (by repeat constructor)) rfl ?_
          refine SatL.op rfl (OpW.buildSlice1 hS rfl rfl rfl rfl rfl (by repeat constructor) rfl rfl rfl ?_)
          clear hS
          intro b52 w6 _ hS
          refine SatL.op rfl (OpW.append1 hsv hS (by repeat constructor) rfl rfl (by repeat constructor) rfl rfl rfl rfl rfl rfl rfl (by simp only [List.all_cons, List.all_nil, hy1, Bool.and_true]; rfl) (by rw [List.length_map]; omega) rfl ?_)
          clear hS
          intro v53 B53 w7 hsl53 hS
          refine SatL.pu (RunV.assign rfl) rfl ?_
          refine SatL.nil (SatE.thenC ?_)
          refine SatC.seq ?_
          refine SatC.region ?_
          refine SatL.pu (RunV.move rfl) rfl ?_
          refine SatL.pu (RunV.move rfl) rfl ?_
          refine SatL.op rfl (OpW.enter rfl rfl rfl (rfl) (sent_any (given := sendG 256 given l y.b) hm (hS.ownT (A := FO b v2 256 (sendG 256 given l y.b) B2 D2) (by repeat constructor))) ?_)
          rintro r8 w8 ⟨rfl, h⟩
          replace hS := St.callN hS h
          refine SatL.pu (RunV.neq rfl rfl) rfl ?_
          refine SatL.nil (SatE.thenC ?_)
          refine SatC.cond rfl (fun h5 => ?_) (fun h5 => ?_)
          · (try simp only [cx, ne_eq] at h5)
            try (exfalso; (first | omega | exact h5 trivial | contradiction); done)
            all_goals
            refine SatC.seq ?_
            refine SatC.weak (e' := [(0, _), (2, _), (3, _), (4, _), (5, _), (6, _)]) (by repeat constructor) ?_
            refine SatC.region ?_
            refine SatL.pu (RunV.assign rfl) rfl ?_
            refine SatL.nil (SatE.thenC ?_)
            refine SatC.ret (SatE.blk_ret (SatE.blk_ret (SatE.then_ret (SatE.then_ret (SatE.blk_ret (SatE.then_ret ?_))))))
            refine SatE.ret1 rfl rfl ?_
            first
            | exact ⟨rfl, hS.sel (by repeat constructor)⟩
            | (exfalso; have := send_ig (given := given) (by assumption : ¬ full 256 l y.b); omega)
            | (exfalso; obtain ⟨z, hz, hf⟩ := said_outP hsaid (by assumption : (outX l y.n).isSome = true); have := hq.2 ⟨z, by rw [List.take_of_length_le (by omega)]; exact hz, hf⟩; simp_all; done)
          · (try simp only [cx, ne_eq] at h5)
            try (exfalso; (first | omega | exact h5 trivial | contradiction); done)
            all_goals
            refine SatC.skip (SatE.blk_normal (SatE.blk_normal (SatE.thenC ?_)))
            refine SatC.weak (e' := [(0, _), (2, _), (3, _), (4, _), (5, _), (6, _)]) (by repeat constructor) ?_
            refine SatC.region ?_
            refine SatL.pu (RunV.move rfl) rfl ?_
            refine SatL.pu (RunV.add rfl rfl (by first | exact wrapI64 (by omega) | rfl)) rfl ?_
            refine SatL.pu (RunV.assign rfl) rfl ?_
            refine SatL.nil ?_
            first
            | (exfalso; exact Bool.noConfusion ((by assumption : (outX l y.n).isSome = true).symm.trans (by assumption : (outX l y.n).isSome = false)))
            | exact SatE.again (i + 1, ss ++ [y], sendL 256 given l y.f y.t bv y.b, sendG 256 given l y.b, out, v53, B53, v2, B2, D2) ⟨by omega, by omega, by rw [List.length_append]; show ss.length + 1 ≤ i + 1; omega, by omega, by omega, by omega, ho0, by omega, (fun z hz => by rcases List.mem_append.1 hz with hz | hz; exact hst z hz; simp only [List.mem_singleton] at hz; subst hz; exact hyb), hsd, hab2, by rw [List.map_append]; exact hsl53, hsl2, hS.sel (by repeat constructor)⟩ (by dsimp only; omega) (by repeat constructor)
            | exact SatE.again (i + 1, ss, sendL 256 given l y.f y.t bv y.b, sendG 256 given l y.b, out, sv, SB, v2, B2, D2) ⟨by omega, by omega, by omega, by omega, by omega, by omega, ho0, by omega, hst, by (have e : sendL 256 given l y.f y.t bv y.b = l := if_pos (by assumption)); rw [e]; exact hsaid, hab2, hsv, hsl2, hS.sel (by repeat constructor)⟩ (by dsimp only; omega) (by repeat constructor)
            | (rw [if_pos (by assumption)] at hol; exact SatE.again (i + 1, ss, outL l y.n, given, out + 1, sv, SB, v2, B2, D) ⟨by omega, by omega, by omega, by omega, by omega, by omega, by omega, by omega, hst, said_out y.n hsaid, ab_sub hab (fun x hx => (List.eraseIdx_sublist ..).subset hx), hsv, hsl2, hS.sel (by repeat constructor)⟩ (by dsimp only; omega) (by repeat constructor))
            | (rw [if_neg (by simp_all)] at hol; exact SatE.again (i + 1, ss, outL l y.n, given, out, sv, SB, v2, B2, D) ⟨by omega, by omega, by omega, by omega, by omega, by omega, by omega, by omega, hst, said_out y.n hsaid, ab_sub hab (fun x hx => (List.eraseIdx_sublist ..).subset hx), hsv, hsl2, hS.sel (by repeat constructor)⟩ (by dsimp only; omega) (by repeat constructor))
            | exact SatE.again (i + 1, ss, cpL 256 given l y.n bv, cpG 256 given l y.n, out, sv, SB, v2, B2, D2) ⟨by omega, by omega, by omega, by omega, by omega, by omega, ho0, by omega, hst, said_copy hsaid, hab2, hsv, hsl2, hS.sel (by repeat constructor)⟩ (by dsimp only; omega) (by repeat constructor)
            | exact SatE.again (i + 1, ss, keepL y.n l, given, out + ((l.length : Int) - (keepL y.n l).length), sv, SB, v2, B2, D) ⟨by omega, by omega, by omega, by omega, by omega, by omega, by omega, by omega, hst, said_keep y.n hsaid, ab_sub hab (fun x hx => (List.mem_filter.1 hx).1), hsv, hsl2, hS.sel (by repeat constructor)⟩ (by dsimp only; omega) (by repeat constructor)
        · (try simp only [cx, ne_eq] at h4)
          try (exfalso; (first | omega | exact h4 trivial | contradiction); done)
          all_goals
          refine SatC.skip (SatE.blk_normal (SatE.blk_normal (SatE.thenC ?_)))
          refine SatC.region ?_
          refine SatL.pu (RunV.move rfl) rfl ?_
          refine SatL.pu (RunV.add rfl rfl (by first | exact wrapI64 (by omega) | rfl)) rfl ?_
          refine SatL.pu (RunV.assign rfl) rfl ?_
          refine SatL.nil ?_
          first
          | (exfalso; exact Bool.noConfusion ((by assumption : (outX l y.n).isSome = true).symm.trans (by assumption : (outX l y.n).isSome = false)))
          | exact SatE.again (i + 1, ss ++ [y], sendL 256 given l y.f y.t bv y.b, sendG 256 given l y.b, out, v53, B53, v2, B2, D2) ⟨by omega, by omega, by rw [List.length_append]; show ss.length + 1 ≤ i + 1; omega, by omega, by omega, by omega, ho0, by omega, (fun z hz => by rcases List.mem_append.1 hz with hz | hz; exact hst z hz; simp only [List.mem_singleton] at hz; subst hz; exact hyb), hsd, hab2, by rw [List.map_append]; exact hsl53, hsl2, hS.sel (by repeat constructor)⟩ (by dsimp only; omega) (by repeat constructor)
          | exact SatE.again (i + 1, ss, sendL 256 given l y.f y.t bv y.b, sendG 256 given l y.b, out, sv, SB, v2, B2, D2) ⟨by omega, by omega, by omega, by omega, by omega, by omega, ho0, by omega, hst, by (have e : sendL 256 given l y.f y.t bv y.b = l := if_pos (by assumption)); rw [e]; exact hsaid, hab2, hsv, hsl2, hS.sel (by repeat constructor)⟩ (by dsimp only; omega) (by repeat constructor)
          | (rw [if_pos (by assumption)] at hol; exact SatE.again (i + 1, ss, outL l y.n, given, out + 1, sv, SB, v2, B2, D) ⟨by omega, by omega, by omega, by omega, by omega, by omega, by omega, by omega, hst, said_out y.n hsaid, ab_sub hab (fun x hx => (List.eraseIdx_sublist ..).subset hx), hsv, hsl2, hS.sel (by repeat constructor)⟩ (by dsimp only; omega) (by repeat constructor))
          | (rw [if_neg (by simp_all)] at hol; exact SatE.again (i + 1, ss, outL l y.n, given, out, sv, SB, v2, B2, D) ⟨by omega, by omega, by omega, by omega, by omega, by omega, by omega, by omega, hst, said_out y.n hsaid, ab_sub hab (fun x hx => (List.eraseIdx_sublist ..).subset hx), hsv, hsl2, hS.sel (by repeat constructor)⟩ (by dsimp only; omega) (by repeat constructor))
          | exact SatE.again (i + 1, ss, cpL 256 given l y.n bv, cpG 256 given l y.n, out, sv, SB, v2, B2, D2) ⟨by omega, by omega, by omega, by omega, by omega, by omega, ho0, by omega, hst, said_copy hsaid, hab2, hsv, hsl2, hS.sel (by repeat constructor)⟩ (by dsimp only; omega) (by repeat constructor)
          | exact SatE.again (i + 1, ss, keepL y.n l, given, out + ((l.length : Int) - (keepL y.n l).length), sv, SB, v2, B2, D) ⟨by omega, by omega, by omega, by omega, by omega, by omega, by omega, by omega, hst, said_keep y.n hsaid, ab_sub hab (fun x hx => (List.mem_filter.1 hx).1), hsv, hsl2, hS.sel (by repeat constructor)⟩ (by dsimp only; omega) (by repeat constructor)
      · (try simp only [cx, ne_eq] at h3)
        try (exfalso; (first | omega | exact h3 trivial | contradiction); done)
        all_goals
        refine SatC.seq ?_
        refine SatC.region ?_
        refine SatL.pu (RunV.eql rfl rfl) rfl ?_
        refine SatL.pu (RunV.assign rfl) rfl ?_
        refine SatL.nil (SatE.thenC ?_)
        refine SatC.cond rfl (fun h4 => ?_) (fun h4 => ?_)
        · (try simp only [cx, ne_eq] at h4)
          try (exfalso; (first | omega | exact h4 trivial | contradiction); done)
          all_goals
          refine SatC.seq ?_
          refine SatC.region ?_
          refine SatL.pu (RunV.move rfl) rfl ?_
          first | refine SatL.pu (RunV.fieldAddrL rfl rfl rfl) rfl ?_ | refine SatL.pu (RunV.fieldAddr rfl rfl rfl) rfl ?_
          refine SatL.pu (RunV.load1 hS rfl rfl (by repeat constructor) rfl) rfl ?_
          refine SatL.op rfl (OpW.enter rfl rfl rfl (rfl) (deliver_any y.n hm (by omega) hab hsl (hS.ownT (A := FO b fv 256 given B D) (by repeat constructor))) ?_)
          rintro r5 w5 ⟨rfl, v2, B2, hsl2, h⟩
          replace hS := hS.callT (A := FO b fv 256 given B D) (by repeat constructor) h
          simp only [List.append_assoc, List.cons_append, List.nil_append, List.append_nil] at hS
          have hol := out_len (l := l) (k := y.n)
          refine SatL.pu (RunV.move rfl) rfl ?_
          refine SatL.pu (RunV.extract rfl rfl) rfl ?_
          refine SatL.pu (RunV.extract rfl rfl) rfl ?_
          refine SatL.op rfl (OpW.alloc hS rfl rfl (by repeat constructor) ?_)
          clear hS
          intro b10 w6 _ hS
          refine SatL.op rfl (OpW.store hS rfl rfl (by repeat constructor) (by repeat constructor) (by repeat constructor) rfl (by simp only [List.all_cons, List.all_nil, outP_one hab y.n, Bool.and_true]; rfl) ?_)
          clear hS
          intro w7 hS
          refine SatL.pu (RunV.assign rfl) rfl ?_
          refine SatL.nil (SatE.thenC ?_)
          refine SatC.seq ?_
          refine SatC.weak (e' := [(0, _), (2, _), (3, _), (4, _), (5, _), (6, _), (10, _), (11, _)]) (by repeat constructor) ?_
          refine SatC.region ?_
          refine SatL.pu (RunV.assign rfl) rfl ?_
          refine SatL.nil (SatE.thenC ?_)
          refine SatC.seq ?_
          refine SatC.seq ?_
          refine SatC.region ?_
          refine SatL.pu (RunV.assign rfl) rfl ?_
          refine SatL.nil (SatE.thenC ?_)
          refine SatC.block ?_
          refine SatC.loopK (G := Nat × Bool) (V := fun ⟨j, q⟩ => [(13, .int .i64 (j : Int)), (12, .bool q)]) (Cn := [(0, _), (2, _), (3, _), (4, _), (5, _), (6, _), (10, _), (11, _)]) (I := fun ⟨j, q⟩ w' => j ≤ ss.length ∧ (q = true ↔ ∃ z ∈ ss.take j, Fits (outP l y.n) z) ∧ St w [] ((b10, C 24 [.int .i64 (outP l y.n).f, .int .i64 (outP l y.n).t, (outP l y.n).v]) :: (SB ++ FO b v2 256 given B2 D)) w') (μ := fun ⟨j, q⟩ => ss.length - j) (0, false) ?_ (by repeat constructor) ?_
          · exact ⟨Nat.zero_le _, by simp, hS.sel (by repeat constructor)⟩
          clear hS
          rintro ⟨j, q⟩ w8 ⟨hj, hq, hS⟩
          refine SatC.weak (e' := [(0, _), (2, _), (3, _), (4, _), (5, _), (6, _), (10, _), (11, _), (12, _), (13, _)]) (by repeat constructor) ?_
          refine SatC.seq ?_
          refine SatC.seq ?_
          refine SatC.region ?_
          refine SatL.pu (RunV.move rfl) rfl ?_
          refine SatL.pu (RunV.move rfl) rfl ?_
          first | refine SatL.pu (RunV.lenR (by assumption) rfl rfl) rfl ?_ | refine SatL.pu (RunV.lenS rfl rfl) rfl ?_
          refine SatL.pu (RunV.lss rfl rfl) rfl ?_
          refine SatL.nil (SatE.thenC ?_)
          refine SatC.cond rfl (fun h5 => ?_) (fun h5 => ?_)
          · (try simp only [cx, ne_eq] at h5)
            try (exfalso; (first | omega | exact h5 trivial | contradiction); done)
            all_goals
            refine SatC.skip (SatE.thenC ?_)
            refine SatC.seq ?_
            refine SatC.block ?_
            obtain ⟨z, hz⟩ := get_some ss j (by omega)
            have hzb := hst z (List.mem_of_getElem? hz)
            have hzt : ss.take (j + 1) = ss.take j ++ [z] := by rw [List.take_add_one, hz]; rfl
            refine SatC.drawnT 10 hS (hS) (by kernel_rfl) ?_
            clear hS
            intro w9 hh hS hD
            refine SatD.tk 0 rfl hD (fun _ hw => RunV.move rfl) ?_
            refine SatD.tk 1 rfl hD (fun _ hw => RunV.move rfl) ?_
            refine SatD.ways 74 rfl (fun h6 => ?_) (fun h6 => ?_)
            · (try simp only [cx, ne_eq] at h6)
              try (exfalso; (first | omega | exact h6 trivial | contradiction); done)
              all_goals
              refine SatD.sk 2 rfl [] hD ?_
              refine SatD.sk 3 rfl [] hD ?_
              refine SatD.sk 4 rfl [] hD ?_
              refine SatD.sk 5 rfl [] hD ?_
              refine SatD.sk 6 rfl [] hD ?_
              refine SatD.sk 7 rfl [] hD ?_
              refine SatD.tk 8 rfl hD (fun _ hw => RunV.pick_t rfl rfl) ?_
              refine SatD.tk 9 rfl hD (fun _ hw => RunV.assign rfl) ?_
              refine SatD.done 0 (by kernel_rfl) (SatE.blk_normal (SatE.thenC ?_))
              clear hD
              refine SatC.weak (e' := [(0, _), (2, _), (3, _), (4, _), (5, _), (6, _), (10, _), (11, _), (12, _), (13, _)]) (by repeat constructor) ?_
              refine SatC.region ?_
              refine SatL.pu (RunV.move rfl) rfl ?_
              refine SatL.pu (RunV.add rfl rfl (by first | exact wrapI64 (by omega) | rfl)) rfl ?_
              refine SatL.pu (RunV.assign rfl) rfl ?_
              refine SatL.nil ?_
              first
              | exact SatE.again (j + 1, true) ⟨by omega, ⟨fun _ => by
                  obtain ⟨a, ha, hf⟩ := hq.1 (by assumption)
                  exact ⟨a, by rw [hzt]; exact List.mem_append_left _ ha, hf⟩, fun _ => rfl⟩, hS.sel (by repeat constructor)⟩ (by dsimp only; omega) (by repeat constructor)
              | exact SatE.again (j + 1, decide (z.f = (outP l y.n).f ∧ z.t = (outP l y.n).t ∧ z.b = (outP l y.n).b)) ⟨by omega, by rw [hzt]; exact fits_next hq (by first | assumption | simp_all), hS.sel (by repeat constructor)⟩ (by dsimp only; omega) (by repeat constructor)
            · (try simp only [cx, ne_eq] at h6)
              try (exfalso; (first | omega | exact h6 trivial | contradiction); done)
              all_goals
              refine SatD.tk 2 rfl hD (fun _ hw => RunV.move rfl) ?_
              refine SatD.tk 3 rfl hD (fun _ hw => RunV.move rfl) ?_
              first | refine SatD.tk 4 rfl hD (fun _ hw => RunV.indexR (by assumption) rfl rfl rfl (by omega) (by omega) rfl) ?_ | refine SatD.tk 4 rfl hD (fun _ hw => RunV.indexS rfl rfl rfl (by omega) (by omega) rfl) ?_
              first | refine SatD.tk 5 rfl hD (fun _ hw => RunV.loadRNz (RdC.st (by assumption) hw List.not_mem_nil) rfl rfl (by first | assumption | exact map_get (by assumption))) ?_ | refine SatD.tk 5 rfl hD (fun _ hw => RunV.loadRNz (Sl.rd (by assumption) hw (by repeat constructor)) rfl rfl (by first | assumption | exact map_get (by assumption))) ?_
              refine SatD.tk 6 rfl hD (fun _ hw => RunV.loadN hw rfl rfl (by repeat constructor) (by repeat constructor)) ?_
              refine SatD.ef 7 rfl (OpW.enter rfl rfl rfl (rfl) (same_any z.f z.t (outP l y.n).f (outP l y.n).t z.v (outP l y.n).v z.b (outP l y.n).b _ (RdRow.st hzb hS) (outP_row hab (fun c hc => hS.own c (by simp [hc])) y.n)) ?_)
              rintro r10 w10 ⟨rfl, h⟩
              replace hS := St.callN hS h
              refine keepS (hS.sel (by repeat constructor)) (fun hD => ?_)
              refine SatD.tk 8 rfl hD (fun _ hw => RunV.pick_f rfl rfl) ?_
              refine SatD.tk 9 rfl hD (fun _ hw => RunV.assign rfl) ?_
              refine SatD.done 0 (by kernel_rfl) (SatE.blk_normal (SatE.thenC ?_))
              clear hD
              refine SatC.weak (e' := [(0, _), (2, _), (3, _), (4, _), (5, _), (6, _), (10, _), (11, _), (12, _), (13, _)]) (by repeat constructor) ?_
              refine SatC.region ?_
              refine SatL.pu (RunV.move rfl) rfl ?_
              refine SatL.pu (RunV.add rfl rfl (by first | exact wrapI64 (by omega) | rfl)) rfl ?_
              refine SatL.pu (RunV.assign rfl) rfl ?_
              refine SatL.nil ?_
              first
              | exact SatE.again (j + 1, true) ⟨by omega, ⟨fun _ => by
                  obtain ⟨a, ha, hf⟩ := hq.1 (by assumption)
                  exact ⟨a, by rw [hzt]; exact List.mem_append_left _ ha, hf⟩, fun _ => rfl⟩, hS.sel (by repeat constructor)⟩ (by dsimp only; omega) (by repeat constructor)
              | exact SatE.again (j + 1, decide (z.f = (outP l y.n).f ∧ z.t = (outP l y.n).t ∧ z.b = (outP l y.n).b)) ⟨by omega, by rw [hzt]; exact fits_next hq (by first | assumption | simp_all), hS.sel (by repeat constructor)⟩ (by dsimp only; omega) (by repeat constructor)
          · (try simp only [cx, ne_eq] at h5)
            try (exfalso; (first | omega | exact h5 trivial | contradiction); done)
            all_goals
            refine SatC.exit (SatE.then_exit (SatE.then_exit (SatE.blk_exit (SatE.thenC ?_))))
            refine SatC.seq ?_
            refine SatC.seq ?_
            refine SatC.region ?_
            refine SatL.pu (RunV.move rfl) rfl ?_
            refine SatL.pu (RunV.move rfl) rfl ?_
            refine SatL.guard rfl rfl rfl (fun h6 => ?_) (fun h6 => ?_)
            · (try simp only [cx, ne_eq] at h6)
              try (exfalso; (first | omega | exact h6 trivial | contradiction); done)
              all_goals
              refine SatL.pu (RunV.move rfl) rfl ?_
              refine SatL.guard_y rfl rfl ?_
              refine SatL.pu (RunV.not rfl) rfl ?_
              refine SatL.pu (RunV.pick_t rfl rfl) rfl ?_
              refine SatL.nil (SatE.thenC ?_)
              refine SatC.cond rfl (fun h7 => ?_) (fun h7 => ?_)
              · (try simp only [cx, ne_eq] at h7)
                try (exfalso; (first | omega | exact h7 trivial | contradiction); done)
                all_goals
                refine SatC.seq ?_
                refine SatC.weak (e' := [(0, _), (2, _), (3, _), (4, _), (5, _), (6, _)]) (by repeat constructor) ?_
                refine SatC.region ?_
                refine SatL.pu (RunV.assign rfl) rfl ?_
                refine SatL.nil (SatE.thenC ?_)
                refine SatC.ret (SatE.then_ret (SatE.blk_ret (SatE.blk_ret (SatE.then_ret (SatE.then_ret (SatE.blk_ret (SatE.then_ret ?_)))))))
                refine SatE.ret1 rfl rfl ?_
                first
                | exact ⟨rfl, hS.sel (by repeat constructor)⟩
                | (exfalso; have := send_ig (given := given) (by assumption : ¬ full 256 l y.b); omega)
                | (exfalso; obtain ⟨z, hz, hf⟩ := said_outP hsaid (by assumption : (outX l y.n).isSome = true); have := hq.2 ⟨z, by rw [List.take_of_length_le (by omega)]; exact hz, hf⟩; simp_all; done)
              · (try simp only [cx, ne_eq] at h7)
                try (exfalso; (first | omega | exact h7 trivial | contradiction); done)
                all_goals
                refine SatC.skip (SatE.thenC ?_)
                refine SatC.seq ?_
                refine SatC.weak (e' := [(0, _), (2, _), (3, _), (4, _), (5, _), (6, _), (11, _)]) (by repeat constructor) ?_
                refine SatC.region ?_
                refine SatL.pu (RunV.move rfl) rfl ?_
                refine SatL.nil (SatE.thenC ?_)
                refine SatC.cond rfl (fun h8 => ?_) (fun h8 => ?_)
                · (try simp only [cx, ne_eq] at h8)
                  try (exfalso; (first | omega | exact h8 trivial | contradiction); done)
                  all_goals
                  refine SatC.region ?_
                  refine SatL.pu (RunV.move rfl) rfl ?_
                  refine SatL.pu (RunV.add rfl rfl (by first | exact wrapI64 (by omega) | rfl)) rfl ?_
                  refine SatL.pu (RunV.assign rfl) rfl ?_
                  refine SatL.nil (SatE.blk_normal (SatE.blk_normal (SatE.thenC ?_)))
                  refine SatC.region ?_
                  refine SatL.pu (RunV.move rfl) rfl ?_
                  refine SatL.pu (RunV.add rfl rfl (by first | exact wrapI64 (by omega) | rfl)) rfl ?_
                  refine SatL.pu (RunV.assign rfl) rfl ?_
                  refine SatL.nil ?_
                  first
                  | (exfalso; exact Bool.noConfusion ((by assumption : (outX l y.n).isSome = true).symm.trans (by assumption : (outX l y.n).isSome = false)))
                  | exact SatE.again (i + 1, ss ++ [y], sendL 256 given l y.f y.t bv y.b, sendG 256 given l y.b, out, v53, B53, v2, B2, D2) ⟨by omega, by omega, by rw [List.length_append]; show ss.length + 1 ≤ i + 1; omega, by omega, by omega, by omega, ho0, by omega, (fun z hz => by rcases List.mem_append.1 hz with hz | hz; exact hst z hz; simp only [List.mem_singleton] at hz; subst hz; exact hyb), hsd, hab2, by rw [List.map_append]; exact hsl53, hsl2, hS.sel (by repeat constructor)⟩ (by dsimp only; omega) (by repeat constructor)
                  | exact SatE.again (i + 1, ss, sendL 256 given l y.f y.t bv y.b, sendG 256 given l y.b, out, sv, SB, v2, B2, D2) ⟨by omega, by omega, by omega, by omega, by omega, by omega, ho0, by omega, hst, by (have e : sendL 256 given l y.f y.t bv y.b = l := if_pos (by assumption)); rw [e]; exact hsaid, hab2, hsv, hsl2, hS.sel (by repeat constructor)⟩ (by dsimp only; omega) (by repeat constructor)
                  | (rw [if_pos (by assumption)] at hol; exact SatE.again (i + 1, ss, outL l y.n, given, out + 1, sv, SB, v2, B2, D) ⟨by omega, by omega, by omega, by omega, by omega, by omega, by omega, by omega, hst, said_out y.n hsaid, ab_sub hab (fun x hx => (List.eraseIdx_sublist ..).subset hx), hsv, hsl2, hS.sel (by repeat constructor)⟩ (by dsimp only; omega) (by repeat constructor))
                  | (rw [if_neg (by simp_all)] at hol; exact SatE.again (i + 1, ss, outL l y.n, given, out, sv, SB, v2, B2, D) ⟨by omega, by omega, by omega, by omega, by omega, by omega, by omega, by omega, hst, said_out y.n hsaid, ab_sub hab (fun x hx => (List.eraseIdx_sublist ..).subset hx), hsv, hsl2, hS.sel (by repeat constructor)⟩ (by dsimp only; omega) (by repeat constructor))
                  | exact SatE.again (i + 1, ss, cpL 256 given l y.n bv, cpG 256 given l y.n, out, sv, SB, v2, B2, D2) ⟨by omega, by omega, by omega, by omega, by omega, by omega, ho0, by omega, hst, said_copy hsaid, hab2, hsv, hsl2, hS.sel (by repeat constructor)⟩ (by dsimp only; omega) (by repeat constructor)
                  | exact SatE.again (i + 1, ss, keepL y.n l, given, out + ((l.length : Int) - (keepL y.n l).length), sv, SB, v2, B2, D) ⟨by omega, by omega, by omega, by omega, by omega, by omega, by omega, by omega, hst, said_keep y.n hsaid, ab_sub hab (fun x hx => (List.mem_filter.1 hx).1), hsv, hsl2, hS.sel (by repeat constructor)⟩ (by dsimp only; omega) (by repeat constructor)
                · (try simp only [cx, ne_eq] at h8)
                  try (exfalso; (first | omega | exact h8 trivial | contradiction); done)
                  all_goals
                  refine SatC.skip (SatE.blk_normal (SatE.blk_normal (SatE.thenC ?_)))
                  refine SatC.region ?_
                  refine SatL.pu (RunV.move rfl) rfl ?_
                  refine SatL.pu (RunV.add rfl rfl (by first | exact wrapI64 (by omega) | rfl)) rfl ?_
                  refine SatL.pu (RunV.assign rfl) rfl ?_
                  refine SatL.nil ?_
                  first
                  | (exfalso; exact Bool.noConfusion ((by assumption : (outX l y.n).isSome = true).symm.trans (by assumption : (outX l y.n).isSome = false)))
                  | exact SatE.again (i + 1, ss ++ [y], sendL 256 given l y.f y.t bv y.b, sendG 256 given l y.b, out, v53, B53, v2, B2, D2) ⟨by omega, by omega, by rw [List.length_append]; show ss.length + 1 ≤ i + 1; omega, by omega, by omega, by omega, ho0, by omega, (fun z hz => by rcases List.mem_append.1 hz with hz | hz; exact hst z hz; simp only [List.mem_singleton] at hz; subst hz; exact hyb), hsd, hab2, by rw [List.map_append]; exact hsl53, hsl2, hS.sel (by repeat constructor)⟩ (by dsimp only; omega) (by repeat constructor)
                  | exact SatE.again (i + 1, ss, sendL 256 given l y.f y.t bv y.b, sendG 256 given l y.b, out, sv, SB, v2, B2, D2) ⟨by omega, by omega, by omega, by omega, by omega, by omega, ho0, by omega, hst, by (have e : sendL 256 given l y.f y.t bv y.b = l := if_pos (by assumption)); rw [e]; exact hsaid, hab2, hsv, hsl2, hS.sel (by repeat constructor)⟩ (by dsimp only; omega) (by repeat constructor)
                  | (rw [if_pos (by assumption)] at hol; exact SatE.again (i + 1, ss, outL l y.n, given, out + 1, sv, SB, v2, B2, D) ⟨by omega, by omega, by omega, by omega, by omega, by omega, by omega, by omega, hst, said_out y.n hsaid, ab_sub hab (fun x hx => (List.eraseIdx_sublist ..).subset hx), hsv, hsl2, hS.sel (by repeat constructor)⟩ (by dsimp only; omega) (by repeat constructor))
                  | (rw [if_neg (by simp_all)] at hol; exact SatE.again (i + 1, ss, outL l y.n, given, out, sv, SB, v2, B2, D) ⟨by omega, by omega, by omega, by omega, by omega, by omega, by omega, by omega, hst, said_out y.n hsaid, ab_sub hab (fun x hx => (List.eraseIdx_sublist ..).subset hx), hsv, hsl2, hS.sel (by repeat constructor)⟩ (by dsimp only; omega) (by repeat constructor))
                  | exact SatE.again (i + 1, ss, cpL 256 given l y.n bv, cpG 256 given l y.n, out, sv, SB, v2, B2, D2) ⟨by omega, by omega, by omega, by omega, by omega, by omega, ho0, by omega, hst, said_copy hsaid, hab2, hsv, hsl2, hS.sel (by repeat constructor)⟩ (by dsimp only; omega) (by repeat constructor)
                  | exact SatE.again (i + 1, ss, keepL y.n l, given, out + ((l.length : Int) - (keepL y.n l).length), sv, SB, v2, B2, D) ⟨by omega, by omega, by omega, by omega, by omega, by omega, by omega, by omega, hst, said_keep y.n hsaid, ab_sub hab (fun x hx => (List.mem_filter.1 hx).1), hsv, hsl2, hS.sel (by repeat constructor)⟩ (by dsimp only; omega) (by repeat constructor)
            · (try simp only [cx, ne_eq] at h6)
              try (exfalso; (first | omega | exact h6 trivial | contradiction); done)
              all_goals
              refine SatL.guard_n rfl rfl rfl rfl ?_
              refine SatL.pu (RunV.pick_f rfl rfl) rfl ?_
              refine SatL.nil (SatE.thenC ?_)
              refine SatC.cond_f rfl ?_
              refine SatC.skip (SatE.thenC ?_)
              refine SatC.seq ?_
              refine SatC.weak (e' := [(0, _), (2, _), (3, _), (4, _), (5, _), (6, _), (11, _)]) (by repeat constructor) ?_
              refine SatC.region ?_
              refine SatL.pu (RunV.move rfl) rfl ?_
              refine SatL.nil (SatE.thenC ?_)
              refine SatC.cond rfl (fun h7 => ?_) (fun h7 => ?_)
              · (try simp only [cx, ne_eq] at h7)
                try (exfalso; (first | omega | exact h7 trivial | contradiction); done)
                all_goals
                refine SatC.region ?_
                refine SatL.pu (RunV.move rfl) rfl ?_
                refine SatL.pu (RunV.add rfl rfl (by first | exact wrapI64 (by omega) | rfl)) rfl ?_
                refine SatL.pu (RunV.assign rfl) rfl ?_
                refine SatL.nil (SatE.blk_normal (SatE.blk_normal (SatE.thenC ?_)))
                refine SatC.region ?_
                refine SatL.pu (RunV.move rfl) rfl ?_
                refine SatL.pu (RunV.add rfl rfl (by first | exact wrapI64 (by omega) | rfl)) rfl ?_
                refine SatL.pu (RunV.assign rfl) rfl ?_
                refine SatL.nil ?_
                first
                | (exfalso; exact Bool.noConfusion ((by assumption : (outX l y.n).isSome = true).symm.trans (by assumption : (outX l y.n).isSome = false)))
                | exact SatE.again (i + 1, ss ++ [y], sendL 256 given l y.f y.t bv y.b, sendG 256 given l y.b, out, v53, B53, v2, B2, D2) ⟨by omega, by omega, by rw [List.length_append]; show ss.length + 1 ≤ i + 1; omega, by omega, by omega, by omega, ho0, by omega, (fun z hz => by rcases List.mem_append.1 hz with hz | hz; exact hst z hz; simp only [List.mem_singleton] at hz; subst hz; exact hyb), hsd, hab2, by rw [List.map_append]; exact hsl53, hsl2, hS.sel (by repeat constructor)⟩ (by dsimp only; omega) (by repeat constructor)
                | exact SatE.again (i + 1, ss, sendL 256 given l y.f y.t bv y.b, sendG 256 given l y.b, out, sv, SB, v2, B2, D2) ⟨by omega, by omega, by omega, by omega, by omega, by omega, ho0, by omega, hst, by (have e : sendL 256 given l y.f y.t bv y.b = l := if_pos (by assumption)); rw [e]; exact hsaid, hab2, hsv, hsl2, hS.sel (by repeat constructor)⟩ (by dsimp only; omega) (by repeat constructor)
                | (rw [if_pos (by assumption)] at hol; exact SatE.again (i + 1, ss, outL l y.n, given, out + 1, sv, SB, v2, B2, D) ⟨by omega, by omega, by omega, by omega, by omega, by omega, by omega, by omega, hst, said_out y.n hsaid, ab_sub hab (fun x hx => (List.eraseIdx_sublist ..).subset hx), hsv, hsl2, hS.sel (by repeat constructor)⟩ (by dsimp only; omega) (by repeat constructor))
                | (rw [if_neg (by simp_all)] at hol; exact SatE.again (i + 1, ss, outL l y.n, given, out, sv, SB, v2, B2, D) ⟨by omega, by omega, by omega, by omega, by omega, by omega, by omega, by omega, hst, said_out y.n hsaid, ab_sub hab (fun x hx => (List.eraseIdx_sublist ..).subset hx), hsv, hsl2, hS.sel (by repeat constructor)⟩ (by dsimp only; omega) (by repeat constructor))
                | exact SatE.again (i + 1, ss, cpL 256 given l y.n bv, cpG 256 given l y.n, out, sv, SB, v2, B2, D2) ⟨by omega, by omega, by omega, by omega, by omega, by omega, ho0, by omega, hst, said_copy hsaid, hab2, hsv, hsl2, hS.sel (by repeat constructor)⟩ (by dsimp only; omega) (by repeat constructor)
                | exact SatE.again (i + 1, ss, keepL y.n l, given, out + ((l.length : Int) - (keepL y.n l).length), sv, SB, v2, B2, D) ⟨by omega, by omega, by omega, by omega, by omega, by omega, by omega, by omega, hst, said_keep y.n hsaid, ab_sub hab (fun x hx => (List.mem_filter.1 hx).1), hsv, hsl2, hS.sel (by repeat constructor)⟩ (by dsimp only; omega) (by repeat constructor)
              · (try simp only [cx, ne_eq] at h7)
                try (exfalso; (first | omega | exact h7 trivial | contradiction); done)
                all_goals
                refine SatC.skip (SatE.blk_normal (SatE.blk_normal (SatE.thenC ?_)))
                refine SatC.region ?_
                refine SatL.pu (RunV.move rfl) rfl ?_
                refine SatL.pu (RunV.add rfl rfl (by first | exact wrapI64 (by omega) | rfl)) rfl ?_
                refine SatL.pu (RunV.assign rfl) rfl ?_
                refine SatL.nil ?_
                first
                | (exfalso; exact Bool.noConfusion ((by assumption : (outX l y.n).isSome = true).symm.trans (by assumption : (outX l y.n).isSome = false)))
                | exact SatE.again (i + 1, ss ++ [y], sendL 256 given l y.f y.t bv y.b, sendG 256 given l y.b, out, v53, B53, v2, B2, D2) ⟨by omega, by omega, by rw [List.length_append]; show ss.length + 1 ≤ i + 1; omega, by omega, by omega, by omega, ho0, by omega, (fun z hz => by rcases List.mem_append.1 hz with hz | hz; exact hst z hz; simp only [List.mem_singleton] at hz; subst hz; exact hyb), hsd, hab2, by rw [List.map_append]; exact hsl53, hsl2, hS.sel (by repeat constructor)⟩ (by dsimp only; omega) (by repeat constructor)
                | exact SatE.again (i + 1, ss, sendL 256 given l y.f y.t bv y.b, sendG 256 given l y.b, out, sv, SB, v2, B2, D2) ⟨by omega, by omega, by omega, by omega, by omega, by omega, ho0, by omega, hst, by (have e : sendL 256 given l y.f y.t bv y.b = l := if_pos (by assumption)); rw [e]; exact hsaid, hab2, hsv, hsl2, hS.sel (by repeat constructor)⟩ (by dsimp only; omega) (by repeat constructor)
                | (rw [if_pos (by assumption)] at hol; exact SatE.again (i + 1, ss, outL l y.n, given, out + 1, sv, SB, v2, B2, D) ⟨by omega, by omega, by omega, by omega, by omega, by omega, by omega, by omega, hst, said_out y.n hsaid, ab_sub hab (fun x hx => (List.eraseIdx_sublist ..).subset hx), hsv, hsl2, hS.sel (by repeat constructor)⟩ (by dsimp only; omega) (by repeat constructor))
                | (rw [if_neg (by simp_all)] at hol; exact SatE.again (i + 1, ss, outL l y.n, given, out, sv, SB, v2, B2, D) ⟨by omega, by omega, by omega, by omega, by omega, by omega, by omega, by omega, hst, said_out y.n hsaid, ab_sub hab (fun x hx => (List.eraseIdx_sublist ..).subset hx), hsv, hsl2, hS.sel (by repeat constructor)⟩ (by dsimp only; omega) (by repeat constructor))
                | exact SatE.again (i + 1, ss, cpL 256 given l y.n bv, cpG 256 given l y.n, out, sv, SB, v2, B2, D2) ⟨by omega, by omega, by omega, by omega, by omega, by omega, ho0, by omega, hst, said_copy hsaid, hab2, hsv, hsl2, hS.sel (by repeat constructor)⟩ (by dsimp only; omega) (by repeat constructor)
                | exact SatE.again (i + 1, ss, keepL y.n l, given, out + ((l.length : Int) - (keepL y.n l).length), sv, SB, v2, B2, D) ⟨by omega, by omega, by omega, by omega, by omega, by omega, by omega, by omega, hst, said_keep y.n hsaid, ab_sub hab (fun x hx => (List.mem_filter.1 hx).1), hsv, hsl2, hS.sel (by repeat constructor)⟩ (by dsimp only; omega) (by repeat constructor)
        · (try simp only [cx, ne_eq] at h4)
          try (exfalso; (first | omega | exact h4 trivial | contradiction); done)
          all_goals
          refine SatC.seq ?_
          refine SatC.region ?_
          refine SatL.pu (RunV.eql rfl rfl) rfl ?_
          refine SatL.pu (RunV.assign rfl) rfl ?_
          refine SatL.nil (SatE.thenC ?_)
          refine SatC.cond rfl (fun h5 => ?_) (fun h5 => ?_)
          · (try simp only [cx, ne_eq] at h5)
            try (exfalso; (first | omega | exact h5 trivial | contradiction); done)
            all_goals
            refine SatC.seq ?_
            refine SatC.region ?_
            refine SatL.pu (RunV.move rfl) rfl ?_
            first | refine SatL.pu (RunV.fieldAddrL rfl rfl rfl) rfl ?_ | refine SatL.pu (RunV.fieldAddr rfl rfl rfl) rfl ?_
            refine SatL.pu (RunV.load1 hS rfl rfl (by repeat constructor) rfl) rfl ?_
            refine SatL.op rfl (OpW.enter rfl rfl rfl (rfl) (drop_any y.n hm (by omega) hab hsl (hS.ownT (A := FO b fv 256 given B D) (by repeat constructor))) ?_)
            rintro r5 w5 ⟨rfl, v2, B2, hsl2, h⟩
            replace hS := hS.callT (A := FO b fv 256 given B D) (by repeat constructor) h
            simp only [List.append_assoc, List.cons_append, List.nil_append, List.append_nil] at hS
            have hol := out_len (l := l) (k := y.n)
            refine SatL.pu (RunV.move rfl) rfl ?_
            refine SatL.pu (RunV.extract rfl rfl) rfl ?_
            refine SatL.pu (RunV.extract rfl rfl) rfl ?_
            refine SatL.pu (RunV.assign rfl) rfl ?_
            refine SatL.pu (RunV.assign rfl) rfl ?_
            refine SatL.nil (SatE.thenC ?_)
            refine SatC.seq ?_
            refine SatC.weak (e' := [(0, _), (2, _), (3, _), (4, _), (5, _), (6, _), (15, _)]) (by repeat constructor) ?_
            refine SatC.region ?_
            refine SatL.pu (RunV.move rfl) rfl ?_
            refine SatL.nil (SatE.thenC ?_)
            refine SatC.cond rfl (fun h6 => ?_) (fun h6 => ?_)
            · (try simp only [cx, ne_eq] at h6)
              try (exfalso; (first | omega | exact h6 trivial | contradiction); done)
              all_goals
              refine SatC.region ?_
              refine SatL.pu (RunV.move rfl) rfl ?_
              refine SatL.pu (RunV.add rfl rfl (by first | exact wrapI64 (by omega) | rfl)) rfl ?_
              refine SatL.pu (RunV.assign rfl) rfl ?_
              refine SatL.nil (SatE.blk_normal (SatE.blk_normal (SatE.thenC ?_)))
              refine SatC.region ?_
              refine SatL.pu (RunV.move rfl) rfl ?_
              refine SatL.pu (RunV.add rfl rfl (by first | exact wrapI64 (by omega) | rfl)) rfl ?_
              refine SatL.pu (RunV.assign rfl) rfl ?_
              refine SatL.nil ?_
              first
              | (exfalso; exact Bool.noConfusion ((by assumption : (outX l y.n).isSome = true).symm.trans (by assumption : (outX l y.n).isSome = false)))
              | exact SatE.again (i + 1, ss ++ [y], sendL 256 given l y.f y.t bv y.b, sendG 256 given l y.b, out, v53, B53, v2, B2, D2) ⟨by omega, by omega, by rw [List.length_append]; show ss.length + 1 ≤ i + 1; omega, by omega, by omega, by omega, ho0, by omega, (fun z hz => by rcases List.mem_append.1 hz with hz | hz; exact hst z hz; simp only [List.mem_singleton] at hz; subst hz; exact hyb), hsd, hab2, by rw [List.map_append]; exact hsl53, hsl2, hS.sel (by repeat constructor)⟩ (by dsimp only; omega) (by repeat constructor)
              | exact SatE.again (i + 1, ss, sendL 256 given l y.f y.t bv y.b, sendG 256 given l y.b, out, sv, SB, v2, B2, D2) ⟨by omega, by omega, by omega, by omega, by omega, by omega, ho0, by omega, hst, by (have e : sendL 256 given l y.f y.t bv y.b = l := if_pos (by assumption)); rw [e]; exact hsaid, hab2, hsv, hsl2, hS.sel (by repeat constructor)⟩ (by dsimp only; omega) (by repeat constructor)
              | (rw [if_pos (by assumption)] at hol; exact SatE.again (i + 1, ss, outL l y.n, given, out + 1, sv, SB, v2, B2, D) ⟨by omega, by omega, by omega, by omega, by omega, by omega, by omega, by omega, hst, said_out y.n hsaid, ab_sub hab (fun x hx => (List.eraseIdx_sublist ..).subset hx), hsv, hsl2, hS.sel (by repeat constructor)⟩ (by dsimp only; omega) (by repeat constructor))
              | (rw [if_neg (by simp_all)] at hol; exact SatE.again (i + 1, ss, outL l y.n, given, out, sv, SB, v2, B2, D) ⟨by omega, by omega, by omega, by omega, by omega, by omega, by omega, by omega, hst, said_out y.n hsaid, ab_sub hab (fun x hx => (List.eraseIdx_sublist ..).subset hx), hsv, hsl2, hS.sel (by repeat constructor)⟩ (by dsimp only; omega) (by repeat constructor))
              | exact SatE.again (i + 1, ss, cpL 256 given l y.n bv, cpG 256 given l y.n, out, sv, SB, v2, B2, D2) ⟨by omega, by omega, by omega, by omega, by omega, by omega, ho0, by omega, hst, said_copy hsaid, hab2, hsv, hsl2, hS.sel (by repeat constructor)⟩ (by dsimp only; omega) (by repeat constructor)
              | exact SatE.again (i + 1, ss, keepL y.n l, given, out + ((l.length : Int) - (keepL y.n l).length), sv, SB, v2, B2, D) ⟨by omega, by omega, by omega, by omega, by omega, by omega, by omega, by omega, hst, said_keep y.n hsaid, ab_sub hab (fun x hx => (List.mem_filter.1 hx).1), hsv, hsl2, hS.sel (by repeat constructor)⟩ (by dsimp only; omega) (by repeat constructor)
            · (try simp only [cx, ne_eq] at h6)
              try (exfalso; (first | omega | exact h6 trivial | contradiction); done)
              all_goals
              refine SatC.skip (SatE.blk_normal (SatE.blk_normal (SatE.thenC ?_)))
              refine SatC.region ?_
              refine SatL.pu (RunV.move rfl) rfl ?_
              refine SatL.pu (RunV.add rfl rfl (by first | exact wrapI64 (by omega) | rfl)) rfl ?_
              refine SatL.pu (RunV.assign rfl) rfl ?_
              refine SatL.nil ?_
              first
              | (exfalso; exact Bool.noConfusion ((by assumption : (outX l y.n).isSome = true).symm.trans (by assumption : (outX l y.n).isSome = false)))
              | exact SatE.again (i + 1, ss ++ [y], sendL 256 given l y.f y.t bv y.b, sendG 256 given l y.b, out, v53, B53, v2, B2, D2) ⟨by omega, by omega, by rw [List.length_append]; show ss.length + 1 ≤ i + 1; omega, by omega, by omega, by omega, ho0, by omega, (fun z hz => by rcases List.mem_append.1 hz with hz | hz; exact hst z hz; simp only [List.mem_singleton] at hz; subst hz; exact hyb), hsd, hab2, by rw [List.map_append]; exact hsl53, hsl2, hS.sel (by repeat constructor)⟩ (by dsimp only; omega) (by repeat constructor)
              | exact SatE.again (i + 1, ss, sendL 256 given l y.f y.t bv y.b, sendG 256 given l y.b, out, sv, SB, v2, B2, D2) ⟨by omega, by omega, by omega, by omega, by omega, by omega, ho0, by omega, hst, by (have e : sendL 256 given l y.f y.t bv y.b = l := if_pos (by assumption)); rw [e]; exact hsaid, hab2, hsv, hsl2, hS.sel (by repeat constructor)⟩ (by dsimp only; omega) (by repeat constructor)
              | (rw [if_pos (by assumption)] at hol; exact SatE.again (i + 1, ss, outL l y.n, given, out + 1, sv, SB, v2, B2, D) ⟨by omega, by omega, by omega, by omega, by omega, by omega, by omega, by omega, hst, said_out y.n hsaid, ab_sub hab (fun x hx => (List.eraseIdx_sublist ..).subset hx), hsv, hsl2, hS.sel (by repeat constructor)⟩ (by dsimp only; omega) (by repeat constructor))
              | (rw [if_neg (by simp_all)] at hol; exact SatE.again (i + 1, ss, outL l y.n, given, out, sv, SB, v2, B2, D) ⟨by omega, by omega, by omega, by omega, by omega, by omega, by omega, by omega, hst, said_out y.n hsaid, ab_sub hab (fun x hx => (List.eraseIdx_sublist ..).subset hx), hsv, hsl2, hS.sel (by repeat constructor)⟩ (by dsimp only; omega) (by repeat constructor))
              | exact SatE.again (i + 1, ss, cpL 256 given l y.n bv, cpG 256 given l y.n, out, sv, SB, v2, B2, D2) ⟨by omega, by omega, by omega, by omega, by omega, by omega, ho0, by omega, hst, said_copy hsaid, hab2, hsv, hsl2, hS.sel (by repeat constructor)⟩ (by dsimp only; omega) (by repeat constructor)
              | exact SatE.again (i + 1, ss, keepL y.n l, given, out + ((l.length : Int) - (keepL y.n l).length), sv, SB, v2, B2, D) ⟨by omega, by omega, by omega, by omega, by omega, by omega, by omega, by omega, hst, said_keep y.n hsaid, ab_sub hab (fun x hx => (List.mem_filter.1 hx).1), hsv, hsl2, hS.sel (by repeat constructor)⟩ (by dsimp only; omega) (by repeat constructor)
          · (try simp only [cx, ne_eq] at h5)
            try (exfalso; (first | omega | exact h5 trivial | contradiction); done)
            all_goals
            refine SatC.seq ?_
            refine SatC.region ?_
            refine SatL.pu (RunV.eql rfl rfl) rfl ?_
            refine SatL.pu (RunV.assign rfl) rfl ?_
            refine SatL.nil (SatE.thenC ?_)
            refine SatC.cond rfl (fun h6 => ?_) (fun h6 => ?_)
            · (try simp only [cx, ne_eq] at h6)
              try (exfalso; (first | omega | exact h6 trivial | contradiction); done)
              all_goals
              refine SatC.region ?_
              refine SatL.pu (RunV.move rfl) rfl ?_
              first | refine SatL.pu (RunV.fieldAddrL rfl rfl rfl) rfl ?_ | refine SatL.pu (RunV.fieldAddr rfl rfl rfl) rfl ?_
              refine SatL.pu (RunV.load1 hS rfl rfl (by repeat constructor) rfl) rfl ?_
              refine SatL.op rfl (OpW.enter rfl rfl rfl (rfl) (copy_any (given := given) y.n hm ⟨hg0, by omega⟩ (by omega) hab hsl (hS.ownT (A := FO b fv 256 given B D) (by repeat constructor))) ?_)
              rintro r5 w5 ⟨rfl, bv, v2, B2, D2, hsl2, hD2, hab2, h⟩
              replace hS := hS.callT (A := FO b fv 256 given B D) (by repeat constructor) h
              simp only [List.append_assoc, List.cons_append, List.nil_append, List.append_nil] at hS
              have hbs := copy_bal (l := l) (most := 256) (given := given) (k := y.n) (bv := bv)
              have hgg := copy_g (most := 256) (given := given) (l := l) (k := y.n)
              refine SatL.nil (SatE.blk_normal (SatE.blk_normal (SatE.thenC ?_)))
              refine SatC.weak (e' := [(0, _), (2, _), (3, _), (4, _), (5, _), (6, _)]) (by repeat constructor) ?_
              refine SatC.region ?_
              refine SatL.pu (RunV.move rfl) rfl ?_
              refine SatL.pu (RunV.add rfl rfl (by first | exact wrapI64 (by omega) | rfl)) rfl ?_
              refine SatL.pu (RunV.assign rfl) rfl ?_
              refine SatL.nil ?_
              first
              | (exfalso; exact Bool.noConfusion ((by assumption : (outX l y.n).isSome = true).symm.trans (by assumption : (outX l y.n).isSome = false)))
              | exact SatE.again (i + 1, ss ++ [y], sendL 256 given l y.f y.t bv y.b, sendG 256 given l y.b, out, v53, B53, v2, B2, D2) ⟨by omega, by omega, by rw [List.length_append]; show ss.length + 1 ≤ i + 1; omega, by omega, by omega, by omega, ho0, by omega, (fun z hz => by rcases List.mem_append.1 hz with hz | hz; exact hst z hz; simp only [List.mem_singleton] at hz; subst hz; exact hyb), hsd, hab2, by rw [List.map_append]; exact hsl53, hsl2, hS.sel (by repeat constructor)⟩ (by dsimp only; omega) (by repeat constructor)
              | exact SatE.again (i + 1, ss, sendL 256 given l y.f y.t bv y.b, sendG 256 given l y.b, out, sv, SB, v2, B2, D2) ⟨by omega, by omega, by omega, by omega, by omega, by omega, ho0, by omega, hst, by (have e : sendL 256 given l y.f y.t bv y.b = l := if_pos (by assumption)); rw [e]; exact hsaid, hab2, hsv, hsl2, hS.sel (by repeat constructor)⟩ (by dsimp only; omega) (by repeat constructor)
              | (rw [if_pos (by assumption)] at hol; exact SatE.again (i + 1, ss, outL l y.n, given, out + 1, sv, SB, v2, B2, D) ⟨by omega, by omega, by omega, by omega, by omega, by omega, by omega, by omega, hst, said_out y.n hsaid, ab_sub hab (fun x hx => (List.eraseIdx_sublist ..).subset hx), hsv, hsl2, hS.sel (by repeat constructor)⟩ (by dsimp only; omega) (by repeat constructor))
              | (rw [if_neg (by simp_all)] at hol; exact SatE.again (i + 1, ss, outL l y.n, given, out, sv, SB, v2, B2, D) ⟨by omega, by omega, by omega, by omega, by omega, by omega, by omega, by omega, hst, said_out y.n hsaid, ab_sub hab (fun x hx => (List.eraseIdx_sublist ..).subset hx), hsv, hsl2, hS.sel (by repeat constructor)⟩ (by dsimp only; omega) (by repeat constructor))
              | exact SatE.again (i + 1, ss, cpL 256 given l y.n bv, cpG 256 given l y.n, out, sv, SB, v2, B2, D2) ⟨by omega, by omega, by omega, by omega, by omega, by omega, ho0, by omega, hst, said_copy hsaid, hab2, hsv, hsl2, hS.sel (by repeat constructor)⟩ (by dsimp only; omega) (by repeat constructor)
              | exact SatE.again (i + 1, ss, keepL y.n l, given, out + ((l.length : Int) - (keepL y.n l).length), sv, SB, v2, B2, D) ⟨by omega, by omega, by omega, by omega, by omega, by omega, by omega, by omega, hst, said_keep y.n hsaid, ab_sub hab (fun x hx => (List.mem_filter.1 hx).1), hsv, hsl2, hS.sel (by repeat constructor)⟩ (by dsimp only; omega) (by repeat constructor)
            · (try simp only [cx, ne_eq] at h6)
              try (exfalso; (first | omega | exact h6 trivial | contradiction); done)
              all_goals
              refine SatC.region ?_
              refine SatL.pu (RunV.move rfl) rfl ?_
              refine SatL.pu (RunV.move rfl) rfl ?_
              first | refine SatL.pu (RunV.fieldAddrL rfl rfl rfl) rfl ?_ | refine SatL.pu (RunV.fieldAddr rfl rfl rfl) rfl ?_
              refine SatL.pu (RunV.load1 hS rfl rfl (by repeat constructor) rfl) rfl ?_
              refine SatL.op rfl (OpW.enter rfl rfl rfl (rfl) (lose_any y.n hm (by omega) hab hsl (hS.ownT (A := FO b fv 256 given B D) (by repeat constructor))) ?_)
              rintro r5 w5 ⟨rfl, v2, B2, hsl2, h⟩
              replace hS := hS.callT (A := FO b fv 256 given B D) (by repeat constructor) h
              simp only [List.append_assoc, List.cons_append, List.nil_append, List.append_nil] at hS
              have hkl := keep_len y.n l
              refine SatL.pu (RunV.add rfl rfl (by first | exact wrapI64 (by omega) | rfl)) rfl ?_
              refine SatL.pu (RunV.assign rfl) rfl ?_
              refine SatL.nil (SatE.blk_normal (SatE.blk_normal (SatE.thenC ?_)))
              refine SatC.weak (e' := [(0, _), (2, _), (3, _), (4, _), (5, _), (6, _)]) (by repeat constructor) ?_
              refine SatC.region ?_
              refine SatL.pu (RunV.move rfl) rfl ?_
              refine SatL.pu (RunV.add rfl rfl (by first | exact wrapI64 (by omega) | rfl)) rfl ?_
              refine SatL.pu (RunV.assign rfl) rfl ?_
              refine SatL.nil ?_
              first
              | (exfalso; exact Bool.noConfusion ((by assumption : (outX l y.n).isSome = true).symm.trans (by assumption : (outX l y.n).isSome = false)))
              | exact SatE.again (i + 1, ss ++ [y], sendL 256 given l y.f y.t bv y.b, sendG 256 given l y.b, out, v53, B53, v2, B2, D2) ⟨by omega, by omega, by rw [List.length_append]; show ss.length + 1 ≤ i + 1; omega, by omega, by omega, by omega, ho0, by omega, (fun z hz => by rcases List.mem_append.1 hz with hz | hz; exact hst z hz; simp only [List.mem_singleton] at hz; subst hz; exact hyb), hsd, hab2, by rw [List.map_append]; exact hsl53, hsl2, hS.sel (by repeat constructor)⟩ (by dsimp only; omega) (by repeat constructor)
              | exact SatE.again (i + 1, ss, sendL 256 given l y.f y.t bv y.b, sendG 256 given l y.b, out, sv, SB, v2, B2, D2) ⟨by omega, by omega, by omega, by omega, by omega, by omega, ho0, by omega, hst, by (have e : sendL 256 given l y.f y.t bv y.b = l := if_pos (by assumption)); rw [e]; exact hsaid, hab2, hsv, hsl2, hS.sel (by repeat constructor)⟩ (by dsimp only; omega) (by repeat constructor)
              | (rw [if_pos (by assumption)] at hol; exact SatE.again (i + 1, ss, outL l y.n, given, out + 1, sv, SB, v2, B2, D) ⟨by omega, by omega, by omega, by omega, by omega, by omega, by omega, by omega, hst, said_out y.n hsaid, ab_sub hab (fun x hx => (List.eraseIdx_sublist ..).subset hx), hsv, hsl2, hS.sel (by repeat constructor)⟩ (by dsimp only; omega) (by repeat constructor))
              | (rw [if_neg (by simp_all)] at hol; exact SatE.again (i + 1, ss, outL l y.n, given, out, sv, SB, v2, B2, D) ⟨by omega, by omega, by omega, by omega, by omega, by omega, by omega, by omega, hst, said_out y.n hsaid, ab_sub hab (fun x hx => (List.eraseIdx_sublist ..).subset hx), hsv, hsl2, hS.sel (by repeat constructor)⟩ (by dsimp only; omega) (by repeat constructor))
              | exact SatE.again (i + 1, ss, cpL 256 given l y.n bv, cpG 256 given l y.n, out, sv, SB, v2, B2, D2) ⟨by omega, by omega, by omega, by omega, by omega, by omega, ho0, by omega, hst, said_copy hsaid, hab2, hsv, hsl2, hS.sel (by repeat constructor)⟩ (by dsimp only; omega) (by repeat constructor)
              | exact SatE.again (i + 1, ss, keepL y.n l, given, out + ((l.length : Int) - (keepL y.n l).length), sv, SB, v2, B2, D) ⟨by omega, by omega, by omega, by omega, by omega, by omega, by omega, by omega, hst, said_keep y.n hsaid, ab_sub hab (fun x hx => (List.mem_filter.1 hx).1), hsv, hsl2, hS.sel (by repeat constructor)⟩ (by dsimp only; omega) (by repeat constructor)
    · (try simp only [cx, ne_eq] at h2)
      try (exfalso; (first | omega | exact h2 trivial | contradiction); done)
      all_goals
      refine SatC.exit (SatE.then_exit (SatE.then_exit (SatE.blk_exit (SatE.thenC ?_))))
      refine SatC.seq ?_
      refine SatC.region ?_
      refine SatL.pu (RunV.move rfl) rfl ?_
      refine SatL.op rfl (OpW.enter rfl rfl rfl (rfl) (sent_any (given := given) hm (hS.ownT (A := FO b fv 256 given B D) (by repeat constructor))) ?_)
      rintro r3 w3 ⟨rfl, h⟩
      replace hS := St.callN hS h
      refine SatL.pu (RunV.move rfl) rfl ?_
      refine SatL.pu (RunV.move rfl) rfl ?_
      refine SatL.op rfl (OpW.enter rfl rfl rfl (rfl) (cnt_any (given := given) hm hsl (hS.ownT (A := FO b fv 256 given B D) (by repeat constructor))) ?_)
      rintro r4 w4 ⟨rfl, h⟩
      replace hS := St.callN hS h
      refine SatL.pu (RunV.add rfl rfl (by first | exact wrapI64 (by omega) | rfl)) rfl ?_
      refine SatL.pu (RunV.eql rfl rfl) rfl ?_
      refine SatL.pu (RunV.move rfl) rfl ?_
      refine SatL.guard rfl rfl rfl (fun h3 => ?_) (fun h3 => ?_)
      · (try simp only [cx, ne_eq] at h3)
        try (exfalso; (first | omega | exact h3 trivial | contradiction); done)
        all_goals
        refine SatL.op rfl (OpW.enter rfl rfl rfl (rfl) (works_any _) ?_)
        rintro r5 w5 ⟨rfl, h⟩
        replace hS := St.callN hS h
        refine SatL.pu (RunV.pick_t rfl rfl) rfl ?_
        refine SatL.pu (RunV.assign rfl) rfl ?_
        refine SatL.nil (SatE.thenC ?_)
        refine SatC.ret ?_
        refine SatE.ret1 rfl rfl ?_
        first
        | exact ⟨rfl, hS.sel (by repeat constructor)⟩
        | (exfalso; have := send_ig (given := given) (by assumption : ¬ full 256 l y.b); omega)
        | (exfalso; obtain ⟨z, hz, hf⟩ := said_outP hsaid (by assumption : (outX l y.n).isSome = true); have := hq.2 ⟨z, by rw [List.take_of_length_le (by omega)]; exact hz, hf⟩; simp_all; done)
      · (try simp only [cx, ne_eq] at h3)
        try (exfalso; (first | omega | exact h3 trivial | contradiction); done)
        all_goals
        refine SatL.pu (RunV.pick_f rfl rfl) rfl ?_
        refine SatL.pu (RunV.assign rfl) rfl ?_
        refine SatL.nil (SatE.thenC ?_)
        refine SatC.ret ?_
        refine SatE.ret1 rfl rfl ?_
        first
        | exact ⟨rfl, hS.sel (by repeat constructor)⟩
        | (exfalso; have := send_ig (given := given) (by assumption : ¬ full 256 l y.b); omega)
        | (exfalso; obtain ⟨z, hz, hf⟩ := said_outP hsaid (by assumption : (outX l y.n).isSome = true); have := hq.2 ⟨z, by rw [List.take_of_length_le (by omega)]; exact hz, hf⟩; simp_all; done)
  · (try simp only [cx, ne_eq] at h1)
    try (exfalso; (first | omega | exact h1 trivial | contradiction); done)
    all_goals
    refine SatL.guard_n rfl rfl rfl rfl ?_
    refine SatL.pu (RunV.pick_f rfl rfl) rfl ?_
    refine SatL.nil (SatE.thenC ?_)
    refine SatC.cond_f rfl ?_
    refine SatC.exit (SatE.then_exit (SatE.then_exit (SatE.blk_exit (SatE.thenC ?_))))
    refine SatC.seq ?_
    refine SatC.region ?_
    refine SatL.pu (RunV.move rfl) rfl ?_
    refine SatL.op rfl (OpW.enter rfl rfl rfl (rfl) (sent_any (given := given) hm (hS.ownT (A := FO b fv 256 given B D) (by repeat constructor))) ?_)
    rintro r3 w3 ⟨rfl, h⟩
    replace hS := St.callN hS h
    refine SatL.pu (RunV.move rfl) rfl ?_
    refine SatL.pu (RunV.move rfl) rfl ?_
    refine SatL.op rfl (OpW.enter rfl rfl rfl (rfl) (cnt_any (given := given) hm hsl (hS.ownT (A := FO b fv 256 given B D) (by repeat constructor))) ?_)
    rintro r4 w4 ⟨rfl, h⟩
    replace hS := St.callN hS h
    refine SatL.pu (RunV.add rfl rfl (by first | exact wrapI64 (by omega) | rfl)) rfl ?_
    refine SatL.pu (RunV.eql rfl rfl) rfl ?_
    refine SatL.pu (RunV.move rfl) rfl ?_
    refine SatL.guard rfl rfl rfl (fun h2 => ?_) (fun h2 => ?_)
    · (try simp only [cx, ne_eq] at h2)
      try (exfalso; (first | omega | exact h2 trivial | contradiction); done)
      all_goals
      refine SatL.op rfl (OpW.enter rfl rfl rfl (rfl) (works_any _) ?_)
      rintro r5 w5 ⟨rfl, h⟩
      replace hS := St.callN hS h
      refine SatL.pu (RunV.pick_t rfl rfl) rfl ?_
      refine SatL.pu (RunV.assign rfl) rfl ?_
      refine SatL.nil (SatE.thenC ?_)
      refine SatC.ret ?_
      refine SatE.ret1 rfl rfl ?_
      first
      | exact ⟨rfl, hS.sel (by repeat constructor)⟩
      | (exfalso; have := send_ig (given := given) (by assumption : ¬ full 256 l y.b); omega)
      | (exfalso; obtain ⟨z, hz, hf⟩ := said_outP hsaid (by assumption : (outX l y.n).isSome = true); have := hq.2 ⟨z, by rw [List.take_of_length_le (by omega)]; exact hz, hf⟩; simp_all; done)
    · (try simp only [cx, ne_eq] at h2)
      try (exfalso; (first | omega | exact h2 trivial | contradiction); done)
      all_goals
      refine SatL.pu (RunV.pick_f rfl rfl) rfl ?_
      refine SatL.pu (RunV.assign rfl) rfl ?_
      refine SatL.nil (SatE.thenC ?_)
      refine SatC.ret ?_
      refine SatE.ret1 rfl rfl ?_
      first
      | exact ⟨rfl, hS.sel (by repeat constructor)⟩
      | (exfalso; have := send_ig (given := given) (by assumption : ¬ full 256 l y.b); omega)
      | (exfalso; obtain ⟨z, hz, hf⟩ := said_outP hsaid (by assumption : (outX l y.n).isSome = true); have := hq.2 ⟨z, by rw [List.take_of_length_le (by omega)]; exact hz, hf⟩; simp_all; done)
theorem flightOnce_lifted (os : Os) (started : os.Started) (H : Type) (enc : TypeId × Value → H) :
    ReturnsInHanded {} Try.checked os 4 .any (Rows.flightOnceSpec.pre6 enc Try.prog Try.f4 Rows.flightOnceRow.domain false) (Rows.flightOnceSpec.post enc Try.prog Try.f4 false true false false) := by
  refine law_returns (C := Try.checked) (b := 4) (by kernel_rfl) started (by kernel_rfl) Try.func4
    (ChangeSpec.witness6 (enc := enc) (C := Try.checked) false ⟨#[], #[.slice none 0 0], []⟩ 8 (by kernel_rfl) (by kernel_rfl) (by kernel_rfl) (by kernel_rfl))
    rfl rfl (by kernel_rfl) (by kernel_rfl) (by kernel_rfl) (fun ds h => ?_) ?_
  · rw [Try.params4] at h
    match ds, h with
    | [_], _ => rfl
  intro W base args ds ps hval hA hsz
  rw [Try.params4] at hA hval
  obtain ⟨v0, d0, hargs, rfl, h0⟩ := trodAll_one hA
  subst hargs
  obtain ⟨xs0, hr0, hx0⟩ := open_rows (l := [3, 3, 3, 3, 22]) 6 Try.underlying38 (by kernel_rfl) (by kernel_rfl) (by decide) (hval 0 38 v0 rfl rfl) h0
  obtain ⟨ys0, rfl, hy0⟩ := rows_map (enc' := sr) (q := StB W) (fun r hr => by
    obtain ⟨u0, u1, u2, u3, u4, rfl, l0, l1, l2, l3, l4⟩ := allLeaf_list5 hr
    obtain ⟨n0, rfl, e0⟩ := leaf_int Try.underlying3 l0
    obtain ⟨n1, rfl, e1⟩ := leaf_int Try.underlying3 l1
    obtain ⟨n2, rfl, e2⟩ := leaf_int Try.underlying3 l2
    obtain ⟨n3, rfl, e3⟩ := leaf_int Try.underlying3 l3
    obtain ⟨xb, hb, hxb⟩ := leaf_rows (l := [5]) 6 Try.underlying22 (by kernel_rfl) (by kernel_rfl) (by decide) l4
    obtain ⟨bs, rfl, _⟩ := rows_map (enc' := by1c) (q := fun _ => True) (fun r hr => by
      obtain ⟨u, rfl, lu⟩ := allLeaf_list1 hr
      obtain ⟨m, rfl, em⟩ := leaf_int Try.underlying5 lu
      obtain ⟨c, rfl⟩ : ∃ c : UInt8, m = (c.toNat : Int) := ⟨UInt8.ofNat m.toNat, by have := bnd_u8 em; simp; omega⟩
      exact ⟨c, rfl, trivial⟩) xb hxb
    exact ⟨⟨n0, n1, n2, n3, u4, bs⟩, rfl, hb⟩) xs0 hx0
  exact law_done (once_any _ ys0 W hr0 hy0)
theorem flightOnce_holds : Rows.FlightOnceSaid :=
  OpenClaim.holds_of_wide 4 Try.f4 rfl rfl rfl rfl rfl rfl rfl ⟨rfl, rfl, rfl, rfl, rfl⟩ rfl rfl rfl rfl rfl (by kernel_rfl) Try.func4 (by kernel_rfl)
    (of_decide_eq_true (by kernel_rfl)) (by unfold Func.isWrapper; first | (rw [if_pos (by decide +kernel)]; kernel_rfl) | (rw [if_neg (by decide +kernel)]; exact ⟨rfl, rfl⟩))
    (fun os started H enc _ => flightOnce_lifted os started H enc)
end Go.Proofs.Ytpnkcoahbadnjaa
