/- The number that is given; a packet is sent; one is taken out. -/
import Derived.Test.YtpnkcoahbadnjaaFa
import Derived.Test.YtpnkcoahbadnjaaChecked
set_option linter.unusedSimpArgs false
set_option linter.unusedVariables false
set_option maxRecDepth 100000
set_option maxHeartbeats 4000000
namespace Go.Proofs.Ytpnkcoahbadnjaa
open Go.RowKit
section
variable {b : Nat} {v : Value} {most given : Int} {B D : List (Nat × Obj)} {l : List Fl} {w : World}
theorem add_any (hg : 0 ≤ given ∧ given ≤ 1000000000) (hown : Own w [(b, C 59 [v, .int .i64 most, .int .i64 given])]) : Ret Try.prog 23 #[.pointer (some ⟨b, 2, none⟩), .int .i64 1] w fun u w' => u = .int .i64 (given + 1) ∧ St w [b] [(b, C 59 [v, .int .i64 most, .int .i64 (given + 1)])] w' := by
  have hS := St.init hown
  simp only [List.map_cons, List.map_nil] at hS
  refine Ret.enter Try.func23 Try.ntmps23 rfl rfl ?_
  simp only [argEnv, Nat.reduceAdd]
  refine SatC.seq ?_
  refine SatC.region ?_
  refine SatL.pu (RunV.assign rfl) rfl ?_
  refine SatL.nil (SatE.thenC ?_)
  refine SatC.seq ?_
  refine SatC.region ?_
  refine SatL.pu (RunV.move rfl) rfl ?_
  first | refine SatL.pu (RunV.nil_ptr rfl) rfl ?_ | refine SatL.pu (RunV.nil_func rfl) rfl ?_ | refine SatL.pu (RunV.nil_yield rfl) rfl ?_
  first | refine SatL.pu (RunV.fieldAddrL rfl rfl rfl) rfl ?_ | refine SatL.pu (RunV.fieldAddr rfl rfl rfl) rfl ?_
  refine SatL.pu (RunV.move rfl) rfl ?_
  refine SatL.op rfl (OpW.atomicAdd hS Try.func32 (by kernel_rfl) (by kernel_rfl) (by kernel_rfl) (by kernel_rfl) rfl rfl (by repeat constructor) rfl (wrapI64 (by omega)) (by repeat constructor) rfl ?_)
  clear hS
  intro w1 hS
  refine SatL.pu (RunV.assign rfl) rfl ?_
  refine SatL.nil (SatE.thenC ?_)
  refine SatC.ret ?_
  refine SatE.ret1 rfl rfl ?_
  exact ⟨rfl, hS⟩
theorem load_any (hown : Own w [(b, C 59 [v, .int .i64 most, .int .i64 given])]) : Ret Try.prog 27 #[.pointer (some ⟨b, 2, none⟩)] w fun u w' => u = .int .i64 given ∧ St w [] [] w' := by
  have hS := St.init hown
  simp only [List.map_cons, List.map_nil] at hS
  refine Ret.enter Try.func27 Try.ntmps27 rfl rfl ?_
  simp only [argEnv, Nat.reduceAdd]
  refine SatC.seq ?_
  refine SatC.region ?_
  refine SatL.pu (RunV.assign rfl) rfl ?_
  refine SatL.nil (SatE.thenC ?_)
  refine SatC.seq ?_
  refine SatC.region ?_
  refine SatL.pu (RunV.move rfl) rfl ?_
  first | refine SatL.pu (RunV.nil_ptr rfl) rfl ?_ | refine SatL.pu (RunV.nil_func rfl) rfl ?_ | refine SatL.pu (RunV.nil_yield rfl) rfl ?_
  first | refine SatL.pu (RunV.fieldAddrL rfl rfl rfl) rfl ?_ | refine SatL.pu (RunV.fieldAddr rfl rfl rfl) rfl ?_
  refine SatL.op rfl (OpW.atomicLoad hS Try.func33 (by kernel_rfl) (by kernel_rfl) (by kernel_rfl) (by kernel_rfl) rfl (by repeat constructor) rfl rfl ?_)
  refine SatL.pu (RunV.assign rfl) rfl ?_
  refine SatL.nil (SatE.thenC ?_)
  refine SatC.ret ?_
  refine SatE.ret1 rfl rfl ?_
  exact ⟨rfl, St.ro hown hS (by repeat constructor)⟩
def full (most : Int) (l : List Fl) (bs : List UInt8) : Prop := most ≤ (l.length : Int) ∨ 1400 < bs.length
open Classical in
noncomputable def sendL (most given : Int) (l : List Fl) (f t : Int) (bv : Value) (bs : List UInt8) : List Fl := if full most l bs then l else l ++ [⟨given + 1, f, t, bv, bs⟩]
open Classical in
noncomputable def sendG (most given : Int) (l : List Fl) (bs : List UInt8) : Int := if full most l bs then given else given + 1
open Classical in
noncomputable def sendI (most given : Int) (l : List Fl) (bs : List UInt8) : Int := if full most l bs then 0 else given + 1
open Classical in
theorem send_any (f t : Int) (pv : Value) (bs : List UInt8) (hr : ∀ W' g, St w ((FO b v most given B D).map Prod.fst) (FO b v most g B D) W' → RdRow W' pv 1 (bs.map by1c)) (hm : ¬ most = 0) (hg : 0 ≤ given ∧ given ≤ 1000000) (hl : l.length ≤ 100000) (hab : AllBd D l) (hsl : Sl 32 4 v (l.map fr) B) (hown : Own w (FO b v most given B D)) :
    Ret Try.prog 8 #[.pointer (some ⟨b, 0, none⟩), .agg #[.int .i64 f, .int .i64 t, pv]] w fun u w' => u = .tuple #[.int .i64 (sendI most given l bs), .bool (!decide (full most l bs))] ∧ ∃ bv v' B' D', Sl 32 4 v' ((sendL most given l f t bv bs).map fr) B' ∧ (∀ c ∈ D, c ∈ D') ∧ AllBd D' (sendL most given l f t bv bs) ∧ St w ((FO b v most given B D).map Prod.fst) (FO b v' most (sendG most given l bs) B' D') w' := by
  have hS := St.init hown
  have hr0 := hr w given hS
  obtain ⟨bl, ol, cl, hvl, hmaxl, hcl, hltl⟩ := hr0.open
  have h1p : pv.oneCell' = true := by obtain ⟨A, _, rfl, _⟩ := hr0; rfl
  simp only [List.length_map] at hvl hmaxl hltl
  generalize hX : (FO b v most given B D).map Prod.fst = X at hS hr ⊢
  refine Ret.enter Try.func8 Try.ntmps8 rfl rfl ?_
  simp only [argEnv, Nat.reduceAdd]
  refine SatC.seq ?_
  refine SatC.region ?_
  refine SatL.op rfl (OpW.box hS rfl rfl (by repeat constructor) ?_)
  clear hS
  intro b3 w1 _ hS
  refine SatL.pu (RunV.assign rfl) rfl ?_
  refine SatL.pu (RunV.assign rfl) rfl ?_
  refine SatL.nil (SatE.thenC ?_)
  refine SatC.seq ?_
  refine SatC.seq ?_
  refine SatC.drawnT 19 hS (hS.sel (R := [(b3, C 24 [.int .i64 f, .int .i64 t, pv]), (b, C 59 [v, .int .i64 most, .int .i64 given])]) (by repeat constructor)) (by kernel_rfl) ?_
  clear hS
  intro w2 hh hS hD
  refine SatD.tk 0 rfl hD (fun _ hw => RunV.move rfl) ?_
  refine SatD.ef 1 rfl (OpW.enter rfl rfl rfl (rfl) (fnone_any hm (hS.ownT (A := FO b v most given B D) (by repeat constructor))) ?_)
  rintro r3 w3 ⟨rfl, h⟩
  replace hS := St.callN hS h
  refine keepS (hS.sel (by repeat constructor)) (fun hD => ?_)
  refine SatD.tk 2 rfl hD (fun _ hw => RunV.move rfl) ?_
  refine SatD.ways 9 rfl (fun h1 => ?_) (fun h1 => ?_)
  · (try simp only [cx, ne_eq] at h1)
    try (exfalso; (first | omega | exact h1 trivial | contradiction); done)
    all_goals
    refine SatD.sk 3 rfl [] hD ?_
    refine SatD.sk 4 rfl [] hD ?_
    refine SatD.sk 5 rfl [] hD ?_
    refine SatD.sk 6 rfl [] hD ?_
    refine SatD.sk 7 rfl [] hD ?_
    refine SatD.sk 8 rfl [] hD ?_
    refine SatD.sk 9 rfl [] hD ?_
    refine SatD.sk 10 rfl [] hD ?_
    refine SatD.sk 11 rfl [] hD ?_
    refine SatD.tk 12 rfl hD (fun _ hw => RunV.pick_t rfl rfl) ?_
    refine SatD.tk 13 rfl hD (fun _ hw => RunV.move rfl) ?_
    refine SatD.sk 14 rfl [] hD ?_
    refine SatD.sk 15 rfl [] hD ?_
    refine SatD.sk 16 rfl [] hD ?_
    refine SatD.sk 17 rfl [] hD ?_
    refine SatD.tk 18 rfl hD (fun _ hw => RunV.pick_t rfl rfl) ?_
    refine SatD.done 0 (by kernel_rfl) (SatE.thenC ?_)
    clear hD
    refine SatC.weak (e' := [(0, _), (3, _), (4, _), (5, _), (25, _)]) (by repeat constructor) ?_
    refine SatC.cond_t rfl ?_
    refine SatC.seq ?_
    refine SatC.region ?_
    refine SatL.pu (RunV.assign rfl) rfl ?_
    refine SatL.pu (RunV.assign rfl) rfl ?_
    refine SatL.nil (SatE.thenC ?_)
    refine SatC.ret (SatE.then_ret ?_)
    refine SatE.ret2 rfl rfl rfl ?_
    first
    | (have hf : full most l bs := by unfold full; omega
       rw [show sendI most given l bs = 0 from if_pos hf, show sendG most given l bs = given from if_pos hf, decide_eq_true hf]
       have eL : ∀ bv, sendL most given l f t bv bs = l := fun bv => if_pos hf
       simp only [eL]
       exact ⟨rfl, .slice none 0 0, v, B, D, hsl, fun c hc => hc, hab, hS.sel (by repeat constructor)⟩)
    | (have hf : ¬ full most l bs := by unfold full; omega
       rw [show sendI most given l bs = given + 1 from if_neg hf, show sendG most given l bs = given + 1 from if_neg hf, decide_eq_false hf]
       have eL : ∀ bv, sendL most given l f t bv bs = l ++ [⟨given + 1, f, t, bv, bs⟩] := fun bv => if_neg hf
       simp only [eL]
       refine ⟨rfl, bv, v41, B41, BB ++ D, by rw [List.map_append]; exact hsl41, fun c hc => List.mem_append_right _ hc, ?_, hS.sel (by repeat constructor)⟩
       intro x hx
       rcases List.mem_append.1 hx with hx | hx
       · exact ⟨(hab x hx).1.mono (fun c hc => List.mem_append_right _ hc), (hab x hx).2⟩
       · simp only [List.mem_singleton] at hx
         subst hx
         exact ⟨⟨BB, hbb, fun c hc => List.mem_append_left _ hc⟩, by show bs.length ≤ 1400; omega⟩)
  · (try simp only [cx, ne_eq] at h1)
    try (exfalso; (first | omega | exact h1 trivial | contradiction); done)
    all_goals
    refine SatD.tk 3 rfl hD (fun _ hw => RunV.move rfl) ?_
    first | refine SatD.tk 4 rfl hD (fun _ hw => RunV.nil_ptr rfl) ?_ | refine SatD.tk 4 rfl hD (fun _ hw => RunV.nil_func rfl) ?_ | refine SatD.tk 4 rfl hD (fun _ hw => RunV.nil_yield rfl) ?_
    first | refine SatD.tk 5 rfl hD (fun _ hw => RunV.fieldAddrL rfl rfl rfl) ?_ | refine SatD.tk 5 rfl hD (fun _ hw => RunV.fieldAddr rfl rfl rfl) ?_
    refine SatD.tk 7 rfl hD (fun _ hw => RunV.move rfl) ?_
    first | refine SatD.tk 8 rfl hD (fun _ hw => RunV.nil_ptr rfl) ?_ | refine SatD.tk 8 rfl hD (fun _ hw => RunV.nil_func rfl) ?_ | refine SatD.tk 8 rfl hD (fun _ hw => RunV.nil_yield rfl) ?_
    first | refine SatD.tk 9 rfl hD (fun _ hw => RunV.fieldAddrL rfl rfl rfl) ?_ | refine SatD.tk 9 rfl hD (fun _ hw => RunV.fieldAddr rfl rfl rfl) ?_
    refine SatD.tk 10 rfl hD (fun _ hw => RunV.load1 hw rfl rfl (by repeat constructor) rfl) ?_
    refine SatD.ef 6 rfl (OpW.enter rfl rfl rfl (rfl) (count_any hsl (hS.ownT (A := FO b v most given B D) (by repeat constructor))) ?_)
    rintro r4 w4 ⟨rfl, h⟩
    replace hS := St.callN hS h
    refine keepS (hS.sel (by repeat constructor)) (fun hD => ?_)
    refine SatD.tk 11 rfl hD (fun _ hw => RunV.geq rfl rfl) ?_
    refine SatD.tk 12 rfl hD (fun _ hw => RunV.pick_f rfl rfl) ?_
    refine SatD.tk 13 rfl hD (fun _ hw => RunV.move rfl) ?_
    refine SatD.ways 20 rfl (fun h2 => ?_) (fun h2 => ?_)
    · (try simp only [cx, ne_eq] at h2)
      try (exfalso; (first | omega | exact h2 trivial | contradiction); done)
      all_goals
      refine SatD.sk 14 rfl [] hD ?_
      refine SatD.sk 15 rfl [] hD ?_
      refine SatD.sk 16 rfl [] hD ?_
      refine SatD.sk 17 rfl [] hD ?_
      refine SatD.tk 18 rfl hD (fun _ hw => RunV.pick_t rfl rfl) ?_
      refine SatD.done 0 (by kernel_rfl) (SatE.thenC ?_)
      clear hD
      refine SatC.weak (e' := [(0, _), (3, _), (4, _), (5, _), (25, _)]) (by repeat constructor) ?_
      refine SatC.cond_t rfl ?_
      refine SatC.seq ?_
      refine SatC.region ?_
      refine SatL.pu (RunV.assign rfl) rfl ?_
      refine SatL.pu (RunV.assign rfl) rfl ?_
      refine SatL.nil (SatE.thenC ?_)
      refine SatC.ret (SatE.then_ret ?_)
      refine SatE.ret2 rfl rfl rfl ?_
      first
      | (have hf : full most l bs := by unfold full; omega
         rw [show sendI most given l bs = 0 from if_pos hf, show sendG most given l bs = given from if_pos hf, decide_eq_true hf]
         have eL : ∀ bv, sendL most given l f t bv bs = l := fun bv => if_pos hf
         simp only [eL]
         exact ⟨rfl, .slice none 0 0, v, B, D, hsl, fun c hc => hc, hab, hS.sel (by repeat constructor)⟩)
      | (have hf : ¬ full most l bs := by unfold full; omega
         rw [show sendI most given l bs = given + 1 from if_neg hf, show sendG most given l bs = given + 1 from if_neg hf, decide_eq_false hf]
         have eL : ∀ bv, sendL most given l f t bv bs = l ++ [⟨given + 1, f, t, bv, bs⟩] := fun bv => if_neg hf
         simp only [eL]
         refine ⟨rfl, bv, v41, B41, BB ++ D, by rw [List.map_append]; exact hsl41, fun c hc => List.mem_append_right _ hc, ?_, hS.sel (by repeat constructor)⟩
         intro x hx
         rcases List.mem_append.1 hx with hx | hx
         · exact ⟨(hab x hx).1.mono (fun c hc => List.mem_append_right _ hc), (hab x hx).2⟩
         · simp only [List.mem_singleton] at hx
           subst hx
           exact ⟨⟨BB, hbb, fun c hc => List.mem_append_left _ hc⟩, by show bs.length ≤ 1400; omega⟩)
    · (try simp only [cx, ne_eq] at h2)
      try (exfalso; (first | omega | exact h2 trivial | contradiction); done)
      all_goals
      first | refine SatD.tk 14 rfl hD (fun _ hw => RunV.fieldAddrL rfl rfl rfl) ?_ | refine SatD.tk 14 rfl hD (fun _ hw => RunV.fieldAddr rfl rfl rfl) ?_
      refine SatD.tk 15 rfl hD (fun _ hw => RunV.load1 hw rfl rfl (by repeat constructor) rfl) ?_
      first | refine SatD.tk 16 rfl hD (fun _ hw => RunV.lenR (by assumption) rfl rfl) ?_ | refine SatD.tk 16 rfl hD (fun _ hw => RunV.lenS rfl rfl) ?_
      refine SatD.tk 17 rfl hD (fun _ hw => RunV.gtr rfl rfl) ?_
      refine SatD.tk 18 rfl hD (fun _ hw => RunV.pick_f rfl rfl) ?_
      refine SatD.done 0 (by kernel_rfl) (SatE.thenC ?_)
      clear hD
      refine SatC.weak (e' := [(0, _), (3, _), (4, _), (5, _), (25, _)]) (by repeat constructor) ?_
      refine SatC.cond rfl (fun h3 => ?_) (fun h3 => ?_)
      · (try simp only [cx, ne_eq] at h3)
        try (exfalso; (first | omega | exact h3 trivial | contradiction); done)
        all_goals
        refine SatC.seq ?_
        refine SatC.region ?_
        refine SatL.pu (RunV.assign rfl) rfl ?_
        refine SatL.pu (RunV.assign rfl) rfl ?_
        refine SatL.nil (SatE.thenC ?_)
        refine SatC.ret (SatE.then_ret ?_)
        refine SatE.ret2 rfl rfl rfl ?_
        first
        | (have hf : full most l bs := by unfold full; omega
           rw [show sendI most given l bs = 0 from if_pos hf, show sendG most given l bs = given from if_pos hf, decide_eq_true hf]
           have eL : ∀ bv, sendL most given l f t bv bs = l := fun bv => if_pos hf
           simp only [eL]
           exact ⟨rfl, .slice none 0 0, v, B, D, hsl, fun c hc => hc, hab, hS.sel (by repeat constructor)⟩)
        | (have hf : ¬ full most l bs := by unfold full; omega
           rw [show sendI most given l bs = given + 1 from if_neg hf, show sendG most given l bs = given + 1 from if_neg hf, decide_eq_false hf]
           have eL : ∀ bv, sendL most given l f t bv bs = l ++ [⟨given + 1, f, t, bv, bs⟩] := fun bv => if_neg hf
           simp only [eL]
           refine ⟨rfl, bv, v41, B41, BB ++ D, by rw [List.map_append]; exact hsl41, fun c hc => List.mem_append_right _ hc, ?_, hS.sel (by repeat constructor)⟩
           intro x hx
           rcases List.mem_append.1 hx with hx | hx
           · exact ⟨(hab x hx).1.mono (fun c hc => List.mem_append_right _ hc), (hab x hx).2⟩
           · simp only [List.mem_singleton] at hx
             subst hx
             exact ⟨⟨BB, hbb, fun c hc => List.mem_append_left _ hc⟩, by show bs.length ≤ 1400; omega⟩)
      · (try simp only [cx, ne_eq] at h3)
        try (exfalso; (first | omega | exact h3 trivial | contradiction); done)
        all_goals
        refine SatC.skip (SatE.thenC ?_)
        refine SatC.seq ?_
        refine SatC.region ?_
        refine SatL.pu (RunV.move rfl) rfl ?_
        first | refine SatL.pu (RunV.nil_ptr rfl) rfl ?_ | refine SatL.pu (RunV.nil_func rfl) rfl ?_ | refine SatL.pu (RunV.nil_yield rfl) rfl ?_
        first | refine SatL.pu (RunV.fieldAddrL rfl rfl rfl) rfl ?_ | refine SatL.pu (RunV.fieldAddr rfl rfl rfl) rfl ?_
        refine SatL.op rfl (OpW.enter rfl rfl rfl (rfl) (add_any (v := v) (most := most) ⟨hg.1, by omega⟩ (hS.ownT (A := [(b, C 59 [v, .int .i64 most, .int .i64 given])]) (by repeat constructor))) ?_)
        rintro r5 w5 ⟨rfl, h⟩
        replace hS := hS.callT (A := [(b, C 59 [v, .int .i64 most, .int .i64 given])]) (by repeat constructor) h
        refine SatL.pu (RunV.assign rfl) rfl ?_
        refine SatL.nil (SatE.thenC ?_)
        refine SatC.seq ?_
        refine SatC.drawnT 15 hS (hS.sel (R := [(b3, C 24 [.int .i64 f, .int .i64 t, pv]), (b, C 59 [v, .int .i64 most, .int .i64 (given + 1)])]) (by repeat constructor)) (by kernel_rfl) ?_
        clear hS
        intro w6 hh hS hD
        refine SatD.tk 0 rfl hD (fun _ hw => RunV.move rfl) ?_
        refine SatD.tk 1 rfl hD (fun _ hw => RunV.move rfl) ?_
        first | refine SatD.tk 2 rfl hD (fun _ hw => RunV.nil_ptr rfl) ?_ | refine SatD.tk 2 rfl hD (fun _ hw => RunV.nil_func rfl) ?_ | refine SatD.tk 2 rfl hD (fun _ hw => RunV.nil_yield rfl) ?_
        first | refine SatD.tk 3 rfl hD (fun _ hw => RunV.fieldAddrL rfl rfl rfl) ?_ | refine SatD.tk 3 rfl hD (fun _ hw => RunV.fieldAddr rfl rfl rfl) ?_
        first | refine SatD.tk 4 rfl hD (fun _ hw => RunV.fieldAddrL rfl rfl rfl) ?_ | refine SatD.tk 4 rfl hD (fun _ hw => RunV.fieldAddr rfl rfl rfl) ?_
        refine SatD.tk 5 rfl hD (fun _ hw => RunV.load1 hw rfl rfl (by repeat constructor) rfl) ?_
        refine SatD.tk 6 rfl hD (fun _ hw => RunV.move rfl) ?_
        refine SatD.tk 7 rfl hD (fun _ hw => RunV.loadN hw rfl rfl (by repeat constructor) (by repeat constructor)) ?_
        refine SatD.ef 8 rfl (OpW.enter rfl rfl rfl (rfl) (clone_any f t pv bs (hr _ (given + 1) (hS.sel (by repeat constructor))) (by omega)) ?_)
        rintro r7 w7 ⟨bv, BB, rfl, hbb, h⟩
        replace hS := hS.call0 h
        refine keepS (hS.sel (by repeat constructor)) (fun hD => ?_)
        refine SatD.tk 9 rfl hD (fun _ hw => RunV.build rfl (by simp [go_sem]; try rfl)) ?_
        refine SatD.ef 10 rfl (OpW.buildSlice1 hS rfl rfl rfl rfl rfl (by repeat constructor) rfl rfl rfl ?_)
        clear hS
        intro b40 w8 _ hS
        refine keepS (hS.sel (by repeat constructor)) (fun hD => ?_)
        refine SatD.ef 11 rfl (OpW.append1 hsl hS (by repeat constructor) rfl rfl (by repeat constructor) rfl rfl rfl rfl rfl rfl rfl (by simp only [List.all_cons, List.all_nil, hbb.one, Bool.and_true]; rfl) (by rw [List.length_map]; omega) rfl ?_)
        clear hS
        intro v41 B41 w9 hsl41 hS
        refine keepS (hS.sel (by repeat constructor)) (fun hD => ?_)
        first | refine SatD.tkp 12 rfl [14, 13] hD (fun _ hw => RunV.nil_ptr rfl) ?_ | refine SatD.tkp 12 rfl [14, 13] hD (fun _ hw => RunV.nil_func rfl) ?_ | refine SatD.tkp 12 rfl [14, 13] hD (fun _ hw => RunV.nil_yield rfl) ?_
        first | refine SatD.tkp 13 rfl [14] hD (fun _ hw => RunV.fieldAddrL rfl rfl rfl) ?_ | refine SatD.tkp 13 rfl [14] hD (fun _ hw => RunV.fieldAddr rfl rfl rfl) ?_
        first | refine SatD.tk 14 rfl hD (fun _ hw => RunV.fieldAddrL rfl rfl rfl) ?_ | refine SatD.tk 14 rfl hD (fun _ hw => RunV.fieldAddr rfl rfl rfl) ?_
        refine SatD.effF (by kernel_rfl) rfl rfl (OpW.storeSv hS rfl rfl (by assumption) (by repeat constructor) (by repeat constructor) rfl ?_)
        clear hS
        intro w10 hS
        refine SatD.done 0 (by kernel_rfl) (SatE.thenC ?_)
        clear hD
        refine SatC.seq ?_
        refine SatC.weak (e' := [(4, _), (5, _), (6, _)]) (by repeat constructor) ?_
        refine SatC.region ?_
        refine SatL.pu (RunV.move rfl) rfl ?_
        refine SatL.pu (RunV.assign rfl) rfl ?_
        refine SatL.pu (RunV.assign rfl) rfl ?_
        refine SatL.nil (SatE.thenC ?_)
        refine SatC.ret ?_
        refine SatE.ret2 rfl rfl rfl ?_
        first
        | (have hf : full most l bs := by unfold full; omega
           rw [show sendI most given l bs = 0 from if_pos hf, show sendG most given l bs = given from if_pos hf, decide_eq_true hf]
           have eL : ∀ bv, sendL most given l f t bv bs = l := fun bv => if_pos hf
           simp only [eL]
           exact ⟨rfl, .slice none 0 0, v, B, D, hsl, fun c hc => hc, hab, hS.sel (by repeat constructor)⟩)
        | (have hf : ¬ full most l bs := by unfold full; omega
           rw [show sendI most given l bs = given + 1 from if_neg hf, show sendG most given l bs = given + 1 from if_neg hf, decide_eq_false hf]
           have eL : ∀ bv, sendL most given l f t bv bs = l ++ [⟨given + 1, f, t, bv, bs⟩] := fun bv => if_neg hf
           simp only [eL]
           refine ⟨rfl, bv, v41, B41, BB ++ D, by rw [List.map_append]; exact hsl41, fun c hc => List.mem_append_right _ hc, ?_, hS.sel (by repeat constructor)⟩
           intro x hx
           rcases List.mem_append.1 hx with hx | hx
           · exact ⟨(hab x hx).1.mono (fun c hc => List.mem_append_right _ hc), (hab x hx).2⟩
           · simp only [List.mem_singleton] at hx
             subst hx
             exact ⟨⟨BB, hbb, fun c hc => List.mem_append_left _ hc⟩, by show bs.length ≤ 1400; omega⟩)
end
end Go.Proofs.Ytpnkcoahbadnjaa
