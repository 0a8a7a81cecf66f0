/- A step of the flight's, and the document's: each call answers the same. -/
import Derived.Test.YtpnkcoahbadnjaaPt
set_option linter.unusedSimpArgs false
set_option linter.unusedVariables false
set_option maxRecDepth 100000
set_option maxHeartbeats 16000000
namespace Go.Proofs.Ytpnkcoahbadnjaa
open Go.RowKit
section
variable {b rb : Nat} {fv rv : Value} {most given : Int} {B D RB : List (Nat × Obj)} {l rl : List Fl} {w : World}
open Classical in
theorem step_any (y : Stp) (hm : ¬ most = 0) (hg : 0 ≤ given ∧ given ≤ 1000000) (hl : l.length ≤ 10000) (hkey : l.map key = rl.map key) (hab : AllBd D l)
    (hyr : ∀ W', St w ((FO b fv most given B D ++ RO rb rv most given RB).map Prod.fst) [] W' → RdRow W' y.v 1 (y.b.map by1c))
    (hrl : ∀ W', St w ((FO b fv most given B D ++ RO rb rv most given RB).map Prod.fst) [] W' → ∀ x ∈ rl, RdRow W' x.v 1 (x.b.map by1c))
    (hsl : Sl 32 4 fv (l.map fr) B) (hrsl : Sl 32 4 rv (rl.map fr) RB) (hown : Own w (FO b fv most given B D ++ RO rb rv most given RB)) :
    Ret Try.prog 19 #[.pointer (some ⟨b, 0, none⟩), .pointer (some ⟨rb, 0, none⟩), .agg (sr y).toArray] w fun u w' => u = .bool true ∧ ∃ l' rl' fv' rv' given' B' D' RB', l'.map key = rl'.map key ∧ l'.length ≤ l.length + 1 ∧ (given ≤ given' ∧ given' ≤ given + 1) ∧ AllBd D' l' ∧ From y rl rl' ∧
      Sl 32 4 fv' (l'.map fr) B' ∧ Sl 32 4 rv' (rl'.map fr) RB' ∧ St w ((FO b fv most given B D ++ RO rb rv most given RB).map Prod.fst) (FO b fv' most given' B' D' ++ RO rb rv' most given' RB') w' := by
  have hS := St.init hown
  have hlen := rel_len hkey
  have hshort := rel_short hkey hab
  generalize hX : (FO b fv most given B D ++ RO rb rv most given RB).map Prod.fst = X at hS hyr hrl ⊢
  obtain ⟨yb, yo, yc, hyv, hymax, _, _⟩ := (hyr w (hS.sel .nil)).open
  simp only [List.length_map] at hyv hymax
  have hy1 := slv_one hyv
  have hvb : VB rl := fun x hx => by
    obtain ⟨b1, o1, c1, h1, _⟩ := (hrl w (hS.sel .nil) x hx).open
    simp only [List.length_map] at h1
    exact ⟨b1, o1, c1, h1⟩
  simp only [List.append_assoc, List.cons_append, List.nil_append, List.append_nil] at hS
  refine Ret.enter Try.func19 Try.ntmps19 rfl rfl ?_
  simp only [argEnv, Nat.reduceAdd]
  refine SatC.seq ?_
  refine SatC.region ?_
  refine SatL.op rfl (OpW.box hS rfl rfl (by repeat constructor) ?_)
  clear hS
  intro b5 w1 _ hS
  refine SatL.pu (RunV.assign rfl) rfl ?_
  refine SatL.nil (SatE.thenC ?_)
  refine SatC.seq ?_
  refine SatC.seq ?_
  refine SatC.region ?_
  first | refine SatL.pu (RunV.fieldAddrL rfl rfl rfl) rfl ?_ | refine SatL.pu (RunV.fieldAddr rfl rfl rfl) rfl ?_
  refine SatL.pu (RunV.load1 hS rfl rfl (by repeat constructor) rfl) rfl ?_
  refine SatL.nil (SatE.thenC ?_)
  refine SatC.block ?_
  refine SatC.seq ?_
  refine SatC.region ?_
  refine SatL.pu (RunV.eql rfl rfl) rfl ?_
  refine SatL.pu (RunV.assign rfl) rfl ?_
  refine SatL.nil (SatE.thenC ?_)
  refine SatC.cond rfl (fun h1 => ?_) (fun h1 => ?_)
  · (try simp only [cx, ne_eq] at h1)
    try (exfalso; (first | omega | exact h1 trivial | contradiction | (simp at h1; done)); done)
    all_goals
    refine SatC.seq ?_
    refine SatC.region ?_
    refine SatL.pu (RunV.move rfl) rfl ?_
    first | refine SatL.pu (RunV.fieldAddrL rfl rfl rfl) rfl ?_ | refine SatL.pu (RunV.fieldAddr rfl rfl rfl) rfl ?_
    refine SatL.pu (RunV.loadN hS rfl rfl (by repeat constructor) (by repeat constructor)) rfl ?_
    refine SatL.op rfl (OpW.enter rfl rfl rfl (rfl) (send_any y.f y.t y.v y.b (fun W' g h => hyr _ ((hS.callT (A := FO b fv most given B D) (by repeat constructor) h).sel .nil)) hm hg (by omega) hab hsl (hS.ownT (A := FO b fv most given B D) (by repeat constructor))) ?_)
    rintro r2 w2 ⟨rfl, bv, v1, B1, D1, hsl1, hD1, hab1, h⟩
    replace hS := hS.callT (A := FO b fv most given B D) (by repeat constructor) h
    simp only [List.append_assoc, List.cons_append, List.nil_append, List.append_nil] at hS
    refine SatL.pu (RunV.move rfl) rfl ?_
    refine SatL.pu (RunV.extract rfl rfl) rfl ?_
    refine SatL.pu (RunV.extract rfl rfl) rfl ?_
    refine SatL.pu (RunV.assign rfl) rfl ?_
    refine SatL.pu (RunV.assign rfl) rfl ?_
    refine SatL.nil (SatE.thenC ?_)
    refine SatC.seq ?_
    refine SatC.weak (e' := [(1, _), (5, _), (6, _), (7, _), (8, _)]) (by repeat constructor) ?_
    refine SatC.region ?_
    refine SatL.pu (RunV.move rfl) rfl ?_
    first | refine SatL.pu (RunV.fieldAddrL rfl rfl rfl) rfl ?_ | refine SatL.pu (RunV.fieldAddr rfl rfl rfl) rfl ?_
    refine SatL.pu (RunV.loadN hS rfl rfl (by repeat constructor) (by repeat constructor)) rfl ?_
    refine SatL.op rfl (OpW.enter rfl rfl rfl (rfl) (rsend_any y.f y.t y.v y.b hyv hymax hg (by omega) hrsl (hS.ownT (A := RO rb rv most given RB) (by repeat constructor))) ?_)
    rintro r3 w3 ⟨rfl, v2, RB2, hsl2, h⟩
    replace hS := hS.callT (A := RO rb rv most given RB) (by repeat constructor) h
    simp only [List.append_assoc, List.cons_append, List.nil_append, List.append_nil] at hS
    rw [← rel_sendG hkey] at hS
    rw [← rel_sendI hkey]
    simp only [← rel_full hkey]
    refine SatL.pu (RunV.move rfl) rfl ?_
    refine SatL.pu (RunV.extract rfl rfl) rfl ?_
    refine SatL.pu (RunV.extract rfl rfl) rfl ?_
    refine SatL.pu (RunV.assign rfl) rfl ?_
    refine SatL.pu (RunV.assign rfl) rfl ?_
    refine SatL.nil (SatE.thenC ?_)
    refine SatC.seq ?_
    refine SatC.region ?_
    refine SatL.pu (RunV.move rfl) rfl ?_
    refine SatL.pu (RunV.move rfl) rfl ?_
    refine SatL.pu (RunV.eql rfl rfl) rfl ?_
    refine SatL.pu (RunV.move rfl) rfl ?_
    refine SatL.guard rfl rfl rfl (fun h2 => ?_) (fun h2 => ?_)
    · (try simp only [cx, ne_eq] at h2)
      try (exfalso; (first | omega | exact h2 trivial | contradiction | (simp at h2; done)); done)
      all_goals
      refine SatL.pu (RunV.move rfl) rfl ?_
      refine SatL.guard_y rfl rfl ?_
      refine SatL.pu (RunV.move rfl) rfl ?_
      refine SatL.guard_y rfl rfl ?_
      refine SatL.pu (RunV.beql rfl rfl rfl) rfl ?_
      refine SatL.pu (RunV.pick_t rfl rfl) rfl ?_
      refine SatL.pu (RunV.assign rfl) rfl ?_
      refine SatL.nil (SatE.thenC ?_)
      refine SatC.ret (SatE.blk_ret (SatE.then_ret ?_))
      refine SatE.ret1 rfl rfl ?_
      first
      | exact ⟨by first | rfl | simp, _, _, v1, v2, _, B1, D1, RB2, rel_sendL hkey, sendL_le, send_g', hab1, from_send, hsl1, hsl2, by simp only [List.append_assoc, List.cons_append, List.nil_append, List.append_nil]; exact hS.sel (by repeat constructor)⟩
      | exact ⟨by first | rfl | simp, _, _, v1, v2, _, B1, D1, RB2, rel_cpL hkey, cpL_le, copy_g', hab1, from_copy, hsl1, hsl2, by simp only [List.append_assoc, List.cons_append, List.nil_append, List.append_nil]; exact hS.sel (by repeat constructor)⟩
      | exact ⟨by first | rfl | simp | (rw [k1]; simp), outL l y.n, outL rl y.n, v1, v2, given, B1, D, RB2, rel_out hkey y.n, Nat.le_trans (List.eraseIdx_sublist ..).length_le (by omega), ⟨by omega, by omega⟩, fun x hx => hab x ((List.eraseIdx_sublist ..).subset hx), from_sub fun x hx => (List.eraseIdx_sublist ..).subset hx, hsl1, hsl2, by simp only [List.append_assoc, List.cons_append, List.nil_append, List.append_nil]; exact hS.sel (by repeat constructor)⟩
      | exact ⟨by first | rfl | simp, keepL y.n l, keepL y.n rl, v1, v2, given, B1, D, RB2, rel_keep hkey y.n, Nat.le_trans (List.length_filter_le ..) (by omega), ⟨by omega, by omega⟩, fun x hx => hab x (List.mem_filter.1 hx).1, from_sub fun x hx => (List.mem_filter.1 hx).1, hsl1, hsl2, by simp only [List.append_assoc, List.cons_append, List.nil_append, List.append_nil]; exact hS.sel (by repeat constructor)⟩
      | exact ⟨rfl, l, rl, fv, rv, given, B, D, RB, hkey, by omega, ⟨by omega, by omega⟩, hab, from_sub fun x hx => hx, hsl, hrsl, by simp only [List.append_assoc, List.cons_append, List.nil_append, List.append_nil]; exact hS.sel (by repeat constructor)⟩
    · (try simp only [cx, ne_eq] at h2)
      try (exfalso; (first | omega | exact h2 trivial | contradiction | (simp at h2; done)); done)
      all_goals
      refine SatL.guard_n rfl rfl rfl rfl ?_
      refine SatL.guard_n rfl rfl rfl rfl ?_
      refine SatL.pu (RunV.pick_f rfl rfl) rfl ?_
      refine SatL.pu (RunV.assign rfl) rfl ?_
      refine SatL.nil (SatE.thenC ?_)
      refine SatC.ret (SatE.blk_ret (SatE.then_ret ?_))
      refine SatE.ret1 rfl rfl ?_
      first
      | exact ⟨by first | rfl | simp, _, _, v1, v2, _, B1, D1, RB2, rel_sendL hkey, sendL_le, send_g', hab1, from_send, hsl1, hsl2, by simp only [List.append_assoc, List.cons_append, List.nil_append, List.append_nil]; exact hS.sel (by repeat constructor)⟩
      | exact ⟨by first | rfl | simp, _, _, v1, v2, _, B1, D1, RB2, rel_cpL hkey, cpL_le, copy_g', hab1, from_copy, hsl1, hsl2, by simp only [List.append_assoc, List.cons_append, List.nil_append, List.append_nil]; exact hS.sel (by repeat constructor)⟩
      | exact ⟨by first | rfl | simp | (rw [k1]; simp), outL l y.n, outL rl y.n, v1, v2, given, B1, D, RB2, rel_out hkey y.n, Nat.le_trans (List.eraseIdx_sublist ..).length_le (by omega), ⟨by omega, by omega⟩, fun x hx => hab x ((List.eraseIdx_sublist ..).subset hx), from_sub fun x hx => (List.eraseIdx_sublist ..).subset hx, hsl1, hsl2, by simp only [List.append_assoc, List.cons_append, List.nil_append, List.append_nil]; exact hS.sel (by repeat constructor)⟩
      | exact ⟨by first | rfl | simp, keepL y.n l, keepL y.n rl, v1, v2, given, B1, D, RB2, rel_keep hkey y.n, Nat.le_trans (List.length_filter_le ..) (by omega), ⟨by omega, by omega⟩, fun x hx => hab x (List.mem_filter.1 hx).1, from_sub fun x hx => (List.mem_filter.1 hx).1, hsl1, hsl2, by simp only [List.append_assoc, List.cons_append, List.nil_append, List.append_nil]; exact hS.sel (by repeat constructor)⟩
      | exact ⟨rfl, l, rl, fv, rv, given, B, D, RB, hkey, by omega, ⟨by omega, by omega⟩, hab, from_sub fun x hx => hx, hsl, hrsl, by simp only [List.append_assoc, List.cons_append, List.nil_append, List.append_nil]; exact hS.sel (by repeat constructor)⟩
  · (try simp only [cx, ne_eq] at h1)
    try (exfalso; (first | omega | exact h1 trivial | contradiction | (simp at h1; done)); done)
    all_goals
    refine SatC.seq ?_
    refine SatC.region ?_
    refine SatL.pu (RunV.eql rfl rfl) rfl ?_
    refine SatL.pu (RunV.assign rfl) rfl ?_
    refine SatL.nil (SatE.thenC ?_)
    refine SatC.cond rfl (fun h2 => ?_) (fun h2 => ?_)
    · (try simp only [cx, ne_eq] at h2)
      try (exfalso; (first | omega | exact h2 trivial | contradiction | (simp at h2; done)); done)
      all_goals
      refine SatC.seq ?_
      refine SatC.region ?_
      refine SatL.pu (RunV.move rfl) rfl ?_
      first | refine SatL.pu (RunV.fieldAddrL rfl rfl rfl) rfl ?_ | refine SatL.pu (RunV.fieldAddr rfl rfl rfl) rfl ?_
      refine SatL.pu (RunV.load1 hS rfl rfl (by repeat constructor) rfl) rfl ?_
      refine SatL.op rfl (OpW.enter rfl rfl rfl (rfl) (deliver_any y.n hm (by omega) hab hsl (hS.ownT (A := FO b fv most given B D) (by repeat constructor))) ?_)
      rintro r2 w2 ⟨rfl, v1, B1, hsl1, h⟩
      replace hS := hS.callT (A := FO b fv most given B D) (by repeat constructor) h
      simp only [List.append_assoc, List.cons_append, List.nil_append, List.append_nil] at hS
      obtain ⟨k1, k2, k3, k4⟩ := key_parts (rel_outP hkey y.n)
      refine SatL.pu (RunV.move rfl) rfl ?_
      refine SatL.pu (RunV.extract rfl rfl) rfl ?_
      refine SatL.pu (RunV.extract rfl rfl) rfl ?_
      refine SatL.op rfl (OpW.alloc hS rfl rfl (by repeat constructor) ?_)
      clear hS
      intro b11 w3 _ hS
      refine SatL.op rfl (OpW.store hS rfl rfl (by repeat constructor) (by repeat constructor) (by repeat constructor) rfl (by simp only [List.all_cons, List.all_nil, outP_one' hab y.n, Bool.and_true]; rfl) ?_)
      clear hS
      intro w4 hS
      refine SatL.pu (RunV.assign rfl) rfl ?_
      refine SatL.nil (SatE.thenC ?_)
      refine SatC.seq ?_
      refine SatC.weak (e' := [(1, _), (5, _), (6, _), (11, _), (12, _)]) (by repeat constructor) ?_
      refine SatC.region ?_
      refine SatL.pu (RunV.move rfl) rfl ?_
      first | refine SatL.pu (RunV.fieldAddrL rfl rfl rfl) rfl ?_ | refine SatL.pu (RunV.fieldAddr rfl rfl rfl) rfl ?_
      refine SatL.pu (RunV.load1 hS rfl rfl (by repeat constructor) rfl) rfl ?_
      refine SatL.op rfl (OpW.enter rfl rfl rfl (rfl) (rout_any y.n (by omega) hvb hrsl (hS.ownT (A := RO rb rv most given RB) (by repeat constructor))) ?_)
      rintro r5 w5 ⟨rfl, v2, RB2, hsl2, h⟩
      replace hS := hS.callT (A := RO rb rv most given RB) (by repeat constructor) h
      simp only [List.append_assoc, List.cons_append, List.nil_append, List.append_nil] at hS
      rw [← rel_is hkey]
      refine SatL.pu (RunV.move rfl) rfl ?_
      refine SatL.pu (RunV.extract rfl rfl) rfl ?_
      refine SatL.pu (RunV.extract rfl rfl) rfl ?_
      refine SatL.op rfl (OpW.alloc hS rfl rfl (by repeat constructor) ?_)
      clear hS
      intro b13 w6 _ hS
      refine SatL.op rfl (OpW.store hS rfl rfl (by repeat constructor) (by repeat constructor) (by repeat constructor) rfl (by simp only [List.all_cons, List.all_nil, outP_vb hvb y.n, Bool.and_true]; rfl) ?_)
      clear hS
      intro w7 hS
      refine SatL.pu (RunV.assign rfl) rfl ?_
      refine SatL.nil (SatE.thenC ?_)
      refine SatC.seq ?_
      refine SatC.region ?_
      refine SatL.pu (RunV.loadN hS rfl rfl (by repeat constructor) (by repeat constructor)) rfl ?_
      first | refine SatL.pu (RunV.fieldAddrL rfl rfl rfl) rfl ?_ | refine SatL.pu (RunV.fieldAddr rfl rfl rfl) rfl ?_
      refine SatL.pu (RunV.loadN hS rfl rfl (by repeat constructor) (by repeat constructor)) rfl ?_
      refine SatL.op rfl (OpW.enter rfl rfl rfl (rfl) (same_any (outP l y.n).f (outP l y.n).t (outP rl y.n).f (outP rl y.n).t (outP l y.n).v (outP rl y.n).v (outP l y.n).b (outP rl y.n).b _ (outP_row' hab (fun c hc => hS.own c (by simp [hc])) y.n) (outP_rr (hrl _ (hS.sel .nil)) y.n)) ?_)
      rintro r8 w8 ⟨rfl, h⟩
      replace hS := St.callN hS h
      rw [show decide ((outP l y.n).f = (outP rl y.n).f ∧ (outP l y.n).t = (outP rl y.n).t ∧ (outP l y.n).b = (outP rl y.n).b) = true from decide_eq_true ⟨k2, k3, k4⟩]
      refine SatL.pu (RunV.move rfl) rfl ?_
      refine SatL.guard rfl rfl rfl (fun h3 => ?_) (fun h3 => ?_)
      · (try simp only [cx, ne_eq] at h3)
        try (exfalso; (first | omega | exact h3 trivial | contradiction | (simp at h3; done)); done)
        all_goals
        refine SatL.pu (RunV.move rfl) rfl ?_
        refine SatL.guard_y rfl rfl ?_
        refine SatL.pu (RunV.move rfl) rfl ?_
        refine SatL.guard_y rfl rfl ?_
        refine SatL.pu (RunV.beql rfl rfl rfl) rfl ?_
        refine SatL.pu (RunV.pick_t rfl rfl) rfl ?_
        refine SatL.pu (RunV.assign rfl) rfl ?_
        refine SatL.nil (SatE.thenC ?_)
        refine SatC.ret (SatE.blk_ret (SatE.then_ret ?_))
        refine SatE.ret1 rfl rfl ?_
        first
        | exact ⟨by first | rfl | simp, _, _, v1, v2, _, B1, D1, RB2, rel_sendL hkey, sendL_le, send_g', hab1, from_send, hsl1, hsl2, by simp only [List.append_assoc, List.cons_append, List.nil_append, List.append_nil]; exact hS.sel (by repeat constructor)⟩
        | exact ⟨by first | rfl | simp, _, _, v1, v2, _, B1, D1, RB2, rel_cpL hkey, cpL_le, copy_g', hab1, from_copy, hsl1, hsl2, by simp only [List.append_assoc, List.cons_append, List.nil_append, List.append_nil]; exact hS.sel (by repeat constructor)⟩
        | exact ⟨by first | rfl | simp | (rw [k1]; simp), outL l y.n, outL rl y.n, v1, v2, given, B1, D, RB2, rel_out hkey y.n, Nat.le_trans (List.eraseIdx_sublist ..).length_le (by omega), ⟨by omega, by omega⟩, fun x hx => hab x ((List.eraseIdx_sublist ..).subset hx), from_sub fun x hx => (List.eraseIdx_sublist ..).subset hx, hsl1, hsl2, by simp only [List.append_assoc, List.cons_append, List.nil_append, List.append_nil]; exact hS.sel (by repeat constructor)⟩
        | exact ⟨by first | rfl | simp, keepL y.n l, keepL y.n rl, v1, v2, given, B1, D, RB2, rel_keep hkey y.n, Nat.le_trans (List.length_filter_le ..) (by omega), ⟨by omega, by omega⟩, fun x hx => hab x (List.mem_filter.1 hx).1, from_sub fun x hx => (List.mem_filter.1 hx).1, hsl1, hsl2, by simp only [List.append_assoc, List.cons_append, List.nil_append, List.append_nil]; exact hS.sel (by repeat constructor)⟩
        | exact ⟨rfl, l, rl, fv, rv, given, B, D, RB, hkey, by omega, ⟨by omega, by omega⟩, hab, from_sub fun x hx => hx, hsl, hrsl, by simp only [List.append_assoc, List.cons_append, List.nil_append, List.append_nil]; exact hS.sel (by repeat constructor)⟩
      · (try simp only [cx, ne_eq] at h3)
        try (exfalso; (first | omega | exact h3 trivial | contradiction | (simp at h3; done)); done)
        all_goals
        refine SatL.guard_n rfl rfl rfl rfl ?_
        refine SatL.guard_n rfl rfl rfl rfl ?_
        refine SatL.pu (RunV.pick_f rfl rfl) rfl ?_
        refine SatL.pu (RunV.assign rfl) rfl ?_
        refine SatL.nil (SatE.thenC ?_)
        refine SatC.ret (SatE.blk_ret (SatE.then_ret ?_))
        refine SatE.ret1 rfl rfl ?_
        first
        | exact ⟨by first | rfl | simp, _, _, v1, v2, _, B1, D1, RB2, rel_sendL hkey, sendL_le, send_g', hab1, from_send, hsl1, hsl2, by simp only [List.append_assoc, List.cons_append, List.nil_append, List.append_nil]; exact hS.sel (by repeat constructor)⟩
        | exact ⟨by first | rfl | simp, _, _, v1, v2, _, B1, D1, RB2, rel_cpL hkey, cpL_le, copy_g', hab1, from_copy, hsl1, hsl2, by simp only [List.append_assoc, List.cons_append, List.nil_append, List.append_nil]; exact hS.sel (by repeat constructor)⟩
        | exact ⟨by first | rfl | simp | (rw [k1]; simp), outL l y.n, outL rl y.n, v1, v2, given, B1, D, RB2, rel_out hkey y.n, Nat.le_trans (List.eraseIdx_sublist ..).length_le (by omega), ⟨by omega, by omega⟩, fun x hx => hab x ((List.eraseIdx_sublist ..).subset hx), from_sub fun x hx => (List.eraseIdx_sublist ..).subset hx, hsl1, hsl2, by simp only [List.append_assoc, List.cons_append, List.nil_append, List.append_nil]; exact hS.sel (by repeat constructor)⟩
        | exact ⟨by first | rfl | simp, keepL y.n l, keepL y.n rl, v1, v2, given, B1, D, RB2, rel_keep hkey y.n, Nat.le_trans (List.length_filter_le ..) (by omega), ⟨by omega, by omega⟩, fun x hx => hab x (List.mem_filter.1 hx).1, from_sub fun x hx => (List.mem_filter.1 hx).1, hsl1, hsl2, by simp only [List.append_assoc, List.cons_append, List.nil_append, List.append_nil]; exact hS.sel (by repeat constructor)⟩
        | exact ⟨rfl, l, rl, fv, rv, given, B, D, RB, hkey, by omega, ⟨by omega, by omega⟩, hab, from_sub fun x hx => hx, hsl, hrsl, by simp only [List.append_assoc, List.cons_append, List.nil_append, List.append_nil]; exact hS.sel (by repeat constructor)⟩
    · (try simp only [cx, ne_eq] at h2)
      try (exfalso; (first | omega | exact h2 trivial | contradiction | (simp at h2; done)); done)
      all_goals
      refine SatC.seq ?_
      refine SatC.region ?_
      refine SatL.pu (RunV.eql rfl rfl) rfl ?_
      refine SatL.pu (RunV.assign rfl) rfl ?_
      refine SatL.nil (SatE.thenC ?_)
      refine SatC.cond rfl (fun h3 => ?_) (fun h3 => ?_)
      · (try simp only [cx, ne_eq] at h3)
        try (exfalso; (first | omega | exact h3 trivial | contradiction | (simp at h3; done)); done)
        all_goals
        refine SatC.seq ?_
        refine SatC.region ?_
        refine SatL.pu (RunV.move rfl) rfl ?_
        first | refine SatL.pu (RunV.fieldAddrL rfl rfl rfl) rfl ?_ | refine SatL.pu (RunV.fieldAddr rfl rfl rfl) rfl ?_
        refine SatL.pu (RunV.load1 hS rfl rfl (by repeat constructor) rfl) rfl ?_
        refine SatL.op rfl (OpW.enter rfl rfl rfl (rfl) (drop_any y.n hm (by omega) hab hsl (hS.ownT (A := FO b fv most given B D) (by repeat constructor))) ?_)
        rintro r2 w2 ⟨rfl, v1, B1, hsl1, h⟩
        replace hS := hS.callT (A := FO b fv most given B D) (by repeat constructor) h
        simp only [List.append_assoc, List.cons_append, List.nil_append, List.append_nil] at hS
        obtain ⟨k1, k2, k3, k4⟩ := key_parts (rel_outP hkey y.n)
        refine SatL.pu (RunV.move rfl) rfl ?_
        refine SatL.pu (RunV.extract rfl rfl) rfl ?_
        refine SatL.pu (RunV.extract rfl rfl) rfl ?_
        refine SatL.pu (RunV.assign rfl) rfl ?_
        refine SatL.pu (RunV.assign rfl) rfl ?_
        refine SatL.nil (SatE.thenC ?_)
        refine SatC.seq ?_
        refine SatC.weak (e' := [(1, _), (5, _), (6, _), (15, _), (16, _)]) (by repeat constructor) ?_
        refine SatC.region ?_
        refine SatL.pu (RunV.move rfl) rfl ?_
        first | refine SatL.pu (RunV.fieldAddrL rfl rfl rfl) rfl ?_ | refine SatL.pu (RunV.fieldAddr rfl rfl rfl) rfl ?_
        refine SatL.pu (RunV.load1 hS rfl rfl (by repeat constructor) rfl) rfl ?_
        refine SatL.op rfl (OpW.enter rfl rfl rfl (rfl) (rout_any y.n (by omega) hvb hrsl (hS.ownT (A := RO rb rv most given RB) (by repeat constructor))) ?_)
        rintro r3 w3 ⟨rfl, v2, RB2, hsl2, h⟩
        replace hS := hS.callT (A := RO rb rv most given RB) (by repeat constructor) h
        simp only [List.append_assoc, List.cons_append, List.nil_append, List.append_nil] at hS
        rw [← rel_is hkey]
        refine SatL.pu (RunV.move rfl) rfl ?_
        refine SatL.pu (RunV.extract rfl rfl) rfl ?_
        refine SatL.pu (RunV.extract rfl rfl) rfl ?_
        refine SatL.op rfl (OpW.alloc hS rfl rfl (by repeat constructor) ?_)
        clear hS
        intro b17 w4 _ hS
        refine SatL.op rfl (OpW.store hS rfl rfl (by repeat constructor) (by repeat constructor) (by repeat constructor) rfl (by simp only [List.all_cons, List.all_nil, outP_vb hvb y.n, Bool.and_true]; rfl) ?_)
        clear hS
        intro w5 hS
        refine SatL.pu (RunV.assign rfl) rfl ?_
        refine SatL.nil (SatE.thenC ?_)
        refine SatC.seq ?_
        refine SatC.region ?_
        refine SatL.pu (RunV.move rfl) rfl ?_
        first | refine SatL.pu (RunV.fieldAddrL rfl rfl rfl) rfl ?_ | refine SatL.pu (RunV.fieldAddr rfl rfl rfl) rfl ?_
        refine SatL.pu (RunV.load1 hS rfl rfl (by repeat constructor) rfl) rfl ?_
        refine SatL.pu (RunV.eql rfl rfl) rfl ?_
        refine SatL.pu (RunV.move rfl) rfl ?_
        refine SatL.guard rfl rfl rfl (fun h4 => ?_) (fun h4 => ?_)
        · (try simp only [cx, ne_eq] at h4)
          try (exfalso; (first | omega | exact h4 trivial | contradiction | (simp at h4; done)); done)
          all_goals
          refine SatL.pu (RunV.move rfl) rfl ?_
          refine SatL.guard_y rfl rfl ?_
          refine SatL.pu (RunV.move rfl) rfl ?_
          refine SatL.guard_y rfl rfl ?_
          refine SatL.pu (RunV.beql rfl rfl rfl) rfl ?_
          refine SatL.pu (RunV.pick_t rfl rfl) rfl ?_
          refine SatL.pu (RunV.assign rfl) rfl ?_
          refine SatL.nil (SatE.thenC ?_)
          refine SatC.ret (SatE.blk_ret (SatE.then_ret ?_))
          refine SatE.ret1 rfl rfl ?_
          first
          | exact ⟨by first | rfl | simp, _, _, v1, v2, _, B1, D1, RB2, rel_sendL hkey, sendL_le, send_g', hab1, from_send, hsl1, hsl2, by simp only [List.append_assoc, List.cons_append, List.nil_append, List.append_nil]; exact hS.sel (by repeat constructor)⟩
          | exact ⟨by first | rfl | simp, _, _, v1, v2, _, B1, D1, RB2, rel_cpL hkey, cpL_le, copy_g', hab1, from_copy, hsl1, hsl2, by simp only [List.append_assoc, List.cons_append, List.nil_append, List.append_nil]; exact hS.sel (by repeat constructor)⟩
          | exact ⟨by first | rfl | simp | (rw [k1]; simp), outL l y.n, outL rl y.n, v1, v2, given, B1, D, RB2, rel_out hkey y.n, Nat.le_trans (List.eraseIdx_sublist ..).length_le (by omega), ⟨by omega, by omega⟩, fun x hx => hab x ((List.eraseIdx_sublist ..).subset hx), from_sub fun x hx => (List.eraseIdx_sublist ..).subset hx, hsl1, hsl2, by simp only [List.append_assoc, List.cons_append, List.nil_append, List.append_nil]; exact hS.sel (by repeat constructor)⟩
          | exact ⟨by first | rfl | simp, keepL y.n l, keepL y.n rl, v1, v2, given, B1, D, RB2, rel_keep hkey y.n, Nat.le_trans (List.length_filter_le ..) (by omega), ⟨by omega, by omega⟩, fun x hx => hab x (List.mem_filter.1 hx).1, from_sub fun x hx => (List.mem_filter.1 hx).1, hsl1, hsl2, by simp only [List.append_assoc, List.cons_append, List.nil_append, List.append_nil]; exact hS.sel (by repeat constructor)⟩
          | exact ⟨rfl, l, rl, fv, rv, given, B, D, RB, hkey, by omega, ⟨by omega, by omega⟩, hab, from_sub fun x hx => hx, hsl, hrsl, by simp only [List.append_assoc, List.cons_append, List.nil_append, List.append_nil]; exact hS.sel (by repeat constructor)⟩
        · (try simp only [cx, ne_eq] at h4)
          try (exfalso; (first | omega | exact h4 trivial | contradiction | (simp at h4; done)); done)
          all_goals
          refine SatL.guard_n rfl rfl rfl rfl ?_
          refine SatL.guard_n rfl rfl rfl rfl ?_
          refine SatL.pu (RunV.pick_f rfl rfl) rfl ?_
          refine SatL.pu (RunV.assign rfl) rfl ?_
          refine SatL.nil (SatE.thenC ?_)
          refine SatC.ret (SatE.blk_ret (SatE.then_ret ?_))
          refine SatE.ret1 rfl rfl ?_
          first
          | exact ⟨by first | rfl | simp, _, _, v1, v2, _, B1, D1, RB2, rel_sendL hkey, sendL_le, send_g', hab1, from_send, hsl1, hsl2, by simp only [List.append_assoc, List.cons_append, List.nil_append, List.append_nil]; exact hS.sel (by repeat constructor)⟩
          | exact ⟨by first | rfl | simp, _, _, v1, v2, _, B1, D1, RB2, rel_cpL hkey, cpL_le, copy_g', hab1, from_copy, hsl1, hsl2, by simp only [List.append_assoc, List.cons_append, List.nil_append, List.append_nil]; exact hS.sel (by repeat constructor)⟩
          | exact ⟨by first | rfl | simp | (rw [k1]; simp), outL l y.n, outL rl y.n, v1, v2, given, B1, D, RB2, rel_out hkey y.n, Nat.le_trans (List.eraseIdx_sublist ..).length_le (by omega), ⟨by omega, by omega⟩, fun x hx => hab x ((List.eraseIdx_sublist ..).subset hx), from_sub fun x hx => (List.eraseIdx_sublist ..).subset hx, hsl1, hsl2, by simp only [List.append_assoc, List.cons_append, List.nil_append, List.append_nil]; exact hS.sel (by repeat constructor)⟩
          | exact ⟨by first | rfl | simp, keepL y.n l, keepL y.n rl, v1, v2, given, B1, D, RB2, rel_keep hkey y.n, Nat.le_trans (List.length_filter_le ..) (by omega), ⟨by omega, by omega⟩, fun x hx => hab x (List.mem_filter.1 hx).1, from_sub fun x hx => (List.mem_filter.1 hx).1, hsl1, hsl2, by simp only [List.append_assoc, List.cons_append, List.nil_append, List.append_nil]; exact hS.sel (by repeat constructor)⟩
          | exact ⟨rfl, l, rl, fv, rv, given, B, D, RB, hkey, by omega, ⟨by omega, by omega⟩, hab, from_sub fun x hx => hx, hsl, hrsl, by simp only [List.append_assoc, List.cons_append, List.nil_append, List.append_nil]; exact hS.sel (by repeat constructor)⟩
      · (try simp only [cx, ne_eq] at h3)
        try (exfalso; (first | omega | exact h3 trivial | contradiction | (simp at h3; done)); done)
        all_goals
        refine SatC.seq ?_
        refine SatC.region ?_
        refine SatL.pu (RunV.eql rfl rfl) rfl ?_
        refine SatL.pu (RunV.assign rfl) rfl ?_
        refine SatL.nil (SatE.thenC ?_)
        refine SatC.cond rfl (fun h4 => ?_) (fun h4 => ?_)
        · (try simp only [cx, ne_eq] at h4)
          try (exfalso; (first | omega | exact h4 trivial | contradiction | (simp at h4; done)); done)
          all_goals
          refine SatC.seq ?_
          refine SatC.region ?_
          refine SatL.pu (RunV.move rfl) rfl ?_
          first | refine SatL.pu (RunV.fieldAddrL rfl rfl rfl) rfl ?_ | refine SatL.pu (RunV.fieldAddr rfl rfl rfl) rfl ?_
          refine SatL.pu (RunV.load1 hS rfl rfl (by repeat constructor) rfl) rfl ?_
          refine SatL.op rfl (OpW.enter rfl rfl rfl (rfl) (copy_any (given := given) y.n hm hg (by omega) hab hsl (hS.ownT (A := FO b fv most given B D) (by repeat constructor))) ?_)
          rintro r2 w2 ⟨rfl, bv, v1, B1, D1, hsl1, hD1, hab1, h⟩
          replace hS := hS.callT (A := FO b fv most given B D) (by repeat constructor) h
          simp only [List.append_assoc, List.cons_append, List.nil_append, List.append_nil] at hS
          refine SatL.pu (RunV.move rfl) rfl ?_
          refine SatL.pu (RunV.extract rfl rfl) rfl ?_
          refine SatL.pu (RunV.extract rfl rfl) rfl ?_
          refine SatL.pu (RunV.assign rfl) rfl ?_
          refine SatL.pu (RunV.assign rfl) rfl ?_
          refine SatL.nil (SatE.thenC ?_)
          refine SatC.seq ?_
          refine SatC.weak (e' := [(1, _), (5, _), (6, _), (19, _), (20, _)]) (by repeat constructor) ?_
          refine SatC.region ?_
          refine SatL.pu (RunV.move rfl) rfl ?_
          first | refine SatL.pu (RunV.fieldAddrL rfl rfl rfl) rfl ?_ | refine SatL.pu (RunV.fieldAddr rfl rfl rfl) rfl ?_
          refine SatL.pu (RunV.load1 hS rfl rfl (by repeat constructor) rfl) rfl ?_
          refine SatL.op rfl (OpW.enter rfl rfl rfl (rfl) (rcopy_any (given := given) (most := most) y.n hg (by omega) hvb hshort hrsl (hS.ownT (A := RO rb rv most given RB) (by repeat constructor))) ?_)
          rintro r3 w3 ⟨rfl, v2, RB2, hsl2, h⟩
          replace hS := hS.callT (A := RO rb rv most given RB) (by repeat constructor) h
          simp only [List.append_assoc, List.cons_append, List.nil_append, List.append_nil] at hS
          rw [← rel_cpG hkey] at hS
          rw [← rel_cpI hkey, ← rel_cpB hkey]
          refine SatL.pu (RunV.move rfl) rfl ?_
          refine SatL.pu (RunV.extract rfl rfl) rfl ?_
          refine SatL.pu (RunV.extract rfl rfl) rfl ?_
          refine SatL.pu (RunV.assign rfl) rfl ?_
          refine SatL.pu (RunV.assign rfl) rfl ?_
          refine SatL.nil (SatE.thenC ?_)
          refine SatC.seq ?_
          refine SatC.region ?_
          refine SatL.pu (RunV.move rfl) rfl ?_
          refine SatL.pu (RunV.move rfl) rfl ?_
          refine SatL.pu (RunV.eql rfl rfl) rfl ?_
          refine SatL.pu (RunV.move rfl) rfl ?_
          refine SatL.guard rfl rfl rfl (fun h5 => ?_) (fun h5 => ?_)
          · (try simp only [cx, ne_eq] at h5)
            try (exfalso; (first | omega | exact h5 trivial | contradiction | (simp at h5; done)); done)
            all_goals
            refine SatL.pu (RunV.move rfl) rfl ?_
            refine SatL.guard_y rfl rfl ?_
            refine SatL.pu (RunV.move rfl) rfl ?_
            refine SatL.guard_y rfl rfl ?_
            refine SatL.pu (RunV.beql rfl rfl rfl) rfl ?_
            refine SatL.pu (RunV.pick_t rfl rfl) rfl ?_
            refine SatL.pu (RunV.assign rfl) rfl ?_
            refine SatL.nil (SatE.thenC ?_)
            refine SatC.ret (SatE.blk_ret (SatE.then_ret ?_))
            refine SatE.ret1 rfl rfl ?_
            first
            | exact ⟨by first | rfl | simp, _, _, v1, v2, _, B1, D1, RB2, rel_sendL hkey, sendL_le, send_g', hab1, from_send, hsl1, hsl2, by simp only [List.append_assoc, List.cons_append, List.nil_append, List.append_nil]; exact hS.sel (by repeat constructor)⟩
            | exact ⟨by first | rfl | simp, _, _, v1, v2, _, B1, D1, RB2, rel_cpL hkey, cpL_le, copy_g', hab1, from_copy, hsl1, hsl2, by simp only [List.append_assoc, List.cons_append, List.nil_append, List.append_nil]; exact hS.sel (by repeat constructor)⟩
            | exact ⟨by first | rfl | simp | (rw [k1]; simp), outL l y.n, outL rl y.n, v1, v2, given, B1, D, RB2, rel_out hkey y.n, Nat.le_trans (List.eraseIdx_sublist ..).length_le (by omega), ⟨by omega, by omega⟩, fun x hx => hab x ((List.eraseIdx_sublist ..).subset hx), from_sub fun x hx => (List.eraseIdx_sublist ..).subset hx, hsl1, hsl2, by simp only [List.append_assoc, List.cons_append, List.nil_append, List.append_nil]; exact hS.sel (by repeat constructor)⟩
            | exact ⟨by first | rfl | simp, keepL y.n l, keepL y.n rl, v1, v2, given, B1, D, RB2, rel_keep hkey y.n, Nat.le_trans (List.length_filter_le ..) (by omega), ⟨by omega, by omega⟩, fun x hx => hab x (List.mem_filter.1 hx).1, from_sub fun x hx => (List.mem_filter.1 hx).1, hsl1, hsl2, by simp only [List.append_assoc, List.cons_append, List.nil_append, List.append_nil]; exact hS.sel (by repeat constructor)⟩
            | exact ⟨rfl, l, rl, fv, rv, given, B, D, RB, hkey, by omega, ⟨by omega, by omega⟩, hab, from_sub fun x hx => hx, hsl, hrsl, by simp only [List.append_assoc, List.cons_append, List.nil_append, List.append_nil]; exact hS.sel (by repeat constructor)⟩
          · (try simp only [cx, ne_eq] at h5)
            try (exfalso; (first | omega | exact h5 trivial | contradiction | (simp at h5; done)); done)
            all_goals
            refine SatL.guard_n rfl rfl rfl rfl ?_
            refine SatL.guard_n rfl rfl rfl rfl ?_
            refine SatL.pu (RunV.pick_f rfl rfl) rfl ?_
            refine SatL.pu (RunV.assign rfl) rfl ?_
            refine SatL.nil (SatE.thenC ?_)
            refine SatC.ret (SatE.blk_ret (SatE.then_ret ?_))
            refine SatE.ret1 rfl rfl ?_
            first
            | exact ⟨by first | rfl | simp, _, _, v1, v2, _, B1, D1, RB2, rel_sendL hkey, sendL_le, send_g', hab1, from_send, hsl1, hsl2, by simp only [List.append_assoc, List.cons_append, List.nil_append, List.append_nil]; exact hS.sel (by repeat constructor)⟩
            | exact ⟨by first | rfl | simp, _, _, v1, v2, _, B1, D1, RB2, rel_cpL hkey, cpL_le, copy_g', hab1, from_copy, hsl1, hsl2, by simp only [List.append_assoc, List.cons_append, List.nil_append, List.append_nil]; exact hS.sel (by repeat constructor)⟩
            | exact ⟨by first | rfl | simp | (rw [k1]; simp), outL l y.n, outL rl y.n, v1, v2, given, B1, D, RB2, rel_out hkey y.n, Nat.le_trans (List.eraseIdx_sublist ..).length_le (by omega), ⟨by omega, by omega⟩, fun x hx => hab x ((List.eraseIdx_sublist ..).subset hx), from_sub fun x hx => (List.eraseIdx_sublist ..).subset hx, hsl1, hsl2, by simp only [List.append_assoc, List.cons_append, List.nil_append, List.append_nil]; exact hS.sel (by repeat constructor)⟩
            | exact ⟨by first | rfl | simp, keepL y.n l, keepL y.n rl, v1, v2, given, B1, D, RB2, rel_keep hkey y.n, Nat.le_trans (List.length_filter_le ..) (by omega), ⟨by omega, by omega⟩, fun x hx => hab x (List.mem_filter.1 hx).1, from_sub fun x hx => (List.mem_filter.1 hx).1, hsl1, hsl2, by simp only [List.append_assoc, List.cons_append, List.nil_append, List.append_nil]; exact hS.sel (by repeat constructor)⟩
            | exact ⟨rfl, l, rl, fv, rv, given, B, D, RB, hkey, by omega, ⟨by omega, by omega⟩, hab, from_sub fun x hx => hx, hsl, hrsl, by simp only [List.append_assoc, List.cons_append, List.nil_append, List.append_nil]; exact hS.sel (by repeat constructor)⟩
        · (try simp only [cx, ne_eq] at h4)
          try (exfalso; (first | omega | exact h4 trivial | contradiction | (simp at h4; done)); done)
          all_goals
          refine SatC.seq ?_
          refine SatC.region ?_
          refine SatL.pu (RunV.eql rfl rfl) rfl ?_
          refine SatL.pu (RunV.assign rfl) rfl ?_
          refine SatL.nil (SatE.thenC ?_)
          refine SatC.weak (e' := [(0, _), (1, _), (5, _), (6, _), (123, _)]) (by repeat constructor) ?_
          refine SatC.cond rfl (fun h5 => ?_) (fun h5 => ?_)
          · (try simp only [cx, ne_eq] at h5)
            try (exfalso; (first | omega | exact h5 trivial | contradiction | (simp at h5; done)); done)
            all_goals
            refine SatC.seq ?_
            refine SatC.drawnT 10 hS (hS.sel (R := [(b5, C 41 (sr y))]) (by repeat constructor)) (by kernel_rfl) ?_
            clear hS
            intro w2 hh hS hD
            refine SatD.tk 0 rfl hD (fun _ hw => RunV.move rfl) ?_
            first | refine SatD.tk 1 rfl hD (fun _ hw => RunV.fieldAddrL rfl rfl rfl) ?_ | refine SatD.tk 1 rfl hD (fun _ hw => RunV.fieldAddr rfl rfl rfl) ?_
            refine SatD.tk 2 rfl hD (fun _ hw => RunV.load1 hw rfl rfl (by repeat constructor) rfl) ?_
            refine SatD.tk 4 rfl hD (fun _ hw => RunV.move rfl) ?_
            first | refine SatD.tk 5 rfl hD (fun _ hw => RunV.fieldAddrL rfl rfl rfl) ?_ | refine SatD.tk 5 rfl hD (fun _ hw => RunV.fieldAddr rfl rfl rfl) ?_
            refine SatD.tk 6 rfl hD (fun _ hw => RunV.load1 hw rfl rfl (by repeat constructor) rfl) ?_
            refine SatD.ef 3 rfl (OpW.enter rfl rfl rfl (rfl) (lose_any y.n hm (by omega) hab hsl (hS.ownT (A := FO b fv most given B D) (by repeat constructor))) ?_)
            rintro r3 w3 ⟨rfl, v1, B1, hsl1, h⟩
            replace hS := hS.callT (A := FO b fv most given B D) (by repeat constructor) h
            simp only [List.append_assoc, List.cons_append, List.nil_append, List.append_nil] at hS
            refine keepS (hS.sel (by repeat constructor)) (fun hD => ?_)
            refine SatD.ef 7 rfl (OpW.enter rfl rfl rfl (rfl) (rlose_any y.n (by omega) hvb hrsl (hS.ownT (A := RO rb rv most given RB) (by repeat constructor))) ?_)
            rintro r4 w4 ⟨rfl, v2, RB2, hsl2, h⟩
            replace hS := hS.callT (A := RO rb rv most given RB) (by repeat constructor) h
            simp only [List.append_assoc, List.cons_append, List.nil_append, List.append_nil] at hS
            have hkl := rel_len (rel_keep hkey y.n)
            rw [← hlen, ← hkl]
            refine keepS (hS.sel (by repeat constructor)) (fun hD => ?_)
            refine SatD.tk 8 rfl hD (fun _ hw => RunV.eql rfl rfl) ?_
            refine SatD.tk 9 rfl hD (fun _ hw => RunV.assign rfl) ?_
            refine SatD.done 0 (by kernel_rfl) (SatE.thenC ?_)
            clear hD
            refine SatC.ret (SatE.blk_ret (SatE.then_ret ?_))
            refine SatE.ret1 rfl rfl ?_
            first
            | exact ⟨by first | rfl | simp, _, _, v1, v2, _, B1, D1, RB2, rel_sendL hkey, sendL_le, send_g', hab1, from_send, hsl1, hsl2, by simp only [List.append_assoc, List.cons_append, List.nil_append, List.append_nil]; exact hS.sel (by repeat constructor)⟩
            | exact ⟨by first | rfl | simp, _, _, v1, v2, _, B1, D1, RB2, rel_cpL hkey, cpL_le, copy_g', hab1, from_copy, hsl1, hsl2, by simp only [List.append_assoc, List.cons_append, List.nil_append, List.append_nil]; exact hS.sel (by repeat constructor)⟩
            | exact ⟨by first | rfl | simp | (rw [k1]; simp), outL l y.n, outL rl y.n, v1, v2, given, B1, D, RB2, rel_out hkey y.n, Nat.le_trans (List.eraseIdx_sublist ..).length_le (by omega), ⟨by omega, by omega⟩, fun x hx => hab x ((List.eraseIdx_sublist ..).subset hx), from_sub fun x hx => (List.eraseIdx_sublist ..).subset hx, hsl1, hsl2, by simp only [List.append_assoc, List.cons_append, List.nil_append, List.append_nil]; exact hS.sel (by repeat constructor)⟩
            | exact ⟨by first | rfl | simp, keepL y.n l, keepL y.n rl, v1, v2, given, B1, D, RB2, rel_keep hkey y.n, Nat.le_trans (List.length_filter_le ..) (by omega), ⟨by omega, by omega⟩, fun x hx => hab x (List.mem_filter.1 hx).1, from_sub fun x hx => (List.mem_filter.1 hx).1, hsl1, hsl2, by simp only [List.append_assoc, List.cons_append, List.nil_append, List.append_nil]; exact hS.sel (by repeat constructor)⟩
            | exact ⟨rfl, l, rl, fv, rv, given, B, D, RB, hkey, by omega, ⟨by omega, by omega⟩, hab, from_sub fun x hx => hx, hsl, hrsl, by simp only [List.append_assoc, List.cons_append, List.nil_append, List.append_nil]; exact hS.sel (by repeat constructor)⟩
          · (try simp only [cx, ne_eq] at h5)
            try (exfalso; (first | omega | exact h5 trivial | contradiction | (simp at h5; done)); done)
            all_goals
            refine SatC.skip (SatE.blk_normal (SatE.thenC ?_))
            refine SatC.seq ?_
            refine SatC.region ?_
            refine SatL.pu (RunV.assign rfl) rfl ?_
            refine SatL.nil (SatE.thenC ?_)
            refine SatC.ret ?_
            refine SatE.ret1 rfl rfl ?_
            first
            | exact ⟨by first | rfl | simp, _, _, v1, v2, _, B1, D1, RB2, rel_sendL hkey, sendL_le, send_g', hab1, from_send, hsl1, hsl2, by simp only [List.append_assoc, List.cons_append, List.nil_append, List.append_nil]; exact hS.sel (by repeat constructor)⟩
            | exact ⟨by first | rfl | simp, _, _, v1, v2, _, B1, D1, RB2, rel_cpL hkey, cpL_le, copy_g', hab1, from_copy, hsl1, hsl2, by simp only [List.append_assoc, List.cons_append, List.nil_append, List.append_nil]; exact hS.sel (by repeat constructor)⟩
            | exact ⟨by first | rfl | simp | (rw [k1]; simp), outL l y.n, outL rl y.n, v1, v2, given, B1, D, RB2, rel_out hkey y.n, Nat.le_trans (List.eraseIdx_sublist ..).length_le (by omega), ⟨by omega, by omega⟩, fun x hx => hab x ((List.eraseIdx_sublist ..).subset hx), from_sub fun x hx => (List.eraseIdx_sublist ..).subset hx, hsl1, hsl2, by simp only [List.append_assoc, List.cons_append, List.nil_append, List.append_nil]; exact hS.sel (by repeat constructor)⟩
            | exact ⟨by first | rfl | simp, keepL y.n l, keepL y.n rl, v1, v2, given, B1, D, RB2, rel_keep hkey y.n, Nat.le_trans (List.length_filter_le ..) (by omega), ⟨by omega, by omega⟩, fun x hx => hab x (List.mem_filter.1 hx).1, from_sub fun x hx => (List.mem_filter.1 hx).1, hsl1, hsl2, by simp only [List.append_assoc, List.cons_append, List.nil_append, List.append_nil]; exact hS.sel (by repeat constructor)⟩
            | exact ⟨rfl, l, rl, fv, rv, given, B, D, RB, hkey, by omega, ⟨by omega, by omega⟩, hab, from_sub fun x hx => hx, hsl, hrsl, by simp only [List.append_assoc, List.cons_append, List.nil_append, List.append_nil]; exact hS.sel (by repeat constructor)⟩
end
end Go.Proofs.Ytpnkcoahbadnjaa
