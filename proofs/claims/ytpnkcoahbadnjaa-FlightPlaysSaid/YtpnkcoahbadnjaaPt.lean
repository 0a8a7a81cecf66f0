/- The flight's steps against the document's; the lists are the same. -/
import Derived.Test.YtpnkcoahbadnjaaOp
import Derived.Test.YtpnkcoahbadnjaaFe
import Derived.Test.YtpnkcoahbadnjaaFq
import Derived.Test.YtpnkcoahbadnjaaK17
set_option linter.unusedSimpArgs false
set_option linter.unusedVariables false
set_option maxRecDepth 100000
set_option maxHeartbeats 16000000
namespace Go.Proofs.Ytpnkcoahbadnjaa
open Go.RowKit
section
variable {l rl : List Fl}
theorem rel_len (h : l.map key = rl.map key) : l.length = rl.length := by simpa using congrArg List.length h
theorem rel_full {most : Int} {bs : List UInt8} (h : l.map key = rl.map key) : full most l bs = full most rl bs := by unfold full; rw [rel_len h]
theorem rel_sendI {most given : Int} {bs : List UInt8} (h : l.map key = rl.map key) : sendI most given l bs = sendI most given rl bs := by
  classical
  unfold sendI; rw [rel_full h]
theorem rel_sendG {most given : Int} {bs : List UInt8} (h : l.map key = rl.map key) : sendG most given l bs = sendG most given rl bs := by
  classical
  unfold sendG; rw [rel_full h]
theorem rel_sendL {most given f t : Int} {bs : List UInt8} {u v : Value} (h : l.map key = rl.map key) : (sendL most given l f t u bs).map key = (sendL most given rl f t v bs).map key := by
  classical
  unfold sendL
  rw [rel_full h]
  split
  · exact h
  · rw [List.map_append, List.map_append, h]; rfl
theorem rel_pk (h : l.map key = rl.map key) (k : Int) : pk l k = pk rl k := by unfold pk; rw [rel_len h]
theorem rel_out (h : l.map key = rl.map key) (k : Int) : (outL l k).map key = (outL rl k).map key := by
  unfold outL
  rw [List.eraseIdx_eq_take_drop_succ, List.eraseIdx_eq_take_drop_succ, List.map_append, List.map_append, List.map_take, List.map_drop, List.map_take, List.map_drop, rel_pk h, h]
theorem rel_outX (h : l.map key = rl.map key) (k : Int) : (outX l k).map key = (outX rl k).map key := by
  unfold outX
  rw [← List.getElem?_map, ← List.getElem?_map, rel_pk h, h]
theorem rel_is (h : l.map key = rl.map key) (k : Int) : (outX l k).isSome = (outX rl k).isSome := by
  have := congrArg Option.isSome (rel_outX h k)
  simpa using this
theorem rel_outP (h : l.map key = rl.map key) (k : Int) : key (outP l k) = key (outP rl k) := by
  have := rel_outX h k
  unfold outP
  cases h1 : outX l k <;> cases h2 : outX rl k <;> rw [h1, h2] at this <;> simp at this
  all_goals first | rfl | exact this
theorem rel_nil (h : l.map key = rl.map key) : (l = []) = (rl = []) := by
  have := rel_len h
  rw [← List.length_eq_zero_iff, ← List.length_eq_zero_iff, this]
theorem key_parts {x y : Fl} (h : key x = key y) : x.id = y.id ∧ x.f = y.f ∧ x.t = y.t ∧ x.b = y.b := by
  unfold key at h
  simpa [Prod.mk.injEq] using h
theorem rel_cpI {most given k : Int} (h : l.map key = rl.map key) : cpI most given l k = cpI most given rl k := by
  classical
  unfold cpI
  simp only [rel_nil h, (key_parts (rel_outP h k)).2.2.2, rel_sendI h]
theorem rel_cpB {most k : Int} (h : l.map key = rl.map key) : cpB most l k = cpB most rl k := by
  classical
  unfold cpB
  simp only [rel_nil h, (key_parts (rel_outP h k)).2.2.2, rel_full h]
theorem rel_cpG {most given k : Int} (h : l.map key = rl.map key) : cpG most given l k = cpG most given rl k := by
  classical
  unfold cpG
  simp only [rel_nil h, (key_parts (rel_outP h k)).2.2.2, rel_sendG h]
theorem rel_cpL {most given k : Int} {u v : Value} (h : l.map key = rl.map key) : (cpL most given l k u).map key = (cpL most given rl k v).map key := by
  classical
  obtain ⟨_, e1, e2, e3⟩ := key_parts (rel_outP h k)
  unfold cpL
  simp only [rel_nil h, e1, e2, e3]
  split
  · exact h
  · exact rel_sendL h
theorem keep_key (to : Int) (l : List Fl) : (keepL to l).map key = (l.map key).filter fun x => decide (¬ x.2.2.1 = to) := by
  unfold keepL
  rw [List.filter_map]
  rfl
theorem rel_keep (h : l.map key = rl.map key) (to : Int) : (keepL to l).map key = (keepL to rl).map key := by rw [keep_key, keep_key, h]
theorem rel_short (h : l.map key = rl.map key) {D : List (Nat × Obj)} (hab : AllBd D l) : ∀ x ∈ rl, x.b.length ≤ 1400 := by
  intro x hx
  have : key x ∈ l.map key := by rw [h]; exact List.mem_map_of_mem hx
  obtain ⟨z, hz, e⟩ := List.mem_map.1 this
  rw [← (key_parts e).2.2.2]
  exact (hab z hz).2
end
theorem rel_get {l rl : List Fl} {i : Nat} {y z : Fl} (h : l.map key = rl.map key) (hy : l[i]? = some y) (hz : rl[i]? = some z) : key y = key z := by
  have e := congrArg (·[i]?) h
  simp only [List.getElem?_map, hy, hz, Option.map_some, Option.some.injEq] at e
  exact e
/-- Where the bodies of a list come from. -/
def From (y : Stp) (rl rl' : List Fl) : Prop := ∀ x ∈ rl', (x.v = y.v ∧ x.b = y.b) ∨ ∃ z ∈ rl, x.v = z.v ∧ x.b = z.b
theorem from_sub {y : Stp} {rl rl' : List Fl} (h : ∀ x ∈ rl', x ∈ rl) : From y rl rl' := fun x hx => .inr ⟨x, h x hx, rfl, rfl⟩
theorem from_send {y : Stp} {rl : List Fl} {most given : Int} : From y rl (sendL most given rl y.f y.t y.v y.b) := by
  classical
  unfold sendL
  split
  · exact from_sub fun _ h => h
  · intro x hx
    rcases List.mem_append.1 hx with hx | hx
    · exact .inr ⟨x, hx, rfl, rfl⟩
    · simp only [List.mem_singleton] at hx
      subst hx
      exact .inl ⟨rfl, rfl⟩
theorem from_copy {y : Stp} {rl : List Fl} {most given k : Int} : From y rl (cpL most given rl k (outP rl k).v) := by
  classical
  unfold cpL
  split
  · exact from_sub fun _ h => h
  · rename_i he
    obtain ⟨x, hx, _⟩ := out_some (k := k) he
    have e : outP rl k = x := by unfold outP; rw [hx]; rfl
    rw [e]
    unfold sendL
    split
    · exact from_sub fun _ h => h
    · intro z hz
      rcases List.mem_append.1 hz with hz | hz
      · exact .inr ⟨z, hz, rfl, rfl⟩
      · simp only [List.mem_singleton] at hz
        subst hz
        exact .inr ⟨x, List.mem_of_getElem? hx, rfl, rfl⟩
theorem sendL_le {most given f t : Int} {u : Value} {l : List Fl} {bs : List UInt8} : (sendL most given l f t u bs).length ≤ l.length + 1 := by
  classical
  unfold sendL
  split
  · omega
  · simp
theorem cpL_le {most given k : Int} {u : Value} {l : List Fl} : (cpL most given l k u).length ≤ l.length + 1 := by
  classical
  unfold cpL
  split
  · omega
  · exact sendL_le
theorem send_g' {most given : Int} {l : List Fl} {bs : List UInt8} : given ≤ sendG most given l bs ∧ sendG most given l bs ≤ given + 1 := by
  classical
  unfold sendG
  split <;> omega
theorem copy_g' {most given k : Int} {l : List Fl} : given ≤ cpG most given l k ∧ cpG most given l k ≤ given + 1 := by
  classical
  unfold cpG
  split
  · omega
  · exact send_g'
theorem outP_one' {D : List (Nat × Obj)} {l : List Fl} (hab : AllBd D l) (k : Int) : (outP l k).v.oneCell' = true := by
  unfold outP
  cases h : outX l k with
  | none => rfl
  | some x => exact (hab x (List.mem_of_getElem? h)).1.one
theorem outP_vb {l : List Fl} (hab : VB l) (k : Int) : (outP l k).v.oneCell' = true := by
  unfold outP
  cases h : outX l k with
  | none => rfl
  | some x => obtain ⟨_, _, _, h⟩ := hab x (List.mem_of_getElem? h); exact slv_one h
theorem outP_row' {D : List (Nat × Obj)} {l : List Fl} {w : World} (hab : AllBd D l) (hD : ∀ c ∈ D, w.heap[c.1]? = some c.2) (k : Int) : RdRow w (outP l k).v 1 ((outP l k).b.map by1c) := by
  unfold outP
  cases h : outX l k with
  | none => exact RdRow.nil
  | some x => exact (hab x (List.mem_of_getElem? h)).1.row hD (by have := (hab x (List.mem_of_getElem? h)).2; show x.b.length ≤ _; omega)
theorem outP_rr {l : List Fl} {w : World} (h : ∀ x ∈ l, RdRow w x.v 1 (x.b.map by1c)) (k : Int) : RdRow w (outP l k).v 1 ((outP l k).b.map by1c) := by
  unfold outP
  cases h1 : outX l k with
  | none => exact RdRow.nil
  | some x => exact h x (List.mem_of_getElem? h1)
section
variable {b rb : Nat} {fv rv : Value} {most given : Int} {B D RB : List (Nat × Obj)} {l rl : List Fl} {w : World}
theorem lsame_any (hm : ¬ most = 0) (hl : l.length ≤ 100000) (hkey : l.map key = rl.map key) (hab : AllBd D l) (hrl : ∀ x ∈ rl, RdRow w x.v 1 (x.b.map by1c)) (hsl : Sl 32 4 fv (l.map fr) B) (hrsl : Sl 32 4 rv (rl.map fr) RB) (hown : Own w (FO b fv most given B D ++ RO rb rv most given RB)) :
    Ret Try.prog 20 #[.pointer (some ⟨b, 0, none⟩), .pointer (some ⟨rb, 0, none⟩)] w fun u w' => u = .bool true ∧ St w [] [] w' := by
  have hS := St.init hown
  obtain ⟨rc, hrv⟩ := hrsl.slv
  simp only [List.length_map] at hrv
  have hlen := rel_len hkey
  have hshort := rel_short hkey hab
  generalize hX : (FO b fv most given B D ++ RO rb rv most given RB).map Prod.fst = X at hS
  have hro : ∀ {L w'}, St w X (L ++ ((b, C 59 [fv, .int .i64 most, .int .i64 given]) :: (B ++ (D ++ ((rb, C 67 [rv, .int .i64 given, .int .i64 most]) :: RB))))) w' → St w [] L w' := fun h => St.roL hown (by rw [hX]; simpa only [List.append_assoc, List.cons_append, List.nil_append] using h.perm List.perm_append_comm) .here
  simp only [List.append_assoc, List.cons_append, List.nil_append, List.append_nil] at hS
  refine Ret.enter Try.func20 Try.ntmps20 rfl rfl ?_
  simp only [argEnv, Nat.reduceAdd]
  refine SatC.seq ?_
  refine SatC.region ?_
  refine SatL.pu (RunV.assign rfl) rfl ?_
  refine SatL.nil (SatE.thenC ?_)
  refine SatC.seq ?_
  refine SatC.region ?_
  refine SatL.pu (RunV.move rfl) rfl ?_
  refine SatL.op rfl (OpW.enter rfl rfl rfl (rfl) (list_any hm hl hab hsl (hS.ownT (A := FO b fv most given B D) (by repeat constructor))) ?_)
  rintro r1 w1 ⟨l2, B2, D2, hk2, hsl2, hab2, h⟩
  replace hS := hS.call0 h
  simp only [List.append_assoc, List.cons_append, List.nil_append, List.append_nil] at hS
  obtain ⟨c2, hv2⟩ := hsl2.slv
  simp only [List.length_map] at hv2
  have hkr := hk2.trans hkey
  have hlen2 := rel_len hkr
  refine SatL.pu (RunV.assign rfl) rfl ?_
  refine SatL.nil (SatE.thenC ?_)
  refine SatC.seq ?_
  refine SatC.seq ?_
  refine SatC.drawnT 27 hS (hS.sel (R := [(rb, C 67 [rv, .int .i64 given, .int .i64 most])]) (by repeat constructor)) (by kernel_rfl) ?_
  clear hS
  intro w2 hh hS hD
  refine SatD.tk 0 rfl hD (fun _ hw => RunV.move rfl) ?_
  first | refine SatD.tk 1 rfl hD (fun _ hw => RunV.lenR (by assumption) rfl rfl) ?_ | refine SatD.tk 1 rfl hD (fun _ hw => RunV.lenS rfl rfl) ?_
  refine SatD.tk 2 rfl hD (fun _ hw => RunV.move rfl) ?_
  first | refine SatD.tk 3 rfl hD (fun _ hw => RunV.nil_ptr rfl) ?_ | refine SatD.tk 3 rfl hD (fun _ hw => RunV.nil_func rfl) ?_ | refine SatD.tk 3 rfl hD (fun _ hw => RunV.nil_yield rfl) ?_
  first | refine SatD.tk 4 rfl hD (fun _ hw => RunV.fieldAddrL rfl rfl rfl) ?_ | refine SatD.tk 4 rfl hD (fun _ hw => RunV.fieldAddr rfl rfl rfl) ?_
  refine SatD.tk 5 rfl hD (fun _ hw => RunV.load1 hw rfl rfl (by repeat constructor) rfl) ?_
  first | refine SatD.tk 6 rfl hD (fun _ hw => RunV.lenR (by assumption) rfl rfl) ?_ | refine SatD.tk 6 rfl hD (fun _ hw => RunV.lenS rfl rfl) ?_
  refine SatD.tk 7 rfl hD (fun _ hw => RunV.neq rfl rfl) ?_
  refine SatD.tk 8 rfl hD (fun _ hw => RunV.move rfl) ?_
  refine SatD.ways 17 rfl (fun h1 => ?_) (fun h1 => ?_)
  · (try simp only [cx, ne_eq] at h1)
    try (exfalso; (first | omega | exact h1 trivial | contradiction | (simp at h1; done)); done)
    all_goals
    refine SatD.sk 9 rfl [] hD ?_
    refine SatD.sk 10 rfl [] hD ?_
    refine SatD.sk 11 rfl [] hD ?_
    refine SatD.sk 12 rfl [] hD ?_
    refine SatD.sk 13 rfl [] hD ?_
    refine SatD.sk 14 rfl [] hD ?_
    refine SatD.sk 15 rfl [] hD ?_
    refine SatD.sk 16 rfl [] hD ?_
    refine SatD.tk 17 rfl hD (fun _ hw => RunV.pick_t rfl rfl) ?_
    refine SatD.tk 18 rfl hD (fun _ hw => RunV.move rfl) ?_
    refine SatD.sk 19 rfl [] hD ?_
    refine SatD.sk 20 rfl [] hD ?_
    refine SatD.sk 21 rfl [] hD ?_
    refine SatD.sk 22 rfl [] hD ?_
    refine SatD.sk 23 rfl [] hD ?_
    refine SatD.sk 24 rfl [] hD ?_
    refine SatD.sk 25 rfl [] hD ?_
    refine SatD.tk 26 rfl hD (fun _ hw => RunV.pick_t rfl rfl) ?_
    refine SatD.done 0 (by kernel_rfl) (SatE.thenC ?_)
    clear hD
    refine SatC.weak (e' := [(1, _), (4, _), (5, _), (35, _)]) (by repeat constructor) ?_
    refine SatC.cond_t rfl ?_
    refine SatC.seq ?_
    refine SatC.region ?_
    refine SatL.pu (RunV.assign rfl) rfl ?_
    refine SatL.nil (SatE.thenC ?_)
    refine SatC.ret (SatE.then_ret ?_)
    refine SatE.ret1 rfl rfl ?_
    first
    | exact ⟨rfl, hro (L := []) (hS.sel (by repeat constructor))⟩
    | (exfalso; simp_all; done)
  · (try simp only [cx, ne_eq] at h1)
    try (exfalso; (first | omega | exact h1 trivial | contradiction | (simp at h1; done)); done)
    all_goals
    refine SatD.tk 9 rfl hD (fun _ hw => RunV.move rfl) ?_
    refine SatD.tk 11 rfl hD (fun _ hw => RunV.move rfl) ?_
    first | refine SatD.tk 12 rfl hD (fun _ hw => RunV.nil_ptr rfl) ?_ | refine SatD.tk 12 rfl hD (fun _ hw => RunV.nil_func rfl) ?_ | refine SatD.tk 12 rfl hD (fun _ hw => RunV.nil_yield rfl) ?_
    first | refine SatD.tk 13 rfl hD (fun _ hw => RunV.fieldAddrL rfl rfl rfl) ?_ | refine SatD.tk 13 rfl hD (fun _ hw => RunV.fieldAddr rfl rfl rfl) ?_
    refine SatD.tk 14 rfl hD (fun _ hw => RunV.load1 hw rfl rfl (by repeat constructor) rfl) ?_
    first | refine SatD.tk 15 rfl hD (fun _ hw => RunV.lenR (by assumption) rfl rfl) ?_ | refine SatD.tk 15 rfl hD (fun _ hw => RunV.lenS rfl rfl) ?_
    refine SatD.ef 10 rfl (OpW.enter rfl rfl rfl (rfl) (cnt_any hm hsl (hS.ownT (A := FO b fv most given B D) (by repeat constructor))) ?_)
    rintro r3 w3 ⟨rfl, h⟩
    replace hS := St.callN hS h
    refine keepS (hS.sel (by repeat constructor)) (fun hD => ?_)
    refine SatD.tk 16 rfl hD (fun _ hw => RunV.neq rfl rfl) ?_
    refine SatD.tk 17 rfl hD (fun _ hw => RunV.pick_f rfl rfl) ?_
    refine SatD.tk 18 rfl hD (fun _ hw => RunV.move rfl) ?_
    refine SatD.ways 27 rfl (fun h2 => ?_) (fun h2 => ?_)
    · (try simp only [cx, ne_eq] at h2)
      try (exfalso; (first | omega | exact h2 trivial | contradiction | (simp at h2; done)); done)
      all_goals
      refine SatD.sk 19 rfl [] hD ?_
      refine SatD.sk 20 rfl [] hD ?_
      refine SatD.sk 21 rfl [] hD ?_
      refine SatD.sk 22 rfl [] hD ?_
      refine SatD.sk 23 rfl [] hD ?_
      refine SatD.sk 24 rfl [] hD ?_
      refine SatD.sk 25 rfl [] hD ?_
      refine SatD.tk 26 rfl hD (fun _ hw => RunV.pick_t rfl rfl) ?_
      refine SatD.done 0 (by kernel_rfl) (SatE.thenC ?_)
      clear hD
      refine SatC.weak (e' := [(1, _), (4, _), (5, _), (35, _)]) (by repeat constructor) ?_
      refine SatC.cond_t rfl ?_
      refine SatC.seq ?_
      refine SatC.region ?_
      refine SatL.pu (RunV.assign rfl) rfl ?_
      refine SatL.nil (SatE.thenC ?_)
      refine SatC.ret (SatE.then_ret ?_)
      refine SatE.ret1 rfl rfl ?_
      first
      | exact ⟨rfl, hro (L := []) (hS.sel (by repeat constructor))⟩
      | (exfalso; simp_all; done)
    · (try simp only [cx, ne_eq] at h2)
      try (exfalso; (first | omega | exact h2 trivial | contradiction | (simp at h2; done)); done)
      all_goals
      refine SatD.tk 19 rfl hD (fun _ hw => RunV.move rfl) ?_
      refine SatD.tk 21 rfl hD (fun _ hw => RunV.move rfl) ?_
      first | refine SatD.tk 22 rfl hD (fun _ hw => RunV.nil_ptr rfl) ?_ | refine SatD.tk 22 rfl hD (fun _ hw => RunV.nil_func rfl) ?_ | refine SatD.tk 22 rfl hD (fun _ hw => RunV.nil_yield rfl) ?_
      first | refine SatD.tk 23 rfl hD (fun _ hw => RunV.fieldAddrL rfl rfl rfl) ?_ | refine SatD.tk 23 rfl hD (fun _ hw => RunV.fieldAddr rfl rfl rfl) ?_
      refine SatD.tk 24 rfl hD (fun _ hw => RunV.load1 hw rfl rfl (by repeat constructor) rfl) ?_
      refine SatD.ef 20 rfl (OpW.enter rfl rfl rfl (rfl) (sent_any hm (hS.ownT (A := FO b fv most given B D) (by repeat constructor))) ?_)
      rintro r4 w4 ⟨rfl, h⟩
      replace hS := St.callN hS h
      refine keepS (hS.sel (by repeat constructor)) (fun hD => ?_)
      refine SatD.tk 25 rfl hD (fun _ hw => RunV.neq rfl rfl) ?_
      refine SatD.tk 26 rfl hD (fun _ hw => RunV.pick_f rfl rfl) ?_
      refine SatD.done 0 (by kernel_rfl) (SatE.thenC ?_)
      clear hD
      refine SatC.weak (e' := [(1, _), (4, _), (5, _), (35, _)]) (by repeat constructor) ?_
      refine SatC.cond rfl (fun h3 => ?_) (fun h3 => ?_)
      · (try simp only [cx, ne_eq] at h3)
        try (exfalso; (first | omega | exact h3 trivial | contradiction | (simp at h3; done)); done)
        all_goals
        refine SatC.seq ?_
        refine SatC.region ?_
        refine SatL.pu (RunV.assign rfl) rfl ?_
        refine SatL.nil (SatE.thenC ?_)
        refine SatC.ret (SatE.then_ret ?_)
        refine SatE.ret1 rfl rfl ?_
        first
        | exact ⟨rfl, hro (L := []) (hS.sel (by repeat constructor))⟩
        | (exfalso; simp_all; done)
      · (try simp only [cx, ne_eq] at h3)
        try (exfalso; (first | omega | exact h3 trivial | contradiction | (simp at h3; done)); done)
        all_goals
        refine SatC.skip (SatE.thenC ?_)
        refine SatC.seq ?_
        refine SatC.seq ?_
        refine SatC.region ?_
        refine SatL.pu (RunV.assign rfl) rfl ?_
        refine SatL.nil (SatE.thenC ?_)
        refine SatC.block ?_
        refine SatC.loopK (G := Nat) (V := fun i => [(6, .int .i64 (i : Int))]) (Cn := [(1, _), (5, _), (4, _)]) (I := fun i w' => i ≤ l2.length ∧ St w X (B2 ++ (D2 ++ ((b, C 59 [fv, .int .i64 most, .int .i64 given]) :: (B ++ (D ++ ((rb, C 67 [rv, .int .i64 given, .int .i64 most]) :: RB)))))) w') (μ := fun i => l2.length - i) 0 ?_ (by repeat constructor) ?_
        · exact ⟨Nat.zero_le _, hS.sel (by repeat constructor)⟩
        clear hS
        rintro i w5 ⟨hi, hS⟩
        refine SatC.weak (e' := [(1, _), (4, _), (5, _), (6, _)]) (by repeat constructor) ?_
        refine SatC.seq ?_
        refine SatC.seq ?_
        refine SatC.region ?_
        refine SatL.pu (RunV.move rfl) rfl ?_
        refine SatL.pu (RunV.move rfl) rfl ?_
        first | refine SatL.pu (RunV.lenR (by assumption) rfl rfl) rfl ?_ | refine SatL.pu (RunV.lenS rfl rfl) rfl ?_
        refine SatL.pu (RunV.lss rfl rfl) rfl ?_
        refine SatL.nil (SatE.thenC ?_)
        refine SatC.cond rfl (fun h4 => ?_) (fun h4 => ?_)
        · (try simp only [cx, ne_eq] at h4)
          try (exfalso; (first | omega | exact h4 trivial | contradiction | (simp at h4; done)); done)
          all_goals
          refine SatC.skip (SatE.thenC ?_)
          refine SatC.seq ?_
          refine SatC.block ?_
          refine SatC.seq ?_
          obtain ⟨y, hy⟩ := get_some l2 i (by omega)
          obtain ⟨z, hz⟩ := get_some rl i (by omega)
          obtain ⟨e1, e2, e3, e4⟩ := key_parts (rel_get hkr hy hz)
          have hyb := hab2 y (List.mem_of_getElem? hy)
          refine SatC.drawnT 31 hS (hS.sel (R := B2 ++ (D2 ++ ((b, C 59 [fv, .int .i64 most, .int .i64 given]) :: (B ++ (D ++ ((rb, C 67 [rv, .int .i64 given, .int .i64 most]) :: RB)))))) (by repeat constructor)) (by kernel_rfl) ?_
          clear hS
          intro w6 hh hS hD
          refine SatD.tk 0 rfl hD (fun _ hw => RunV.move rfl) ?_
          refine SatD.tk 1 rfl hD (fun _ hw => RunV.move rfl) ?_
          first | refine SatD.tk 2 rfl hD (fun _ hw => RunV.indexR (by assumption) rfl rfl rfl (by omega) (by omega) rfl) ?_ | refine SatD.tk 2 rfl hD (fun _ hw => RunV.indexS rfl rfl rfl (by omega) (by omega) rfl) ?_
          first | refine SatD.tk 3 rfl hD (fun _ hw => RunV.fieldAddrL rfl rfl rfl) ?_ | refine SatD.tk 3 rfl hD (fun _ hw => RunV.fieldAddr rfl rfl rfl) ?_
          first | refine SatD.tk 4 rfl hD (fun _ hw => RunV.loadR1f (RdC.st (by assumption) hw List.not_mem_nil) rfl rfl (by first | assumption | exact map_get (by assumption)) rfl) ?_ | refine SatD.tk 4 rfl hD (fun _ hw => RunV.loadR1f (Sl.rd (by assumption) hw (by repeat constructor)) rfl rfl (by first | assumption | exact map_get (by assumption)) rfl) ?_
          refine SatD.tk 5 rfl hD (fun _ hw => RunV.move rfl) ?_
          first | refine SatD.tk 6 rfl hD (fun _ hw => RunV.nil_ptr rfl) ?_ | refine SatD.tk 6 rfl hD (fun _ hw => RunV.nil_func rfl) ?_ | refine SatD.tk 6 rfl hD (fun _ hw => RunV.nil_yield rfl) ?_
          first | refine SatD.tk 7 rfl hD (fun _ hw => RunV.fieldAddrL rfl rfl rfl) ?_ | refine SatD.tk 7 rfl hD (fun _ hw => RunV.fieldAddr rfl rfl rfl) ?_
          refine SatD.tk 8 rfl hD (fun _ hw => RunV.load1 hw rfl rfl (by repeat constructor) rfl) ?_
          refine SatD.tk 9 rfl hD (fun _ hw => RunV.move rfl) ?_
          first | refine SatD.tk 10 rfl hD (fun _ hw => RunV.indexR (by assumption) rfl rfl rfl (by omega) (by omega) rfl) ?_ | refine SatD.tk 10 rfl hD (fun _ hw => RunV.indexS rfl rfl rfl (by omega) (by omega) rfl) ?_
          first | refine SatD.tk 11 rfl hD (fun _ hw => RunV.fieldAddrL rfl rfl rfl) ?_ | refine SatD.tk 11 rfl hD (fun _ hw => RunV.fieldAddr rfl rfl rfl) ?_
          first | refine SatD.tk 12 rfl hD (fun _ hw => RunV.loadR1f (RdC.st (by assumption) hw List.not_mem_nil) rfl rfl (by first | assumption | exact map_get (by assumption)) rfl) ?_ | refine SatD.tk 12 rfl hD (fun _ hw => RunV.loadR1f (Sl.rd (by assumption) hw (by repeat constructor)) rfl rfl (by first | assumption | exact map_get (by assumption)) rfl) ?_
          refine SatD.tk 13 rfl hD (fun _ hw => RunV.neq rfl rfl) ?_
          refine SatD.tk 14 rfl hD (fun _ hw => RunV.move rfl) ?_
          refine SatD.ways 56 rfl (fun h5 => ?_) (fun h5 => ?_)
          · (try simp only [cx, ne_eq] at h5)
            try (exfalso; (first | omega | exact h5 trivial | contradiction | (simp at h5; done)); done)
            all_goals
            refine SatD.sk 15 rfl [] hD ?_
            refine SatD.sk 16 rfl [] hD ?_
            refine SatD.sk 17 rfl [] hD ?_
            refine SatD.sk 18 rfl [] hD ?_
            refine SatD.sk 19 rfl [] hD ?_
            refine SatD.sk 20 rfl [] hD ?_
            refine SatD.sk 21 rfl [] hD ?_
            refine SatD.sk 22 rfl [] hD ?_
            refine SatD.sk 23 rfl [] hD ?_
            refine SatD.sk 24 rfl [] hD ?_
            refine SatD.sk 25 rfl [] hD ?_
            refine SatD.sk 26 rfl [] hD ?_
            refine SatD.sk 27 rfl [] hD ?_
            refine SatD.sk 28 rfl [] hD ?_
            refine SatD.sk 29 rfl [] hD ?_
            refine SatD.tk 30 rfl hD (fun _ hw => RunV.pick_t rfl rfl) ?_
            refine SatD.done 0 (by kernel_rfl) (SatE.thenC ?_)
            clear hD
            refine SatC.weak (e' := [(1, _), (4, _), (5, _), (6, _), (72, _)]) (by repeat constructor) ?_
            refine SatC.cond_t rfl ?_
            refine SatC.seq ?_
            refine SatC.region ?_
            refine SatL.pu (RunV.assign rfl) rfl ?_
            refine SatL.nil (SatE.thenC ?_)
            refine SatC.ret (SatE.blk_ret (SatE.then_ret (SatE.then_ret (SatE.blk_ret (SatE.then_ret ?_)))))
            refine SatE.ret1 rfl rfl ?_
            first
            | exact ⟨rfl, hro (L := []) (hS.sel (by repeat constructor))⟩
            | (exfalso; simp_all; done)
          · (try simp only [cx, ne_eq] at h5)
            try (exfalso; (first | omega | exact h5 trivial | contradiction | (simp at h5; done)); done)
            all_goals
            refine SatD.tk 15 rfl hD (fun _ hw => RunV.move rfl) ?_
            refine SatD.tk 16 rfl hD (fun _ hw => RunV.move rfl) ?_
            first | refine SatD.tk 17 rfl hD (fun _ hw => RunV.indexR (by assumption) rfl rfl rfl (by omega) (by omega) rfl) ?_ | refine SatD.tk 17 rfl hD (fun _ hw => RunV.indexS rfl rfl rfl (by omega) (by omega) rfl) ?_
            first | refine SatD.tk 18 rfl hD (fun _ hw => RunV.fieldAddrL rfl rfl rfl) ?_ | refine SatD.tk 18 rfl hD (fun _ hw => RunV.fieldAddr rfl rfl rfl) ?_
            first | refine SatD.tk 19 rfl hD (fun _ hw => RunV.loadRNf (RdC.st (by assumption) hw List.not_mem_nil) rfl rfl (by first | assumption | exact map_get (by assumption)) (by repeat constructor)) ?_ | refine SatD.tk 19 rfl hD (fun _ hw => RunV.loadRNf (Sl.rd (by assumption) hw (by repeat constructor)) rfl rfl (by first | assumption | exact map_get (by assumption)) (by repeat constructor)) ?_
            refine SatD.tk 20 rfl hD (fun _ hw => RunV.move rfl) ?_
            first | refine SatD.tk 21 rfl hD (fun _ hw => RunV.nil_ptr rfl) ?_ | refine SatD.tk 21 rfl hD (fun _ hw => RunV.nil_func rfl) ?_ | refine SatD.tk 21 rfl hD (fun _ hw => RunV.nil_yield rfl) ?_
            first | refine SatD.tk 22 rfl hD (fun _ hw => RunV.fieldAddrL rfl rfl rfl) ?_ | refine SatD.tk 22 rfl hD (fun _ hw => RunV.fieldAddr rfl rfl rfl) ?_
            refine SatD.tk 23 rfl hD (fun _ hw => RunV.load1 hw rfl rfl (by repeat constructor) rfl) ?_
            refine SatD.tk 24 rfl hD (fun _ hw => RunV.move rfl) ?_
            first | refine SatD.tk 25 rfl hD (fun _ hw => RunV.indexR (by assumption) rfl rfl rfl (by omega) (by omega) rfl) ?_ | refine SatD.tk 25 rfl hD (fun _ hw => RunV.indexS rfl rfl rfl (by omega) (by omega) rfl) ?_
            first | refine SatD.tk 26 rfl hD (fun _ hw => RunV.fieldAddrL rfl rfl rfl) ?_ | refine SatD.tk 26 rfl hD (fun _ hw => RunV.fieldAddr rfl rfl rfl) ?_
            first | refine SatD.tk 27 rfl hD (fun _ hw => RunV.loadRNf (RdC.st (by assumption) hw List.not_mem_nil) rfl rfl (by first | assumption | exact map_get (by assumption)) (by repeat constructor)) ?_ | refine SatD.tk 27 rfl hD (fun _ hw => RunV.loadRNf (Sl.rd (by assumption) hw (by repeat constructor)) rfl rfl (by first | assumption | exact map_get (by assumption)) (by repeat constructor)) ?_
            refine SatD.ef 28 rfl (OpW.enter rfl rfl rfl (rfl) (same_any y.f y.t z.f z.t y.v z.v y.b z.b _ (hyb.1.row (fun c hc => (hS.sel (R := D2) (by repeat constructor)).own c hc) (by omega)) ((hrl z (List.mem_of_getElem? hz)).st (hro (L := B2 ++ D2) (by simp only [List.append_assoc]; exact hS.sel (by repeat constructor))))) ?_)
            rintro r7 w7 ⟨rfl, h⟩
            replace hS := St.callN hS h
            refine keepS (hS.sel (by repeat constructor)) (fun hD => ?_)
            refine SatD.tk 29 rfl hD (fun _ hw => RunV.not rfl) ?_
            refine SatD.tk 30 rfl hD (fun _ hw => RunV.pick_f rfl rfl) ?_
            refine SatD.done 0 (by kernel_rfl) (SatE.thenC ?_)
            clear hD
            refine SatC.weak (e' := [(1, _), (4, _), (5, _), (6, _), (72, _)]) (by repeat constructor) ?_
            refine SatC.cond rfl (fun h6 => ?_) (fun h6 => ?_)
            · (try simp only [cx, ne_eq] at h6)
              try (exfalso; (first | omega | exact h6 trivial | contradiction | (simp at h6; done)); done)
              all_goals
              refine SatC.seq ?_
              refine SatC.region ?_
              refine SatL.pu (RunV.assign rfl) rfl ?_
              refine SatL.nil (SatE.thenC ?_)
              refine SatC.ret (SatE.blk_ret (SatE.then_ret (SatE.then_ret (SatE.blk_ret (SatE.then_ret ?_)))))
              refine SatE.ret1 rfl rfl ?_
              first
              | exact ⟨rfl, hro (L := []) (hS.sel (by repeat constructor))⟩
              | (exfalso; simp_all; done)
            · (try simp only [cx, ne_eq] at h6)
              try (exfalso; (first | omega | exact h6 trivial | contradiction | (simp at h6; done)); done)
              all_goals
              refine SatC.skip (SatE.blk_normal (SatE.thenC ?_))
              refine SatC.region ?_
              refine SatL.pu (RunV.move rfl) rfl ?_
              refine SatL.pu (RunV.add rfl rfl (by first | exact wrapI64 (by omega) | rfl)) rfl ?_
              refine SatL.pu (RunV.assign rfl) rfl ?_
              refine SatL.nil ?_
              refine SatE.again (i + 1) ?_ (by first | omega | (dsimp only; omega)) (by repeat constructor)
              exact ⟨by omega, hS.sel (by repeat constructor)⟩
        · (try simp only [cx, ne_eq] at h4)
          try (exfalso; (first | omega | exact h4 trivial | contradiction | (simp at h4; done)); done)
          all_goals
          refine SatC.exit (SatE.then_exit (SatE.then_exit (SatE.blk_exit (SatE.thenC ?_))))
          refine SatC.seq ?_
          refine SatC.region ?_
          refine SatL.pu (RunV.assign rfl) rfl ?_
          refine SatL.nil (SatE.thenC ?_)
          refine SatC.ret ?_
          refine SatE.ret1 rfl rfl ?_
          first
          | exact ⟨rfl, hro (L := []) (hS.sel (by repeat constructor))⟩
          | (exfalso; simp_all; done)
end
end Go.Proofs.Ytpnkcoahbadnjaa
