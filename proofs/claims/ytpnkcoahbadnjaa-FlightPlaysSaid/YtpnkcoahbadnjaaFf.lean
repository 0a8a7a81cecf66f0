/- How many, the last number, the list, a packet that flies twice, those to a node lost. -/
import Derived.Test.YtpnkcoahbadnjaaFd
set_option linter.unusedSimpArgs false
set_option linter.unusedVariables false
set_option maxRecDepth 100000
set_option maxHeartbeats 4000000
namespace Go.Proofs.Ytpnkcoahbadnjaa
open Go.RowKit
/-- What a packet says, wherever its body lies. -/
def key (x : Fl) : Int × Int × Int × List UInt8 := (x.id, x.f, x.t, x.b)
section
variable {b : Nat} {v : Value} {most given : Int} {B D : List (Nat × Obj)} {l : List Fl} {w : World}
theorem cnt_any (hm : ¬ most = 0) (hsl : Sl 32 4 v (l.map fr) B) (hown : Own w (FO b v most given B D)) : Ret Try.prog 17 #[.pointer (some ⟨b, 0, none⟩)] w fun u w' => u = .int .i64 (l.length : Int) ∧ St w [] [] w' := by
  have hS := St.init hown
  simp only [List.map_cons, List.map_nil] at hS
  refine Ret.enter Try.func17 Try.ntmps17 rfl rfl ?_
  simp only [argEnv, Nat.reduceAdd]
  refine SatC.seq ?_
  refine SatC.region ?_
  refine SatL.pu (RunV.assign rfl) rfl ?_
  refine SatL.nil (SatE.thenC ?_)
  refine SatC.seq ?_
  refine SatC.seq ?_
  refine SatC.region ?_
  refine SatL.pu (RunV.move rfl) rfl ?_
  refine SatL.op rfl (OpW.enter rfl rfl rfl (rfl) (fnone_any hm (hS.ownT (A := FO b v most given B D) (by repeat constructor))) ?_)
  rintro r1 w1 ⟨rfl, h⟩
  replace hS := St.callN hS h
  refine SatL.nil (SatE.thenC ?_)
  refine SatC.cond rfl (fun h1 => ?_) (fun h1 => ?_)
  · (try simp only [cx, ne_eq] at h1)
    try (exfalso; (first | omega | exact h1 trivial | contradiction | (simp at h1; done)); done)
    all_goals
    refine SatC.seq ?_
    refine SatC.region ?_
    refine SatL.pu (RunV.assign rfl) rfl ?_
    refine SatL.nil (SatE.thenC ?_)
    refine SatC.ret (SatE.then_ret ?_)
    refine SatE.ret1 rfl rfl ?_
    exact ⟨rfl, St.ro hown hS (by repeat constructor)⟩
  · (try simp only [cx, ne_eq] at h1)
    try (exfalso; (first | omega | exact h1 trivial | contradiction | (simp at h1; done)); done)
    all_goals
    refine SatC.skip (SatE.thenC ?_)
    refine SatC.seq ?_
    refine SatC.region ?_
    refine SatL.pu (RunV.move rfl) rfl ?_
    first | refine SatL.pu (RunV.nil_ptr rfl) rfl ?_ | refine SatL.pu (RunV.nil_func rfl) rfl ?_ | refine SatL.pu (RunV.nil_yield rfl) rfl ?_
    first | refine SatL.pu (RunV.fieldAddrL rfl rfl rfl) rfl ?_ | refine SatL.pu (RunV.fieldAddr rfl rfl rfl) rfl ?_
    refine SatL.op rfl (OpW.enter rfl rfl rfl (rfl) (count_any hsl (hS.ownT (A := FO b v most given B D) (by repeat constructor))) ?_)
    rintro r2 w2 ⟨rfl, h⟩
    replace hS := St.callN hS h
    refine SatL.pu (RunV.assign rfl) rfl ?_
    refine SatL.nil (SatE.thenC ?_)
    refine SatC.ret ?_
    refine SatE.ret1 rfl rfl ?_
    exact ⟨rfl, St.ro hown hS (by repeat constructor)⟩
theorem sent_any (hm : ¬ most = 0) (hown : Own w (FO b v most given B D)) : Ret Try.prog 13 #[.pointer (some ⟨b, 0, none⟩)] w fun u w' => u = .int .i64 given ∧ St w [] [] w' := by
  have hS := St.init hown
  simp only [List.map_cons, List.map_nil] at hS
  refine Ret.enter Try.func13 Try.ntmps13 rfl rfl ?_
  simp only [argEnv, Nat.reduceAdd]
  refine SatC.seq ?_
  refine SatC.region ?_
  refine SatL.pu (RunV.assign rfl) rfl ?_
  refine SatL.nil (SatE.thenC ?_)
  refine SatC.seq ?_
  refine SatC.seq ?_
  refine SatC.region ?_
  refine SatL.pu (RunV.move rfl) rfl ?_
  refine SatL.op rfl (OpW.enter rfl rfl rfl (rfl) (fnone_any hm (hS.ownT (A := FO b v most given B D) (by repeat constructor))) ?_)
  rintro r1 w1 ⟨rfl, h⟩
  replace hS := St.callN hS h
  refine SatL.nil (SatE.thenC ?_)
  refine SatC.cond rfl (fun h1 => ?_) (fun h1 => ?_)
  · (try simp only [cx, ne_eq] at h1)
    try (exfalso; (first | omega | exact h1 trivial | contradiction | (simp at h1; done)); done)
    all_goals
    refine SatC.seq ?_
    refine SatC.region ?_
    refine SatL.pu (RunV.assign rfl) rfl ?_
    refine SatL.nil (SatE.thenC ?_)
    refine SatC.ret (SatE.then_ret ?_)
    refine SatE.ret1 rfl rfl ?_
    exact ⟨rfl, St.ro hown hS (by repeat constructor)⟩
  · (try simp only [cx, ne_eq] at h1)
    try (exfalso; (first | omega | exact h1 trivial | contradiction | (simp at h1; done)); done)
    all_goals
    refine SatC.skip (SatE.thenC ?_)
    refine SatC.seq ?_
    refine SatC.region ?_
    refine SatL.pu (RunV.move rfl) rfl ?_
    first | refine SatL.pu (RunV.nil_ptr rfl) rfl ?_ | refine SatL.pu (RunV.nil_func rfl) rfl ?_ | refine SatL.pu (RunV.nil_yield rfl) rfl ?_
    first | refine SatL.pu (RunV.fieldAddrL rfl rfl rfl) rfl ?_ | refine SatL.pu (RunV.fieldAddr rfl rfl rfl) rfl ?_
    refine SatL.op rfl (OpW.enter rfl rfl rfl (rfl) (load_any (v := v) (most := most) (given := given) (hS.ownT (A := [(b, C 59 [v, .int .i64 most, .int .i64 given])]) (by repeat constructor))) ?_)
    rintro r2 w2 ⟨rfl, h⟩
    replace hS := St.callN hS h
    refine SatL.pu (RunV.assign rfl) rfl ?_
    refine SatL.nil (SatE.thenC ?_)
    refine SatC.ret ?_
    refine SatE.ret1 rfl rfl ?_
    exact ⟨rfl, St.ro hown hS (by repeat constructor)⟩
theorem list_any (hm : ¬ most = 0) (hl : l.length ≤ 100000) (hab : AllBd D l) (hsl : Sl 32 4 v (l.map fr) B) (hown : Own w (FO b v most given B D)) : Ret Try.prog 9 #[.pointer (some ⟨b, 0, none⟩)] w fun u w' => ∃ l2 B2 D2, l2.map key = l.map key ∧ Sl 32 4 u (l2.map fr) B2 ∧ AllBd D2 l2 ∧ St w [] (B2 ++ D2) w' := by
  have hS := St.init hown
  obtain ⟨c0, hv0⟩ := hsl.slv
  simp only [List.length_map] at hv0
  generalize hX : (FO b v most given B D).map Prod.fst = X at hS
  have hro : ∀ {L w'}, St w X (L ++ FO b v most given B D) w' → St w [] L w' := fun h => St.roL hown (by rw [hX]; exact h.perm List.perm_append_comm) .here
  refine Ret.enter Try.func9 Try.ntmps9 rfl rfl ?_
  simp only [argEnv, Nat.reduceAdd]
  refine SatC.seq ?_
  refine SatC.region ?_
  refine SatL.pu (RunV.assign rfl) rfl ?_
  refine SatL.nil (SatE.thenC ?_)
  refine SatC.seq ?_
  refine SatC.seq ?_
  refine SatC.region ?_
  refine SatL.pu (RunV.move rfl) rfl ?_
  refine SatL.op rfl (OpW.enter rfl rfl rfl (rfl) (fnone_any hm (hS.ownT (A := FO b v most given B D) (by repeat constructor))) ?_)
  rintro r1 w1 ⟨rfl, h⟩
  replace hS := St.callN hS h
  refine SatL.nil (SatE.thenC ?_)
  refine SatC.cond rfl (fun h1 => ?_) (fun h1 => ?_)
  · (try simp only [cx, ne_eq] at h1)
    try (exfalso; (first | omega | exact h1 trivial | contradiction | (simp at h1; done)); done)
    all_goals
    refine SatC.seq ?_
    refine SatC.region ?_
    refine SatL.pu (RunV.assign rfl) rfl ?_
    refine SatL.nil (SatE.thenC ?_)
    refine SatC.ret (SatE.then_ret ?_)
    refine SatE.ret1 rfl rfl ?_
    rw [List.take_of_length_le (by omega)] at hk; exact ⟨l2, B2, D2, hk, hsl2, hab2, hro (L := B2 ++ D2) (by simp only [List.append_assoc]; exact hS.sel (by repeat constructor))⟩
  · (try simp only [cx, ne_eq] at h1)
    try (exfalso; (first | omega | exact h1 trivial | contradiction | (simp at h1; done)); done)
    all_goals
    refine SatC.skip (SatE.thenC ?_)
    refine SatC.seq ?_
    refine SatC.region ?_
    refine SatL.pu (RunV.assign rfl) rfl ?_
    refine SatL.nil (SatE.thenC ?_)
    refine SatC.seq ?_
    refine SatC.seq ?_
    refine SatC.region ?_
    refine SatL.pu (RunV.move rfl) rfl ?_
    first | refine SatL.pu (RunV.nil_ptr rfl) rfl ?_ | refine SatL.pu (RunV.nil_func rfl) rfl ?_ | refine SatL.pu (RunV.nil_yield rfl) rfl ?_
    first | refine SatL.pu (RunV.fieldAddrL rfl rfl rfl) rfl ?_ | refine SatL.pu (RunV.fieldAddr rfl rfl rfl) rfl ?_
    first | refine SatL.pu (RunV.fieldAddrL rfl rfl rfl) rfl ?_ | refine SatL.pu (RunV.fieldAddr rfl rfl rfl) rfl ?_
    refine SatL.pu (RunV.load1 hS rfl rfl (by repeat constructor) rfl) rfl ?_
    first | refine SatL.pu (RunV.lenR (by assumption) rfl rfl) rfl ?_ | refine SatL.pu (RunV.lenS rfl rfl) rfl ?_
    refine SatL.pu (RunV.move rfl) rfl ?_
    refine SatL.nil (SatE.thenC ?_)
    refine SatC.block ?_
    refine SatC.loopK (G := Nat × List Fl × Value × List (Nat × Obj) × List (Nat × Obj)) (V := fun ⟨i, l2, v2, B2, D2⟩ => [(14, .int .i64 (i : Int)), (3, v2)]) (Cn := [(2, _), (12, _), (13, _)]) (I := fun ⟨i, l2, v2, B2, D2⟩ w' => i ≤ l.length ∧ l2.map key = (l.take i).map key ∧ Sl 32 4 v2 (l2.map fr) B2 ∧ AllBd D2 l2 ∧ St w X (B2 ++ (D2 ++ FO b v most given B D)) w') (μ := fun ⟨i, l2, v2, B2, D2⟩ => l.length - i) (0, [], .slice none 0 0, [], []) ?_ (by repeat constructor) ?_
    · exact ⟨Nat.zero_le _, rfl, .nil, (fun x hx => by cases hx), hS.sel (by repeat constructor)⟩
    clear hS
    rintro ⟨i, l2, v2, B2, D2⟩ w2 ⟨hi, hk, hsl2, hab2, hS⟩
    refine SatC.weak (e' := [(2, _), (3, _), (12, _), (13, _), (14, _)]) (by repeat constructor) ?_
    refine SatC.seq ?_
    refine SatC.region ?_
    refine SatL.pu (RunV.lss rfl rfl) rfl ?_
    refine SatL.nil (SatE.thenC ?_)
    refine SatC.seq ?_
    refine SatC.cond rfl (fun h2 => ?_) (fun h2 => ?_)
    · (try simp only [cx, ne_eq] at h2)
      try (exfalso; (first | omega | exact h2 trivial | contradiction | (simp at h2; done)); done)
      all_goals
      refine SatC.skip (SatE.thenC ?_)
      refine SatC.seq ?_
      refine SatC.block ?_
      refine SatC.seq ?_
      obtain ⟨y, hy⟩ := get_some l i (by omega)
      have hyb := hab y (List.mem_of_getElem? hy)
      have hy1 := hyb.1.one
      have hkl : l2.length ≤ i := by have := congrArg List.length hk; simp only [List.length_map, List.length_take] at this; omega
      have htk : l.take (i + 1) = l.take i ++ [y] := by rw [List.take_add_one, hy]; rfl
      refine SatC.region ?_
      first | refine SatL.pu (RunV.indexR (by assumption) rfl rfl rfl (by omega) (by omega) rfl) rfl ?_ | refine SatL.pu (RunV.indexS rfl rfl rfl (by omega) (by omega) rfl) rfl ?_
      first | refine SatL.pu (RunV.loadRNz (RdC.st (by assumption) hS List.not_mem_nil) rfl rfl (by first | assumption | exact map_get (by assumption))) rfl ?_ | refine SatL.pu (RunV.loadRNz (Sl.rd (by assumption) hS (by repeat constructor)) rfl rfl (by first | assumption | exact map_get (by assumption))) rfl ?_
      refine SatL.op rfl (OpW.alloc hS rfl rfl (by repeat constructor) ?_)
      clear hS
      intro b5 w3 _ hS
      refine SatL.op rfl (OpW.store hS rfl rfl (by repeat constructor) (by repeat constructor) (by repeat constructor) rfl (by simp only [List.all_cons, List.all_nil, hy1, Bool.and_true]; rfl) ?_)
      clear hS
      intro w4 hS
      refine SatL.nil (SatE.thenC ?_)
      refine SatC.drawnT 10 hS (hS.sel (R := [(b5, C 32 (fr y))]) (by repeat constructor)) (by kernel_rfl) ?_
      clear hS
      intro w5 hh hS hD
      refine SatD.tk 0 rfl hD (fun _ hw => RunV.move rfl) ?_
      first | refine SatD.tk 1 rfl hD (fun _ hw => RunV.fieldAddrL rfl rfl rfl) ?_ | refine SatD.tk 1 rfl hD (fun _ hw => RunV.fieldAddr rfl rfl rfl) ?_
      refine SatD.tk 2 rfl hD (fun _ hw => RunV.load1 hw rfl rfl (by repeat constructor) rfl) ?_
      first | refine SatD.tk 3 rfl hD (fun _ hw => RunV.fieldAddrL rfl rfl rfl) ?_ | refine SatD.tk 3 rfl hD (fun _ hw => RunV.fieldAddr rfl rfl rfl) ?_
      refine SatD.tk 4 rfl hD (fun _ hw => RunV.loadN hw rfl rfl (by repeat constructor) (by repeat constructor)) ?_
      refine SatD.ef 5 rfl (OpW.enter rfl rfl rfl (rfl) (clone_any y.f y.t y.v y.b (hyb.1.row (fun c hc => hS.own c (by simp [hc])) (by omega)) hyb.2) ?_)
      rintro r6 w6 ⟨bv, BB, rfl, hbb, h⟩
      replace hS := hS.call0 h
      refine keepS (hS.sel (by repeat constructor)) (fun hD => ?_)
      refine SatD.tk 6 rfl hD (fun _ hw => RunV.build rfl (by simp [go_sem]; try rfl)) ?_
      refine SatD.ef 7 rfl (OpW.buildSlice1 hS rfl rfl rfl rfl rfl (by repeat constructor) rfl rfl rfl ?_)
      clear hS
      intro b25 w7 _ hS
      refine keepS (hS.sel (by repeat constructor)) (fun hD => ?_)
      refine SatD.ef 8 rfl (OpW.append1 hsl2 hS (by repeat constructor) rfl rfl (by repeat constructor) rfl rfl rfl rfl rfl rfl rfl (by simp only [List.all_cons, List.all_nil, hbb.one, Bool.and_true]; rfl) (by rw [List.length_map]; omega) rfl ?_)
      clear hS
      intro v26 B26 w8 hsl26 hS
      refine keepS (hS.sel (by repeat constructor)) (fun hD => ?_)
      refine SatD.tk 9 rfl hD (fun _ hw => RunV.assign rfl) ?_
      refine SatD.done 0 (by kernel_rfl) (SatE.blk_normal (SatE.thenC ?_))
      clear hD
      refine SatC.weak (e' := [(2, _), (3, _), (12, _), (13, _), (14, _)]) (by repeat constructor) ?_
      refine SatC.region ?_
      refine SatL.pu (RunV.add rfl rfl (by first | exact wrapI64 (by omega) | rfl)) rfl ?_
      refine SatL.pu (RunV.move rfl) rfl ?_
      refine SatL.nil ?_
      refine SatE.again ((i + 1, l2 ++ [⟨y.id, y.f, y.t, bv, y.b⟩], v26, B26, BB ++ D2)) ?_ (by first | omega | (dsimp only; omega)) (by repeat constructor)
      refine ⟨by omega, ?_, by rw [List.map_append]; exact hsl26, ?_, by simp only [List.append_assoc]; exact hS.sel (by repeat constructor)⟩
      · rw [htk, List.map_append, List.map_append, hk]; rfl
      · intro x hx
        rcases List.mem_append.1 hx with hx | hx
        · exact ⟨(hab2 x hx).1.mono (fun c hc => List.mem_append_right _ hc), (hab2 x hx).2⟩
        · simp only [List.mem_singleton] at hx
          subst hx
          exact ⟨⟨BB, hbb, fun c hc => List.mem_append_left _ hc⟩, hyb.2⟩
    · (try simp only [cx, ne_eq] at h2)
      try (exfalso; (first | omega | exact h2 trivial | contradiction | (simp at h2; done)); done)
      all_goals
      refine SatC.exit (SatE.then_exit (SatE.then_exit (SatE.blk_exit (SatE.thenC ?_))))
      refine SatC.seq ?_
      refine SatC.region ?_
      refine SatL.pu (RunV.move rfl) rfl ?_
      refine SatL.pu (RunV.assign rfl) rfl ?_
      refine SatL.nil (SatE.thenC ?_)
      refine SatC.ret ?_
      refine SatE.ret1 rfl rfl ?_
      rw [List.take_of_length_le (by omega)] at hk; exact ⟨l2, B2, D2, hk, hsl2, hab2, hro (L := B2 ++ D2) (by simp only [List.append_assoc]; exact hS.sel (by repeat constructor))⟩
end
end Go.Proofs.Ytpnkcoahbadnjaa
