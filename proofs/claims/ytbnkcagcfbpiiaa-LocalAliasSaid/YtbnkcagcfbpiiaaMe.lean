/- The document's agent: AddCheck, Add. The document's agent: Tick. -/
import Derived.Test.YtbnkcagcfbpiiaaMd
set_option linter.unusedSimpArgs false
set_option linter.unusedVariables false
set_option maxRecDepth 100000
set_option maxHeartbeats 8000000
namespace Go.Proofs.Ytbnkcagcfbpiiaa
open Go Go.Proofs Go.RowKit
theorem drop_cons {α : Type} {l : List α} {i : Nat} {y : α} (h : l[i]? = some y) : l.drop i = y :: l.drop (i + 1) := by
  obtain ⟨hlt, he⟩ := List.getElem?_eq_some_iff.1 h
  rw [List.drop_eq_getElem_cons hlt, he]
theorem daddc_err {D : Dl} {id sv note : List UInt8} {p : Pl} {b : Nat} {L X} {w w' : World} {K : Int} {Z : Dl → Prop} (e : daddCE D id sv note p = K) (hK : ¬ K = 0) (hw : Dok b D L) (hS : St w X L w') : Value.int .i64 K = .int .i64 (daddCE D id sv note p) ∧ ∃ D' L', (daddCE D id sv note p = 0 → Z D') ∧ (¬ daddCE D id sv note p = 0 → D' = D) ∧ Dok b D' L' ∧ St w X L' w' :=
  ⟨by rw [e], D, L, fun h => absurd (e.symm.trans h) hK, fun _ => rfl, hw, hS⟩
theorem dadd_err {D : Dl} {id name : List UInt8} {tags : List (List UInt8)} {port : Int} {b : Nat} {L X} {w w' : World} {K : Int} {Z : Dl → Prop} (e : daddE D id name tags port = K) (hK : ¬ K = 0) (hw : Dok b D L) (hS : St w X L w') : Value.int .i64 K = .int .i64 (daddE D id name tags port) ∧ ∃ D' L', (daddE D id name tags port = 0 → Z D') ∧ (¬ daddE D id name tags port = 0 → D' = D) ∧ Dok b D' L' ∧ St w X L' w' :=
  ⟨by rw [e], D, L, fun h => absurd (e.symm.trans h) hK, fun _ => rfl, hw, hS⟩
theorem daddCE_few {D : Dl} {id sv note : List UInt8} {p : Pl} (h : daddCE D id sv note p = 0) : ¬ (gt Dc.id D.ch id = none ∧ 16 ≤ D.ch.length) := fun hf => by
  unfold daddCE at h
  rw [if_pos hf] at h
  revert h
  (repeat' split) <;> simp
theorem daddE_few {D : Dl} {id name : List UInt8} {tags : List (List UInt8)} {port : Int} (h : daddE D id name tags port = 0) : ¬ (gt Ds.id D.sv id = none ∧ 16 ≤ D.sv.length) := fun hf => by
  unfold daddE at h
  rw [if_pos hf] at h
  revert h
  (repeat' split) <;> simp
section
variable {b : Nat} {D : Dl} {L : List (Nat × Obj)} {w : World}
theorem daddc_ref (cn st mk ix : Int) (id sv note : List UInt8) (p : Pl) (hnl : note.length ≤ 9223372036854775807) (h : Dok b D L) (hown : Own w L) :
    Ret Try.prog 40 #[.pointer (some ⟨b, 0, none⟩), .agg #[.int .i64 cn, str id, str sv, str note, .int .i64 st, .int .u64 mk, .int .u64 ix], .agg (plc p).toArray] w fun u w' => u = .int .i64 (daddCE D id sv note p) ∧ ∃ D' L', (daddCE D id sv note p = 0 → D' = { D with ch := ins Dc.id ⟨id, sv, note, ck0 p⟩ false D.ch }) ∧ (¬ daddCE D id sv note p = 0 → D' = D) ∧ Dok b D' L' ∧ St w (L.map Prod.fst) L' w' := by
  have hw := h
  obtain ⟨hs16, hc16, hone, hsu, hcu, vs0, cv, SB, CB, hsS, hsC, rfl⟩ := h
  have hS := St.init hown
  generalize hX : List.map Prod.fst ((b, C 44 [.int .i64 D.node, str D.addr, vs0, cv]) :: (SB ++ CB)) = X at hS ⊢
  obtain ⟨vs, hvs⟩ := hsC.slv
  rw [List.length_map] at hvs
  have hfew := ins_few (key := Dc.id) (x := ⟨id, sv, note, ck0 p⟩) (l := D.ch) hc16
  have hnd := ins_nodup (key := Dc.id) (x := ⟨id, sv, note, ck0 p⟩) hcu
  generalize hR : ins Dc.id ⟨id, sv, note, ck0 p⟩ false D.ch = R at hfew hnd ⊢
  refine Ret.enter Try.func40 Try.ntmps40 rfl rfl ?_
  simp only [argEnv, Nat.reduceAdd]
  refine SatC.seq ?_
  refine SatC.region ?_
  refine SatL.op rfl (OpW.box hS rfl rfl (by repeat constructor) ?_)
  clear hS
  intro b4 w1 _ hS
  refine SatL.op rfl (OpW.box hS rfl rfl (by repeat constructor) ?_)
  clear hS
  intro b5 w2 _ hS
  refine SatL.pu (RunV.assign rfl) rfl ?_
  refine SatL.nil (SatE.thenC ?_)
  -- MERGE 3: turned [6]
  refine SatC.merge (G := Nat) (V := fun z => []) (Cn := [(0, _), (4, _), (5, _)]) (I := fun z w' => (okN id = true ∧ (sv = [] ∨ okN sv = true)) ∧ St w X ((b5, C 34 (plc p)) :: (b4, C 32 [.int .i64 cn, str id, str sv, str note, .int .i64 st, .int .u64 mk, .int .u64 ix]) :: (b, C 44 [.int .i64 D.node, str D.addr, vs0, cv]) :: (SB ++ CB)) w') (by repeat constructor) ?_ ?_
  · skip
    refine SatC.seq ?_
    refine SatC.region ?_
    first | refine SatL.pu (RunV.fieldAddrL rfl rfl rfl) rfl ?_ | refine SatL.pu (RunV.fieldAddr rfl rfl rfl) rfl ?_
    refine SatL.pu (RunV.load1 hS rfl rfl (by repeat constructor) rfl) rfl ?_
    refine SatL.op rfl (OpW.enter rfl rfl rfl (rfl) (right_ref _ _) ?_)
    rintro r3 w3 ⟨rfl, h⟩
    replace hS := St.callN hS h
    refine SatL.pu (RunV.not rfl) rfl ?_
    refine SatL.pu (RunV.move rfl) rfl ?_
    refine SatL.guard rfl rfl rfl (fun h1 => ?_) (fun h1 => ?_)
    · (try simp only [cx, ne_eq] at h1)
      try (exfalso; (first | omega | exact h1 trivial | contradiction | (first | omega | (simp at h1; done))); done)
      all_goals
      first | refine SatL.pu (RunV.fieldAddrL rfl rfl rfl) rfl ?_ | refine SatL.pu (RunV.fieldAddr rfl rfl rfl) rfl ?_
      refine SatL.guard_y rfl rfl ?_
      refine SatL.pu (RunV.load1 hS rfl rfl (by repeat constructor) rfl) rfl ?_
      refine SatL.guard_y rfl rfl ?_
      refine SatL.pu (RunV.sneq rfl rfl) rfl ?_
      refine SatL.guard_y rfl rfl ?_
      refine SatL.pu (RunV.move rfl) rfl ?_
      refine SatL.guard rfl rfl rfl (fun h2 => ?_) (fun h2 => ?_)
      · (try simp only [cx, ne_eq] at h2)
        try (exfalso; (first | omega | exact h2 trivial | contradiction | (first | omega | (simp at h2; done))); done)
        all_goals
        first | refine SatL.pu (RunV.fieldAddrL rfl rfl rfl) rfl ?_ | refine SatL.pu (RunV.fieldAddr rfl rfl rfl) rfl ?_
        refine SatL.guard_y rfl rfl ?_
        refine SatL.pu (RunV.load1 hS rfl rfl (by repeat constructor) rfl) rfl ?_
        refine SatL.guard_y rfl rfl ?_
        refine SatL.op rfl (OpW.enter rfl rfl rfl (rfl) (right_ref _ _) ?_)
        rintro r4 w4 ⟨rfl, h⟩
        replace hS := St.callN hS h
        refine SatL.guard_y rfl rfl ?_
        refine SatL.pu (RunV.not rfl) rfl ?_
        refine SatL.guard_y rfl rfl ?_
        refine SatL.pu (RunV.pick_t rfl rfl) rfl ?_
        refine SatL.pu (RunV.pick_f rfl rfl) rfl ?_
        refine SatL.nil (SatE.thenC ?_)
        refine SatC.weak (e' := [(0, _), (4, _), (5, _), (6, _), (25, _)]) (by repeat constructor) ?_
        refine SatC.cond rfl (fun h3 => ?_) (fun h3 => ?_)
        · (try simp only [cx, ne_eq] at h3)
          try (exfalso; (first | omega | exact h3 trivial | contradiction | (first | omega | (simp at h3; done))); done)
          all_goals
          refine SatC.seq ?_
          refine SatC.region ?_
          refine SatL.pu (RunV.assign rfl) rfl ?_
          refine SatL.nil (SatE.thenC ?_)
          refine SatC.ret (SatE.then_ret ?_)
          refine SatE.ret1 rfl rfl ?_
          first
          | exact daddc_err (by unfold daddCE; (repeat' split) <;> first | rfl | (exfalso; simp_all; done) | (exfalso; simp_all; omega) | (exfalso; omega)) (by decide) hw (hS.sel (by repeat constructor))
          | (have hl : laid = false := by assumption
             rw [hl] at hm
             have e2 : m ++ [(⟨id, sv, note, ck0 p⟩ : Dc)] = R := hm
             have e3 : R.map (dcc D.node) = m.map (dcc D.node) ++ [dcc D.node ⟨id, sv, note, ck0 p⟩] := by rw [← e2, List.map_append]; rfl
             replace hsl126 : Sl 87 19 v126 (R.map (dcc D.node)) B126 := by rw [e3]; exact hsl126
             exact ⟨by rw [he], { D with ch := R }, (b, C 44 [.int .i64 D.node, str D.addr, vs0, v126]) :: (SB ++ B126), fun _ => rfl, fun h => absurd he h, ⟨hs16, hfew (daddCE_few he), hone, hsu, hnd, vs0, v126, SB, B126, hsS, hsl126, rfl⟩, hS.sel (by repeat constructor)⟩)
          | (have hl : laid = true := by assumption
             rw [hl] at hm
             have e2 : m = R := by rw [← hm]; exact (List.append_nil m).symm
             rw [e2] at hsa
             exact ⟨by rw [he], { D with ch := R }, (b, C 44 [.int .i64 D.node, str D.addr, vs0, av]) :: (SB ++ AB), fun _ => rfl, fun h => absurd he h, ⟨hs16, hfew (daddCE_few he), hone, hsu, hnd, vs0, av, SB, AB, hsS, hsa, rfl⟩, hS.sel (by repeat constructor)⟩)
        · (try simp only [cx, ne_eq] at h3)
          try (exfalso; (first | omega | exact h3 trivial | contradiction | (first | omega | (simp at h3; done))); done)
          all_goals
          refine SatC.skip ?_
          refine SatE.met (0) ?_ (by repeat constructor)
          exact ⟨⟨by simp_all, by simp_all⟩, hS⟩
      · (try simp only [cx, ne_eq] at h2)
        try (exfalso; (first | omega | exact h2 trivial | contradiction | (first | omega | (simp at h2; done))); done)
        all_goals
        refine SatL.guard_n rfl rfl rfl rfl ?_
        refine SatL.guard_n rfl rfl rfl rfl ?_
        refine SatL.guard_n rfl rfl rfl rfl ?_
        refine SatL.guard_y rfl rfl ?_
        refine SatL.pu (RunV.pick_f rfl rfl) rfl ?_
        refine SatL.pu (RunV.pick_f rfl rfl) rfl ?_
        refine SatL.nil (SatE.thenC ?_)
        refine SatC.weak (e' := [(0, _), (4, _), (5, _), (6, _), (25, _)]) (by repeat constructor) ?_
        refine SatC.cond_f rfl ?_
        refine SatC.skip ?_
        refine SatE.met (0) ?_ (by repeat constructor)
        exact ⟨⟨by simp_all, by simp_all⟩, hS⟩
    · (try simp only [cx, ne_eq] at h1)
      try (exfalso; (first | omega | exact h1 trivial | contradiction | (first | omega | (simp at h1; done))); done)
      all_goals
      refine SatL.guard_n rfl rfl rfl rfl ?_
      refine SatL.guard_n rfl rfl rfl rfl ?_
      refine SatL.guard_n rfl rfl rfl rfl ?_
      refine SatL.guard_u rfl rfl rfl ?_
      refine SatL.guard_u rfl rfl rfl ?_
      refine SatL.guard_u rfl rfl rfl ?_
      refine SatL.guard_u rfl rfl rfl ?_
      refine SatL.guard_n rfl rfl rfl rfl ?_
      refine SatL.pu (RunV.pick_t rfl rfl) rfl ?_
      refine SatL.nil (SatE.thenC ?_)
      refine SatC.weak (e' := [(0, _), (4, _), (5, _), (6, _), (25, _)]) (by repeat constructor) ?_
      refine SatC.cond_t rfl ?_
      refine SatC.seq ?_
      refine SatC.region ?_
      refine SatL.pu (RunV.assign rfl) rfl ?_
      refine SatL.nil (SatE.thenC ?_)
      refine SatC.ret (SatE.then_ret ?_)
      refine SatE.ret1 rfl rfl ?_
      first
      | exact daddc_err (by unfold daddCE; (repeat' split) <;> first | rfl | (exfalso; simp_all; done) | (exfalso; simp_all; omega) | (exfalso; omega)) (by decide) hw (hS.sel (by repeat constructor))
      | (have hl : laid = false := by assumption
         rw [hl] at hm
         have e2 : m ++ [(⟨id, sv, note, ck0 p⟩ : Dc)] = R := hm
         have e3 : R.map (dcc D.node) = m.map (dcc D.node) ++ [dcc D.node ⟨id, sv, note, ck0 p⟩] := by rw [← e2, List.map_append]; rfl
         replace hsl126 : Sl 87 19 v126 (R.map (dcc D.node)) B126 := by rw [e3]; exact hsl126
         exact ⟨by rw [he], { D with ch := R }, (b, C 44 [.int .i64 D.node, str D.addr, vs0, v126]) :: (SB ++ B126), fun _ => rfl, fun h => absurd he h, ⟨hs16, hfew (daddCE_few he), hone, hsu, hnd, vs0, v126, SB, B126, hsS, hsl126, rfl⟩, hS.sel (by repeat constructor)⟩)
      | (have hl : laid = true := by assumption
         rw [hl] at hm
         have e2 : m = R := by rw [← hm]; exact (List.append_nil m).symm
         rw [e2] at hsa
         exact ⟨by rw [he], { D with ch := R }, (b, C 44 [.int .i64 D.node, str D.addr, vs0, av]) :: (SB ++ AB), fun _ => rfl, fun h => absurd he h, ⟨hs16, hfew (daddCE_few he), hone, hsu, hnd, vs0, av, SB, AB, hsS, hsa, rfl⟩, hS.sel (by repeat constructor)⟩)
  · clear hS
    rintro z w63 ⟨hok, hS⟩
    refine SatC.weak (e' := [(0, _), (4, _), (5, _)]) (by repeat constructor) ?_
    refine SatC.seq ?_
    refine SatC.seq ?_
    refine SatC.region ?_
    first | refine SatL.pu (RunV.fieldAddrL rfl rfl rfl) rfl ?_ | refine SatL.pu (RunV.fieldAddr rfl rfl rfl) rfl ?_
    refine SatL.pu (RunV.load1 hS rfl rfl (by repeat constructor) rfl) rfl ?_
    refine SatL.pu (RunV.lenB rfl rfl) rfl ?_
    refine SatL.pu (RunV.gtr rfl rfl) rfl ?_
    refine SatL.nil (SatE.thenC ?_)
    refine SatC.cond rfl (fun h1 => ?_) (fun h1 => ?_)
    · (try simp only [cx, ne_eq] at h1)
      try (exfalso; (first | omega | exact h1 trivial | contradiction | (first | omega | (simp at h1; done))); done)
      all_goals
      refine SatC.seq ?_
      refine SatC.region ?_
      refine SatL.pu (RunV.assign rfl) rfl ?_
      refine SatL.nil (SatE.thenC ?_)
      refine SatC.ret (SatE.then_ret ?_)
      refine SatE.ret1 rfl rfl ?_
      first
      | exact daddc_err (by unfold daddCE; (repeat' split) <;> first | rfl | (exfalso; simp_all; done) | (exfalso; simp_all; omega) | (exfalso; omega)) (by decide) hw (hS.sel (by repeat constructor))
      | (have hl : laid = false := by assumption
         rw [hl] at hm
         have e2 : m ++ [(⟨id, sv, note, ck0 p⟩ : Dc)] = R := hm
         have e3 : R.map (dcc D.node) = m.map (dcc D.node) ++ [dcc D.node ⟨id, sv, note, ck0 p⟩] := by rw [← e2, List.map_append]; rfl
         replace hsl126 : Sl 87 19 v126 (R.map (dcc D.node)) B126 := by rw [e3]; exact hsl126
         exact ⟨by rw [he], { D with ch := R }, (b, C 44 [.int .i64 D.node, str D.addr, vs0, v126]) :: (SB ++ B126), fun _ => rfl, fun h => absurd he h, ⟨hs16, hfew (daddCE_few he), hone, hsu, hnd, vs0, v126, SB, B126, hsS, hsl126, rfl⟩, hS.sel (by repeat constructor)⟩)
      | (have hl : laid = true := by assumption
         rw [hl] at hm
         have e2 : m = R := by rw [← hm]; exact (List.append_nil m).symm
         rw [e2] at hsa
         exact ⟨by rw [he], { D with ch := R }, (b, C 44 [.int .i64 D.node, str D.addr, vs0, av]) :: (SB ++ AB), fun _ => rfl, fun h => absurd he h, ⟨hs16, hfew (daddCE_few he), hone, hsu, hnd, vs0, av, SB, AB, hsS, hsa, rfl⟩, hS.sel (by repeat constructor)⟩)
    · (try simp only [cx, ne_eq] at h1)
      try (exfalso; (first | omega | exact h1 trivial | contradiction | (first | omega | (simp at h1; done))); done)
      all_goals
      refine SatC.skip (SatE.thenC ?_)
      refine SatC.merge (G := Nat) (V := fun z => []) (Cn := [(0, _), (4, _), (5, _)]) (I := fun z w' => (sv = [] ∨ ¬ gt Ds.id D.sv sv = none) ∧ St w X ((b5, C 34 (plc p)) :: (b4, C 32 [.int .i64 cn, str id, str sv, str note, .int .i64 st, .int .u64 mk, .int .u64 ix]) :: (b, C 44 [.int .i64 D.node, str D.addr, vs0, cv]) :: (SB ++ CB)) w') (by repeat constructor) ?_ ?_
      · skip
        refine SatC.seq ?_
        refine SatC.region ?_
        first | refine SatL.pu (RunV.fieldAddrL rfl rfl rfl) rfl ?_ | refine SatL.pu (RunV.fieldAddr rfl rfl rfl) rfl ?_
        refine SatL.pu (RunV.load1 hS rfl rfl (by repeat constructor) rfl) rfl ?_
        refine SatL.pu (RunV.sneq rfl rfl) rfl ?_
        refine SatL.pu (RunV.move rfl) rfl ?_
        refine SatL.guard rfl rfl rfl (fun h2 => ?_) (fun h2 => ?_)
        · (try simp only [cx, ne_eq] at h2)
          try (exfalso; (first | omega | exact h2 trivial | contradiction | (first | omega | (simp at h2; done))); done)
          all_goals
          refine SatL.pu (RunV.move rfl) rfl ?_
          refine SatL.guard_y rfl rfl ?_
          first | refine SatL.pu (RunV.fieldAddrL rfl rfl rfl) rfl ?_ | refine SatL.pu (RunV.fieldAddr rfl rfl rfl) rfl ?_
          refine SatL.guard_y rfl rfl ?_
          refine SatL.pu (RunV.load1 hS rfl rfl (by repeat constructor) rfl) rfl ?_
          refine SatL.guard_y rfl rfl ?_
          refine SatL.op rfl (OpW.enter rfl rfl rfl (rfl) (has_ref sv hw (hS.ownT (A := (b, C 44 [.int .i64 D.node, str D.addr, vs0, cv]) :: (SB ++ CB)) (by repeat constructor))) ?_)
          rintro r64 w64 ⟨rfl, h⟩
          replace hS := St.callN hS h
          refine SatL.guard_y rfl rfl ?_
          refine SatL.pu (RunV.not rfl) rfl ?_
          refine SatL.pu (RunV.pick_t rfl rfl) rfl ?_
          refine SatL.nil (SatE.thenC ?_)
          refine SatC.weak (e' := [(0, _), (4, _), (5, _), (39, _)]) (by repeat constructor) ?_
          refine SatC.cond rfl (fun h3 => ?_) (fun h3 => ?_)
          · (try simp only [cx, ne_eq] at h3)
            try (exfalso; (first | omega | exact h3 trivial | contradiction | (first | omega | (simp at h3; done))); done)
            all_goals
            refine SatC.seq ?_
            refine SatC.region ?_
            refine SatL.pu (RunV.assign rfl) rfl ?_
            refine SatL.nil (SatE.thenC ?_)
            refine SatC.ret (SatE.then_ret ?_)
            refine SatE.ret1 rfl rfl ?_
            first
            | exact daddc_err (by unfold daddCE; (repeat' split) <;> first | rfl | (exfalso; simp_all; done) | (exfalso; simp_all; omega) | (exfalso; omega)) (by decide) hw (hS.sel (by repeat constructor))
            | (have hl : laid = false := by assumption
               rw [hl] at hm
               have e2 : m ++ [(⟨id, sv, note, ck0 p⟩ : Dc)] = R := hm
               have e3 : R.map (dcc D.node) = m.map (dcc D.node) ++ [dcc D.node ⟨id, sv, note, ck0 p⟩] := by rw [← e2, List.map_append]; rfl
               replace hsl126 : Sl 87 19 v126 (R.map (dcc D.node)) B126 := by rw [e3]; exact hsl126
               exact ⟨by rw [he], { D with ch := R }, (b, C 44 [.int .i64 D.node, str D.addr, vs0, v126]) :: (SB ++ B126), fun _ => rfl, fun h => absurd he h, ⟨hs16, hfew (daddCE_few he), hone, hsu, hnd, vs0, v126, SB, B126, hsS, hsl126, rfl⟩, hS.sel (by repeat constructor)⟩)
            | (have hl : laid = true := by assumption
               rw [hl] at hm
               have e2 : m = R := by rw [← hm]; exact (List.append_nil m).symm
               rw [e2] at hsa
               exact ⟨by rw [he], { D with ch := R }, (b, C 44 [.int .i64 D.node, str D.addr, vs0, av]) :: (SB ++ AB), fun _ => rfl, fun h => absurd he h, ⟨hs16, hfew (daddCE_few he), hone, hsu, hnd, vs0, av, SB, AB, hsS, hsa, rfl⟩, hS.sel (by repeat constructor)⟩)
          · (try simp only [cx, ne_eq] at h3)
            try (exfalso; (first | omega | exact h3 trivial | contradiction | (first | omega | (simp at h3; done))); done)
            all_goals
            refine SatC.skip ?_
            refine SatE.met (0) ?_ (by repeat constructor)
            exact ⟨by first | (left; assumption) | (right; intro e; simp_all), hS⟩
        · (try simp only [cx, ne_eq] at h2)
          try (exfalso; (first | omega | exact h2 trivial | contradiction | (first | omega | (simp at h2; done))); done)
          all_goals
          refine SatL.guard_n rfl rfl rfl rfl ?_
          refine SatL.guard_n rfl rfl rfl rfl ?_
          refine SatL.guard_n rfl rfl rfl rfl ?_
          refine SatL.guard_n rfl rfl rfl rfl ?_
          refine SatL.pu (RunV.pick_f rfl rfl) rfl ?_
          refine SatL.nil (SatE.thenC ?_)
          refine SatC.weak (e' := [(0, _), (4, _), (5, _), (39, _)]) (by repeat constructor) ?_
          refine SatC.cond_f rfl ?_
          refine SatC.skip ?_
          refine SatE.met (0) ?_ (by repeat constructor)
          exact ⟨by first | (left; assumption) | (right; intro e; simp_all), hS⟩
      · clear hS
        rintro z w124 ⟨hsv, hS⟩
        refine SatC.weak (e' := [(0, _), (4, _), (5, _)]) (by repeat constructor) ?_
        refine SatC.seq ?_
        refine SatC.seq ?_
        refine SatC.region ?_
        refine SatL.pu (RunV.loadN hS rfl rfl (by repeat constructor) (by repeat constructor)) rfl ?_
        refine SatL.op rfl (OpW.enter rfl rfl rfl (rfl) (pright_ref p _) ?_)
        rintro r125 w125 ⟨rfl, h⟩
        replace hS := St.callN hS h
        refine SatL.pu (RunV.not rfl) rfl ?_
        refine SatL.nil (SatE.thenC ?_)
        refine SatC.cond rfl (fun h2 => ?_) (fun h2 => ?_)
        · (try simp only [cx, ne_eq] at h2)
          try (exfalso; (first | omega | exact h2 trivial | contradiction | (first | omega | (simp at h2; done))); done)
          all_goals
          refine SatC.seq ?_
          refine SatC.region ?_
          refine SatL.pu (RunV.assign rfl) rfl ?_
          refine SatL.nil (SatE.thenC ?_)
          refine SatC.ret (SatE.then_ret ?_)
          refine SatE.ret1 rfl rfl ?_
          first
          | exact daddc_err (by unfold daddCE; (repeat' split) <;> first | rfl | (exfalso; simp_all; done) | (exfalso; simp_all; omega) | (exfalso; omega)) (by decide) hw (hS.sel (by repeat constructor))
          | (have hl : laid = false := by assumption
             rw [hl] at hm
             have e2 : m ++ [(⟨id, sv, note, ck0 p⟩ : Dc)] = R := hm
             have e3 : R.map (dcc D.node) = m.map (dcc D.node) ++ [dcc D.node ⟨id, sv, note, ck0 p⟩] := by rw [← e2, List.map_append]; rfl
             replace hsl126 : Sl 87 19 v126 (R.map (dcc D.node)) B126 := by rw [e3]; exact hsl126
             exact ⟨by rw [he], { D with ch := R }, (b, C 44 [.int .i64 D.node, str D.addr, vs0, v126]) :: (SB ++ B126), fun _ => rfl, fun h => absurd he h, ⟨hs16, hfew (daddCE_few he), hone, hsu, hnd, vs0, v126, SB, B126, hsS, hsl126, rfl⟩, hS.sel (by repeat constructor)⟩)
          | (have hl : laid = true := by assumption
             rw [hl] at hm
             have e2 : m = R := by rw [← hm]; exact (List.append_nil m).symm
             rw [e2] at hsa
             exact ⟨by rw [he], { D with ch := R }, (b, C 44 [.int .i64 D.node, str D.addr, vs0, av]) :: (SB ++ AB), fun _ => rfl, fun h => absurd he h, ⟨hs16, hfew (daddCE_few he), hone, hsu, hnd, vs0, av, SB, AB, hsS, hsa, rfl⟩, hS.sel (by repeat constructor)⟩)
        · (try simp only [cx, ne_eq] at h2)
          try (exfalso; (first | omega | exact h2 trivial | contradiction | (first | omega | (simp at h2; done))); done)
          all_goals
          refine SatC.skip (SatE.thenC ?_)
          refine SatC.merge (G := Nat) (V := fun z => []) (Cn := [(0, _), (4, _), (5, _)]) (I := fun z w' => daddCE D id sv note p = 0 ∧ St w X ((b5, C 34 (plc p)) :: (b4, C 32 [.int .i64 cn, str id, str sv, str note, .int .i64 st, .int .u64 mk, .int .u64 ix]) :: (b, C 44 [.int .i64 D.node, str D.addr, vs0, cv]) :: (SB ++ CB)) w') (by repeat constructor) ?_ ?_
          · skip
            refine SatC.seq ?_
            refine SatC.region ?_
            refine SatL.pu (RunV.move rfl) rfl ?_
            first | refine SatL.pu (RunV.fieldAddrL rfl rfl rfl) rfl ?_ | refine SatL.pu (RunV.fieldAddr rfl rfl rfl) rfl ?_
            refine SatL.pu (RunV.load1 hS rfl rfl (by repeat constructor) rfl) rfl ?_
            refine SatL.op rfl (OpW.enter rfl rfl rfl (rfl) (find_ref id hw (hS.ownT (A := (b, C 44 [.int .i64 D.node, str D.addr, vs0, cv]) :: (SB ++ CB)) (by repeat constructor))) ?_)
            rintro r126 w126 ⟨fi, rfl, hF, h⟩
            replace hS := St.callN hS h
            replace hF := fnd_neg hF
            refine SatL.pu (RunV.lss rfl rfl) rfl ?_
            refine SatL.pu (RunV.move rfl) rfl ?_
            refine SatL.guard rfl rfl rfl (fun h3 => ?_) (fun h3 => ?_)
            · (try simp only [cx, ne_eq] at h3)
              try (exfalso; (first | omega | exact h3 trivial | contradiction | (first | omega | (simp at h3; done))); done)
              all_goals
              refine SatL.pu (RunV.move rfl) rfl ?_
              refine SatL.guard_y rfl rfl ?_
              first | refine SatL.pu (RunV.nil_ptr rfl) rfl ?_ | refine SatL.pu (RunV.nil_func rfl) rfl ?_ | refine SatL.pu (RunV.nil_yield rfl) rfl ?_
              refine SatL.guard_y rfl rfl ?_
              first | refine SatL.pu (RunV.fieldAddrL rfl rfl rfl) rfl ?_ | refine SatL.pu (RunV.fieldAddr rfl rfl rfl) rfl ?_
              refine SatL.guard_y rfl rfl ?_
              refine SatL.pu (RunV.load1 hS rfl rfl (by repeat constructor) rfl) rfl ?_
              refine SatL.guard_y rfl rfl ?_
              first | refine SatL.pu (RunV.lenR (by assumption) rfl rfl) rfl ?_ | refine SatL.pu (RunV.lenS rfl rfl) rfl ?_
              refine SatL.guard_y rfl rfl ?_
              refine SatL.pu (RunV.geq rfl rfl) rfl ?_
              refine SatL.pu (RunV.pick_t rfl rfl) rfl ?_
              refine SatL.nil (SatE.thenC ?_)
              refine SatC.weak (e' := [(0, _), (4, _), (5, _), (55, _)]) (by repeat constructor) ?_
              refine SatC.cond rfl (fun h4 => ?_) (fun h4 => ?_)
              · (try simp only [cx, ne_eq] at h4)
                try (exfalso; (first | omega | exact h4 trivial | contradiction | (first | omega | (simp at h4; done))); done)
                all_goals
                refine SatC.seq ?_
                refine SatC.region ?_
                refine SatL.pu (RunV.assign rfl) rfl ?_
                refine SatL.nil (SatE.thenC ?_)
                refine SatC.ret (SatE.then_ret ?_)
                refine SatE.ret1 rfl rfl ?_
                first
                | exact daddc_err (by unfold daddCE; (repeat' split) <;> first | rfl | (exfalso; simp_all; done) | (exfalso; simp_all; omega) | (exfalso; omega)) (by decide) hw (hS.sel (by repeat constructor))
                | (have hl : laid = false := by assumption
                   rw [hl] at hm
                   have e2 : m ++ [(⟨id, sv, note, ck0 p⟩ : Dc)] = R := hm
                   have e3 : R.map (dcc D.node) = m.map (dcc D.node) ++ [dcc D.node ⟨id, sv, note, ck0 p⟩] := by rw [← e2, List.map_append]; rfl
                   replace hsl126 : Sl 87 19 v126 (R.map (dcc D.node)) B126 := by rw [e3]; exact hsl126
                   exact ⟨by rw [he], { D with ch := R }, (b, C 44 [.int .i64 D.node, str D.addr, vs0, v126]) :: (SB ++ B126), fun _ => rfl, fun h => absurd he h, ⟨hs16, hfew (daddCE_few he), hone, hsu, hnd, vs0, v126, SB, B126, hsS, hsl126, rfl⟩, hS.sel (by repeat constructor)⟩)
                | (have hl : laid = true := by assumption
                   rw [hl] at hm
                   have e2 : m = R := by rw [← hm]; exact (List.append_nil m).symm
                   rw [e2] at hsa
                   exact ⟨by rw [he], { D with ch := R }, (b, C 44 [.int .i64 D.node, str D.addr, vs0, av]) :: (SB ++ AB), fun _ => rfl, fun h => absurd he h, ⟨hs16, hfew (daddCE_few he), hone, hsu, hnd, vs0, av, SB, AB, hsS, hsa, rfl⟩, hS.sel (by repeat constructor)⟩)
              · (try simp only [cx, ne_eq] at h4)
                try (exfalso; (first | omega | exact h4 trivial | contradiction | (first | omega | (simp at h4; done))); done)
                all_goals
                refine SatC.skip ?_
                refine SatE.met (0) ?_ (by repeat constructor)
                exact ⟨(by unfold daddCE; (repeat' split) <;> first | rfl | (exfalso; simp_all; done) | (exfalso; simp_all; omega) | (exfalso; omega)), hS⟩
            · (try simp only [cx, ne_eq] at h3)
              try (exfalso; (first | omega | exact h3 trivial | contradiction | (first | omega | (simp at h3; done))); done)
              all_goals
              refine SatL.guard_n rfl rfl rfl rfl ?_
              refine SatL.guard_n rfl rfl rfl rfl ?_
              refine SatL.guard_n rfl rfl rfl rfl ?_
              refine SatL.guard_n rfl rfl rfl rfl ?_
              refine SatL.guard_n rfl rfl rfl rfl ?_
              refine SatL.pu (RunV.pick_f rfl rfl) rfl ?_
              refine SatL.nil (SatE.thenC ?_)
              refine SatC.weak (e' := [(0, _), (4, _), (5, _), (55, _)]) (by repeat constructor) ?_
              refine SatC.cond_f rfl ?_
              refine SatC.skip ?_
              refine SatE.met (0) ?_ (by repeat constructor)
              exact ⟨(by unfold daddCE; (repeat' split) <;> first | rfl | (exfalso; simp_all; done) | (exfalso; simp_all; omega) | (exfalso; omega)), hS⟩
          · clear hS
            rintro z w186 ⟨he, hS⟩
            refine SatC.weak (e' := [(0, _), (4, _), (5, _)]) (by repeat constructor) ?_
            refine SatC.seq ?_
            refine SatC.drawnT 15 hS (hS) (by kernel_rfl) ?_
            clear hS
            intro w187 hh hS hD
            refine SatD.tk 0 rfl hD (fun _ hw => RunV.move rfl) ?_
            first | refine SatD.tk 1 rfl hD (fun _ hw => RunV.nil_ptr rfl) ?_ | refine SatD.tk 1 rfl hD (fun _ hw => RunV.nil_func rfl) ?_ | refine SatD.tk 1 rfl hD (fun _ hw => RunV.nil_yield rfl) ?_
            first | refine SatD.tk 2 rfl hD (fun _ hw => RunV.fieldAddrL rfl rfl rfl) ?_ | refine SatD.tk 2 rfl hD (fun _ hw => RunV.fieldAddr rfl rfl rfl) ?_
            refine SatD.tk 3 rfl hD (fun _ hw => RunV.load1 hw rfl rfl (by repeat constructor) rfl) ?_
            first | refine SatD.tk 4 rfl hD (fun _ hw => RunV.fieldAddrL rfl rfl rfl) ?_ | refine SatD.tk 4 rfl hD (fun _ hw => RunV.fieldAddr rfl rfl rfl) ?_
            refine SatD.tk 5 rfl hD (fun _ hw => RunV.load1 hw rfl rfl (by repeat constructor) rfl) ?_
            first | refine SatD.tk 6 rfl hD (fun _ hw => RunV.fieldAddrL rfl rfl rfl) ?_ | refine SatD.tk 6 rfl hD (fun _ hw => RunV.fieldAddr rfl rfl rfl) ?_
            refine SatD.tk 7 rfl hD (fun _ hw => RunV.load1 hw rfl rfl (by repeat constructor) rfl) ?_
            first | refine SatD.tk 8 rfl hD (fun _ hw => RunV.fieldAddrL rfl rfl rfl) ?_ | refine SatD.tk 8 rfl hD (fun _ hw => RunV.fieldAddr rfl rfl rfl) ?_
            refine SatD.tk 9 rfl hD (fun _ hw => RunV.load1 hw rfl rfl (by repeat constructor) rfl) ?_
            refine SatD.tk 10 rfl hD (fun _ hw => RunV.build rfl (by simp [go_sem]; try rfl)) ?_
            refine SatD.tk 11 rfl hD (fun _ hw => RunV.loadN hw rfl rfl (by repeat constructor) (by repeat constructor)) ?_
            refine SatD.tk 12 rfl hD (fun _ hw => RunV.build rfl (by simp [go_sem]; try rfl)) ?_
            refine SatD.tk 13 rfl hD (fun _ hw => RunV.build rfl (by simp [go_sem]; try rfl)) ?_
            refine SatD.ef 14 rfl (OpW.alloc hS rfl rfl (by repeat constructor) ?_)
            clear hS
            intro b7 w188 _ hS
            refine keepS (hS.sel (by repeat constructor)) (fun hD => ?_)
            refine SatD.effF (by kernel_rfl) rfl rfl (OpW.store hS rfl rfl (by repeat constructor) (by repeat constructor) (by repeat constructor) rfl rfl ?_)
            clear hS
            intro w189 hS
            refine SatD.done 0 (by kernel_rfl) (SatE.thenC ?_)
            clear hD
            refine SatC.seq ?_
            refine SatC.weak (e' := [(0, _), (4, _), (7, _)]) (by repeat constructor) ?_
            refine SatC.region ?_
            refine SatL.pu (RunV.assign rfl) rfl ?_
            refine SatL.nil (SatE.thenC ?_)
            refine SatC.seq ?_
            refine SatC.region ?_
            refine SatL.pu (RunV.assign rfl) rfl ?_
            refine SatL.nil (SatE.thenC ?_)
            refine SatC.seq ?_
            refine SatC.seq ?_
            refine SatC.region ?_
            refine SatL.pu (RunV.assign rfl) rfl ?_
            refine SatL.nil (SatE.thenC ?_)
            refine SatC.block ?_
            refine SatC.loopK (G := Nat × Bool × List Dc × Value × List (Nat × Obj)) (V := fun ⟨i, laid, m, av, AB⟩ => [(10, .int .i64 (i : Int)), (8, av), (9, .bool laid)]) (Cn := [(0, _), (4, _), (7, _)]) (I := fun ⟨i, laid, m, av, AB⟩ w' => i ≤ D.ch.length ∧ m.length ≤ i + laid.toNat ∧ m ++ ins Dc.id (⟨id, sv, note, ck0 p⟩ : Dc) laid (D.ch.drop i) = R ∧ Sl 87 19 av (m.map (dcc D.node)) AB ∧ St w X (AB ++ (b7, C 87 (dcc D.node (⟨id, sv, note, ck0 p⟩ : Dc))) :: (b4, C 32 [.int .i64 cn, str id, str sv, str note, .int .i64 st, .int .u64 mk, .int .u64 ix]) :: (b, C 44 [.int .i64 D.node, str D.addr, vs0, cv]) :: (SB ++ CB)) w') (μ := fun ⟨i, laid, m, av, AB⟩ => D.ch.length - i) (0, false, [], .slice none 0 0, []) ?_ (by repeat constructor) ?_
            · exact ⟨Nat.zero_le _, by simp, by rw [List.drop_zero]; exact hR, .nil, hS.sel (by repeat constructor)⟩
            clear hS
            rintro ⟨i, laid, m, av, AB⟩ w190 ⟨hi, hml, hm, hsa, hS⟩
            refine SatC.weak (e' := [(0, _), (4, _), (7, _), (8, _), (9, _), (10, _)]) (by repeat constructor) ?_
            refine SatC.seq ?_
            refine SatC.seq ?_
            refine SatC.region ?_
            refine SatL.pu (RunV.move rfl) rfl ?_
            refine SatL.pu (RunV.move rfl) rfl ?_
            first | refine SatL.pu (RunV.nil_ptr rfl) rfl ?_ | refine SatL.pu (RunV.nil_func rfl) rfl ?_ | refine SatL.pu (RunV.nil_yield rfl) rfl ?_
            first | refine SatL.pu (RunV.fieldAddrL rfl rfl rfl) rfl ?_ | refine SatL.pu (RunV.fieldAddr rfl rfl rfl) rfl ?_
            refine SatL.pu (RunV.load1 hS rfl rfl (by repeat constructor) rfl) rfl ?_
            first | refine SatL.pu (RunV.lenR (by assumption) rfl rfl) rfl ?_ | refine SatL.pu (RunV.lenS rfl rfl) rfl ?_
            refine SatL.pu (RunV.lss rfl rfl) rfl ?_
            refine SatL.nil (SatE.thenC ?_)
            refine SatC.cond rfl (fun h3 => ?_) (fun h3 => ?_)
            · (try simp only [cx, ne_eq] at h3)
              try (exfalso; (first | omega | exact h3 trivial | contradiction | (first | omega | (simp at h3; done))); done)
              all_goals
              refine SatC.skip (SatE.thenC ?_)
              refine SatC.seq ?_
              refine SatC.block ?_
              refine SatC.seq ?_
              refine SatC.seq ?_
              obtain ⟨y, hy⟩ : ∃ y, D.ch[i]? = some y := ⟨_, List.getElem?_eq_getElem (by omega)⟩
              rw [drop_cons hy] at hm
              have hlb := Bool.toNat_le laid
              refine SatC.drawnT 12 hS (hS) (by kernel_rfl) ?_
              clear hS
              intro w191 hh hS hD
              refine SatD.tk 0 rfl hD (fun _ hw => RunV.move rfl) ?_
              first | refine SatD.tk 1 rfl hD (fun _ hw => RunV.nil_ptr rfl) ?_ | refine SatD.tk 1 rfl hD (fun _ hw => RunV.nil_func rfl) ?_ | refine SatD.tk 1 rfl hD (fun _ hw => RunV.nil_yield rfl) ?_
              first | refine SatD.tk 2 rfl hD (fun _ hw => RunV.fieldAddrL rfl rfl rfl) ?_ | refine SatD.tk 2 rfl hD (fun _ hw => RunV.fieldAddr rfl rfl rfl) ?_
              refine SatD.tk 3 rfl hD (fun _ hw => RunV.load1 hw rfl rfl (by repeat constructor) rfl) ?_
              refine SatD.tk 4 rfl hD (fun _ hw => RunV.move rfl) ?_
              first | refine SatD.tk 5 rfl hD (fun _ hw => RunV.indexR (by assumption) rfl rfl rfl (by omega) (by omega) rfl) ?_ | refine SatD.tk 5 rfl hD (fun _ hw => RunV.indexS rfl rfl rfl (by omega) (by omega) rfl) ?_
              first | refine SatD.tk 6 rfl hD (fun _ hw => RunV.fieldAddrL rfl rfl rfl) ?_ | refine SatD.tk 6 rfl hD (fun _ hw => RunV.fieldAddr rfl rfl rfl) ?_
              first | refine SatD.tk 7 rfl hD (fun _ hw => RunV.fieldAddrL rfl rfl rfl) ?_ | refine SatD.tk 7 rfl hD (fun _ hw => RunV.fieldAddr rfl rfl rfl) ?_
              refine SatD.tk 8 rfl hD (fun _ hw => RunV.loadR1g i 1 (Sl.rd hsC hw (by repeat constructor)) rfl rfl (by omega) (map_get hy) rfl) ?_
              first | refine SatD.tk 9 rfl hD (fun _ hw => RunV.fieldAddrL rfl rfl rfl) ?_ | refine SatD.tk 9 rfl hD (fun _ hw => RunV.fieldAddr rfl rfl rfl) ?_
              refine SatD.tk 10 rfl hD (fun _ hw => RunV.load1 hw rfl rfl (by repeat constructor) rfl) ?_
              refine SatD.tk 11 rfl hD (fun _ hw => RunV.seql rfl rfl) ?_
              refine SatD.done 0 (by kernel_rfl) (SatE.thenC ?_)
              clear hD
              refine SatC.weak (e' := [(0, _), (4, _), (7, _), (8, _), (9, _), (10, _), (90, _)]) (by repeat constructor) ?_
              refine SatC.cond rfl (fun h4 => ?_) (fun h4 => ?_)
              · (try simp only [cx, ne_eq] at h4)
                try (exfalso; (first | omega | exact h4 trivial | contradiction | (first | omega | (simp at h4; done))); done)
                all_goals
                refine SatC.exit (SatE.then_exit (SatE.blk_exit (SatE.thenC ?_)))
                refine SatC.region ?_
                refine SatL.pu (RunV.move rfl) rfl ?_
                refine SatL.pu (RunV.add rfl rfl (by first | exact wrapI64 (by omega) | rfl)) rfl ?_
                refine SatL.pu (RunV.assign rfl) rfl ?_
                refine SatL.nil ?_
                refine SatE.again ((i + 1, laid, m, av, AB)) ?_ (by first | omega | (dsimp only; omega)) (by repeat constructor)
                refine ⟨by omega, by omega, ?_, hsa, hS.sel (by repeat constructor)⟩
                rw [ins_eq (by assumption)] at hm
                exact hm
              · (try simp only [cx, ne_eq] at h4)
                try (exfalso; (first | omega | exact h4 trivial | contradiction | (first | omega | (simp at h4; done))); done)
                all_goals
                refine SatC.skip (SatE.thenC ?_)
                refine SatC.seq ?_
                refine SatC.seq ?_
                refine SatC.drawnT 16 hS (hS) (by kernel_rfl) ?_
                clear hS
                intro w192 hh hS hD
                refine SatD.tk 0 rfl hD (fun _ hw => RunV.move rfl) ?_
                refine SatD.tk 1 rfl hD (fun _ hw => RunV.not rfl) ?_
                refine SatD.tk 2 rfl hD (fun _ hw => RunV.move rfl) ?_
                refine SatD.ways 93 rfl (fun h5 => ?_) (fun h5 => ?_)
                · (try simp only [cx, ne_eq] at h5)
                  try (exfalso; (first | omega | exact h5 trivial | contradiction | (first | omega | (simp at h5; done))); done)
                  all_goals
                  refine SatD.tk 3 rfl hD (fun _ hw => RunV.move rfl) ?_
                  first | refine SatD.tk 4 rfl hD (fun _ hw => RunV.nil_ptr rfl) ?_ | refine SatD.tk 4 rfl hD (fun _ hw => RunV.nil_func rfl) ?_ | refine SatD.tk 4 rfl hD (fun _ hw => RunV.nil_yield rfl) ?_
                  first | refine SatD.tk 5 rfl hD (fun _ hw => RunV.fieldAddrL rfl rfl rfl) ?_ | refine SatD.tk 5 rfl hD (fun _ hw => RunV.fieldAddr rfl rfl rfl) ?_
                  refine SatD.tk 6 rfl hD (fun _ hw => RunV.load1 hw rfl rfl (by repeat constructor) rfl) ?_
                  refine SatD.tk 7 rfl hD (fun _ hw => RunV.move rfl) ?_
                  first | refine SatD.tk 8 rfl hD (fun _ hw => RunV.indexR (by assumption) rfl rfl rfl (by omega) (by omega) rfl) ?_ | refine SatD.tk 8 rfl hD (fun _ hw => RunV.indexS rfl rfl rfl (by omega) (by omega) rfl) ?_
                  first | refine SatD.tk 9 rfl hD (fun _ hw => RunV.fieldAddrL rfl rfl rfl) ?_ | refine SatD.tk 9 rfl hD (fun _ hw => RunV.fieldAddr rfl rfl rfl) ?_
                  first | refine SatD.tk 10 rfl hD (fun _ hw => RunV.fieldAddrL rfl rfl rfl) ?_ | refine SatD.tk 10 rfl hD (fun _ hw => RunV.fieldAddr rfl rfl rfl) ?_
                  refine SatD.tk 11 rfl hD (fun _ hw => RunV.loadR1g i 1 (Sl.rd hsC hw (by repeat constructor)) rfl rfl (by omega) (map_get hy) rfl) ?_
                  first | refine SatD.tk 12 rfl hD (fun _ hw => RunV.fieldAddrL rfl rfl rfl) ?_ | refine SatD.tk 12 rfl hD (fun _ hw => RunV.fieldAddr rfl rfl rfl) ?_
                  refine SatD.tk 13 rfl hD (fun _ hw => RunV.load1 hw rfl rfl (by repeat constructor) rfl) ?_
                  refine SatD.tk 14 rfl hD (fun _ hw => RunV.sgtr rfl rfl) ?_
                  refine SatD.tk 15 rfl hD (fun _ hw => RunV.pick_t rfl rfl) ?_
                  refine SatD.done 0 (by kernel_rfl) (SatE.thenC ?_)
                  clear hD
                  refine SatC.weak (e' := [(0, _), (4, _), (7, _), (8, _), (9, _), (10, _), (106, _)]) (by repeat constructor) ?_
                  refine SatC.cond rfl (fun h6 => ?_) (fun h6 => ?_)
                  · (try simp only [cx, ne_eq] at h6)
                    try (exfalso; (first | omega | exact h6 trivial | contradiction | (first | omega | (simp at h6; done))); done)
                    all_goals
                    refine SatC.seq ?_
                    refine SatC.region ?_
                    refine SatL.pu (RunV.move rfl) rfl ?_
                    refine SatL.pu (RunV.loadN hS rfl rfl (by repeat constructor) (by repeat constructor)) rfl ?_
                    refine SatL.op rfl (OpW.buildSlice1 hS rfl rfl rfl rfl rfl (by repeat constructor) rfl rfl rfl ?_)
                    clear hS
                    intro b109 w193 _ hS
                    refine SatL.op rfl (OpW.append1 hsa hS (by repeat constructor) rfl rfl (by repeat constructor) rfl rfl rfl rfl rfl rfl rfl rfl (by rw [List.length_map]; omega) rfl ?_)
                    clear hS
                    intro v110 B110 w194 hsl110 hS
                    refine SatL.pu (RunV.assign rfl) rfl ?_
                    refine SatL.nil (SatE.thenC ?_)
                    refine SatC.region ?_
                    refine SatL.pu (RunV.assign rfl) rfl ?_
                    refine SatL.nil (SatE.thenC ?_)
                    refine SatC.region ?_
                    refine SatL.pu (RunV.move rfl) rfl ?_
                    refine SatL.pu (RunV.move rfl) rfl ?_
                    first | refine SatL.pu (RunV.nil_ptr rfl) rfl ?_ | refine SatL.pu (RunV.nil_func rfl) rfl ?_ | refine SatL.pu (RunV.nil_yield rfl) rfl ?_
                    first | refine SatL.pu (RunV.fieldAddrL rfl rfl rfl) rfl ?_ | refine SatL.pu (RunV.fieldAddr rfl rfl rfl) rfl ?_
                    refine SatL.pu (RunV.load1 hS rfl rfl (by repeat constructor) rfl) rfl ?_
                    refine SatL.pu (RunV.move rfl) rfl ?_
                    first | refine SatL.pu (RunV.indexR (by assumption) rfl rfl rfl (by omega) (by omega) rfl) rfl ?_ | refine SatL.pu (RunV.indexS rfl rfl rfl (by omega) (by omega) rfl) rfl ?_
                    refine SatL.pu (RunV.loadRNz (Sl.rd hsC hS (by repeat constructor)) rfl rfl (map_get hy)) rfl ?_
                    refine SatL.op rfl (OpW.buildSlice1 hS rfl rfl rfl rfl rfl (by repeat constructor) rfl rfl rfl ?_)
                    clear hS
                    intro b119 w195 _ hS
                    refine SatL.op rfl (OpW.append1 hsl110 hS (by repeat constructor) rfl rfl (by repeat constructor) rfl rfl rfl rfl rfl rfl rfl rfl (by rw [List.length_append, List.length_map, List.length_singleton]; omega) rfl ?_)
                    clear hS
                    intro v120 B120 w196 hsl120 hS
                    refine SatL.pu (RunV.assign rfl) rfl ?_
                    refine SatL.nil (SatE.blk_normal (SatE.thenC ?_))
                    refine SatC.weak (e' := [(0, _), (4, _), (7, _), (8, _), (9, _), (10, _)]) (by repeat constructor) ?_
                    refine SatC.region ?_
                    refine SatL.pu (RunV.move rfl) rfl ?_
                    refine SatL.pu (RunV.add rfl rfl (by first | exact wrapI64 (by omega) | rfl)) rfl ?_
                    refine SatL.pu (RunV.assign rfl) rfl ?_
                    refine SatL.nil ?_
                    refine SatE.again ((i + 1, true, m ++ [(⟨id, sv, note, ck0 p⟩ : Dc), y], v120, B120)) ?_ (by first | omega | (dsimp only; omega)) (by repeat constructor)
                    refine ⟨by omega, by (have e : laid = false := by assumption); rw [e] at hml; simp at hml ⊢; omega, ?_, ?_, hS.sel (by repeat constructor)⟩
                    · rw [ins_lt (by assumption) ⟨by assumption, by assumption⟩] at hm
                      rw [List.append_assoc]
                      exact hm
                    · rw [List.append_assoc] at hsl120
                      rw [List.map_append]
                      exact hsl120
                  · (try simp only [cx, ne_eq] at h6)
                    try (exfalso; (first | omega | exact h6 trivial | contradiction | (first | omega | (simp at h6; done))); done)
                    all_goals
                    refine SatC.skip (SatE.thenC ?_)
                    refine SatC.region ?_
                    refine SatL.pu (RunV.move rfl) rfl ?_
                    refine SatL.pu (RunV.move rfl) rfl ?_
                    first | refine SatL.pu (RunV.nil_ptr rfl) rfl ?_ | refine SatL.pu (RunV.nil_func rfl) rfl ?_ | refine SatL.pu (RunV.nil_yield rfl) rfl ?_
                    first | refine SatL.pu (RunV.fieldAddrL rfl rfl rfl) rfl ?_ | refine SatL.pu (RunV.fieldAddr rfl rfl rfl) rfl ?_
                    refine SatL.pu (RunV.load1 hS rfl rfl (by repeat constructor) rfl) rfl ?_
                    refine SatL.pu (RunV.move rfl) rfl ?_
                    first | refine SatL.pu (RunV.indexR (by assumption) rfl rfl rfl (by omega) (by omega) rfl) rfl ?_ | refine SatL.pu (RunV.indexS rfl rfl rfl (by omega) (by omega) rfl) rfl ?_
                    refine SatL.pu (RunV.loadRNz (Sl.rd hsC hS (by repeat constructor)) rfl rfl (map_get hy)) rfl ?_
                    refine SatL.op rfl (OpW.buildSlice1 hS rfl rfl rfl rfl rfl (by repeat constructor) rfl rfl rfl ?_)
                    clear hS
                    intro b119 w193 _ hS
                    refine SatL.op rfl (OpW.append1 hsa hS (by repeat constructor) rfl rfl (by repeat constructor) rfl rfl rfl rfl rfl rfl rfl rfl (by rw [List.length_map]; omega) rfl ?_)
                    clear hS
                    intro v121 B121 w194 hsl121 hS
                    refine SatL.pu (RunV.assign rfl) rfl ?_
                    refine SatL.nil (SatE.blk_normal (SatE.thenC ?_))
                    refine SatC.region ?_
                    refine SatL.pu (RunV.move rfl) rfl ?_
                    refine SatL.pu (RunV.add rfl rfl (by first | exact wrapI64 (by omega) | rfl)) rfl ?_
                    refine SatL.pu (RunV.assign rfl) rfl ?_
                    refine SatL.nil ?_
                    refine SatE.again ((i + 1, laid, m ++ [y], v121, B121)) ?_ (by first | omega | (dsimp only; omega)) (by repeat constructor)
                    refine ⟨by omega, by simp; omega, ?_, by rw [List.map_append]; exact hsl121, hS.sel (by repeat constructor)⟩
                    rw [ins_go (by assumption) (fun h => by have h2 := h.2; first | contradiction | simp_all)] at hm
                    rw [List.append_assoc]
                    exact hm
                · (try simp only [cx, ne_eq] at h5)
                  try (exfalso; (first | omega | exact h5 trivial | contradiction | (first | omega | (simp at h5; done))); done)
                  all_goals
                  refine SatD.sk 3 rfl [] hD ?_
                  refine SatD.sk 4 rfl [] hD ?_
                  refine SatD.sk 5 rfl [] hD ?_
                  refine SatD.sk 6 rfl [] hD ?_
                  refine SatD.sk 7 rfl [] hD ?_
                  refine SatD.sk 8 rfl [] hD ?_
                  refine SatD.sk 9 rfl [] hD ?_
                  refine SatD.sk 10 rfl [] hD ?_
                  refine SatD.sk 11 rfl [] hD ?_
                  refine SatD.sk 12 rfl [] hD ?_
                  refine SatD.sk 13 rfl [] hD ?_
                  refine SatD.sk 14 rfl [] hD ?_
                  refine SatD.tk 15 rfl hD (fun _ hw => RunV.pick_f rfl rfl) ?_
                  refine SatD.done 0 (by kernel_rfl) (SatE.thenC ?_)
                  clear hD
                  refine SatC.weak (e' := [(0, _), (4, _), (7, _), (8, _), (9, _), (10, _), (106, _)]) (by repeat constructor) ?_
                  refine SatC.cond_f rfl ?_
                  refine SatC.skip (SatE.thenC ?_)
                  refine SatC.region ?_
                  refine SatL.pu (RunV.move rfl) rfl ?_
                  refine SatL.pu (RunV.move rfl) rfl ?_
                  first | refine SatL.pu (RunV.nil_ptr rfl) rfl ?_ | refine SatL.pu (RunV.nil_func rfl) rfl ?_ | refine SatL.pu (RunV.nil_yield rfl) rfl ?_
                  first | refine SatL.pu (RunV.fieldAddrL rfl rfl rfl) rfl ?_ | refine SatL.pu (RunV.fieldAddr rfl rfl rfl) rfl ?_
                  refine SatL.pu (RunV.load1 hS rfl rfl (by repeat constructor) rfl) rfl ?_
                  refine SatL.pu (RunV.move rfl) rfl ?_
                  first | refine SatL.pu (RunV.indexR (by assumption) rfl rfl rfl (by omega) (by omega) rfl) rfl ?_ | refine SatL.pu (RunV.indexS rfl rfl rfl (by omega) (by omega) rfl) rfl ?_
                  refine SatL.pu (RunV.loadRNz (Sl.rd hsC hS (by repeat constructor)) rfl rfl (map_get hy)) rfl ?_
                  refine SatL.op rfl (OpW.buildSlice1 hS rfl rfl rfl rfl rfl (by repeat constructor) rfl rfl rfl ?_)
                  clear hS
                  intro b119 w193 _ hS
                  refine SatL.op rfl (OpW.append1 hsa hS (by repeat constructor) rfl rfl (by repeat constructor) rfl rfl rfl rfl rfl rfl rfl rfl (by rw [List.length_map]; omega) rfl ?_)
                  clear hS
                  intro v122 B122 w194 hsl122 hS
                  refine SatL.pu (RunV.assign rfl) rfl ?_
                  refine SatL.nil (SatE.blk_normal (SatE.thenC ?_))
                  refine SatC.region ?_
                  refine SatL.pu (RunV.move rfl) rfl ?_
                  refine SatL.pu (RunV.add rfl rfl (by first | exact wrapI64 (by omega) | rfl)) rfl ?_
                  refine SatL.pu (RunV.assign rfl) rfl ?_
                  refine SatL.nil ?_
                  refine SatE.again ((i + 1, laid, m ++ [y], v122, B122)) ?_ (by first | omega | (dsimp only; omega)) (by repeat constructor)
                  refine ⟨by omega, by simp; omega, ?_, by rw [List.map_append]; exact hsl122, hS.sel (by repeat constructor)⟩
                  rw [ins_go (by assumption) (fun h => by have h2 := h.1; first | contradiction | simp_all)] at hm
                  rw [List.append_assoc]
                  exact hm
            · (try simp only [cx, ne_eq] at h3)
              try (exfalso; (first | omega | exact h3 trivial | contradiction | (first | omega | (simp at h3; done))); done)
              all_goals
              refine SatC.exit (SatE.then_exit (SatE.then_exit (SatE.blk_exit (SatE.thenC ?_))))
              refine SatC.seq ?_
              refine SatC.seq ?_
              rw [List.drop_of_length_le (by omega)] at hm
              have hlb := Bool.toNat_le laid
              refine SatC.region ?_
              refine SatL.pu (RunV.move rfl) rfl ?_
              refine SatL.pu (RunV.not rfl) rfl ?_
              refine SatL.nil (SatE.thenC ?_)
              refine SatC.cond rfl (fun h4 => ?_) (fun h4 => ?_)
              · (try simp only [cx, ne_eq] at h4)
                try (exfalso; (first | omega | exact h4 trivial | contradiction | (first | omega | (simp at h4; done))); done)
                all_goals
                refine SatC.weak (e' := [(0, _), (7, _), (8, _)]) (by repeat constructor) ?_
                refine SatC.region ?_
                refine SatL.pu (RunV.move rfl) rfl ?_
                refine SatL.pu (RunV.loadN hS rfl rfl (by repeat constructor) (by repeat constructor)) rfl ?_
                refine SatL.op rfl (OpW.buildSlice1 hS rfl rfl rfl rfl rfl (by repeat constructor) rfl rfl rfl ?_)
                clear hS
                intro b125 w191 _ hS
                refine SatL.op rfl (OpW.append1 hsa hS (by repeat constructor) rfl rfl (by repeat constructor) rfl rfl rfl rfl rfl rfl rfl rfl (by rw [List.length_map]; omega) rfl ?_)
                clear hS
                intro v126 B126 w192 hsl126 hS
                refine SatL.pu (RunV.assign rfl) rfl ?_
                refine SatL.nil (SatE.thenC ?_)
                refine SatC.seq ?_
                refine SatC.region ?_
                refine SatL.pu (RunV.move rfl) rfl ?_
                refine SatL.pu (RunV.move rfl) rfl ?_
                first | refine SatL.pu (RunV.nil_ptr rfl) rfl ?_ | refine SatL.pu (RunV.nil_func rfl) rfl ?_ | refine SatL.pu (RunV.nil_yield rfl) rfl ?_
                first | refine SatL.pu (RunV.fieldAddrL rfl rfl rfl) rfl ?_ | refine SatL.pu (RunV.fieldAddr rfl rfl rfl) rfl ?_
                refine SatL.op rfl (OpW.storeSv hS rfl rfl (by first | exact hsl126 | exact hsa) (by repeat constructor) (by repeat constructor) rfl ?_)
                clear hS
                intro w193 hS
                refine SatL.nil (SatE.thenC ?_)
                refine SatC.seq ?_
                refine SatC.region ?_
                refine SatL.pu (RunV.assign rfl) rfl ?_
                refine SatL.nil (SatE.thenC ?_)
                refine SatC.ret ?_
                refine SatE.ret1 rfl rfl ?_
                first
                | exact daddc_err (by unfold daddCE; (repeat' split) <;> first | rfl | (exfalso; simp_all; done) | (exfalso; simp_all; omega) | (exfalso; omega)) (by decide) hw (hS.sel (by repeat constructor))
                | (have hl : laid = false := by assumption
                   rw [hl] at hm
                   have e2 : m ++ [(⟨id, sv, note, ck0 p⟩ : Dc)] = R := hm
                   have e3 : R.map (dcc D.node) = m.map (dcc D.node) ++ [dcc D.node ⟨id, sv, note, ck0 p⟩] := by rw [← e2, List.map_append]; rfl
                   replace hsl126 : Sl 87 19 v126 (R.map (dcc D.node)) B126 := by rw [e3]; exact hsl126
                   exact ⟨by rw [he], { D with ch := R }, (b, C 44 [.int .i64 D.node, str D.addr, vs0, v126]) :: (SB ++ B126), fun _ => rfl, fun h => absurd he h, ⟨hs16, hfew (daddCE_few he), hone, hsu, hnd, vs0, v126, SB, B126, hsS, hsl126, rfl⟩, hS.sel (by repeat constructor)⟩)
                | (have hl : laid = true := by assumption
                   rw [hl] at hm
                   have e2 : m = R := by rw [← hm]; exact (List.append_nil m).symm
                   rw [e2] at hsa
                   exact ⟨by rw [he], { D with ch := R }, (b, C 44 [.int .i64 D.node, str D.addr, vs0, av]) :: (SB ++ AB), fun _ => rfl, fun h => absurd he h, ⟨hs16, hfew (daddCE_few he), hone, hsu, hnd, vs0, av, SB, AB, hsS, hsa, rfl⟩, hS.sel (by repeat constructor)⟩)
              · (try simp only [cx, ne_eq] at h4)
                try (exfalso; (first | omega | exact h4 trivial | contradiction | (first | omega | (simp at h4; done))); done)
                all_goals
                refine SatC.skip (SatE.thenC ?_)
                refine SatC.seq ?_
                refine SatC.weak (e' := [(0, _), (8, _)]) (by repeat constructor) ?_
                refine SatC.region ?_
                refine SatL.pu (RunV.move rfl) rfl ?_
                refine SatL.pu (RunV.move rfl) rfl ?_
                first | refine SatL.pu (RunV.nil_ptr rfl) rfl ?_ | refine SatL.pu (RunV.nil_func rfl) rfl ?_ | refine SatL.pu (RunV.nil_yield rfl) rfl ?_
                first | refine SatL.pu (RunV.fieldAddrL rfl rfl rfl) rfl ?_ | refine SatL.pu (RunV.fieldAddr rfl rfl rfl) rfl ?_
                refine SatL.op rfl (OpW.storeSv hS rfl rfl (by first | exact hsl126 | exact hsa) (by repeat constructor) (by repeat constructor) rfl ?_)
                clear hS
                intro w191 hS
                refine SatL.nil (SatE.thenC ?_)
                refine SatC.seq ?_
                refine SatC.region ?_
                refine SatL.pu (RunV.assign rfl) rfl ?_
                refine SatL.nil (SatE.thenC ?_)
                refine SatC.ret ?_
                refine SatE.ret1 rfl rfl ?_
                first
                | exact daddc_err (by unfold daddCE; (repeat' split) <;> first | rfl | (exfalso; simp_all; done) | (exfalso; simp_all; omega) | (exfalso; omega)) (by decide) hw (hS.sel (by repeat constructor))
                | (have hl : laid = false := by assumption
                   rw [hl] at hm
                   have e2 : m ++ [(⟨id, sv, note, ck0 p⟩ : Dc)] = R := hm
                   have e3 : R.map (dcc D.node) = m.map (dcc D.node) ++ [dcc D.node ⟨id, sv, note, ck0 p⟩] := by rw [← e2, List.map_append]; rfl
                   replace hsl126 : Sl 87 19 v126 (R.map (dcc D.node)) B126 := by rw [e3]; exact hsl126
                   exact ⟨by rw [he], { D with ch := R }, (b, C 44 [.int .i64 D.node, str D.addr, vs0, v126]) :: (SB ++ B126), fun _ => rfl, fun h => absurd he h, ⟨hs16, hfew (daddCE_few he), hone, hsu, hnd, vs0, v126, SB, B126, hsS, hsl126, rfl⟩, hS.sel (by repeat constructor)⟩)
                | (have hl : laid = true := by assumption
                   rw [hl] at hm
                   have e2 : m = R := by rw [← hm]; exact (List.append_nil m).symm
                   rw [e2] at hsa
                   exact ⟨by rw [he], { D with ch := R }, (b, C 44 [.int .i64 D.node, str D.addr, vs0, av]) :: (SB ++ AB), fun _ => rfl, fun h => absurd he h, ⟨hs16, hfew (daddCE_few he), hone, hsu, hnd, vs0, av, SB, AB, hsS, hsa, rfl⟩, hS.sel (by repeat constructor)⟩)
theorem dadd_ref (sn port mk ix : Int) (id name : List UInt8) (tags : List (List UInt8)) (A0 : Option Addr) (n0 c0 : Nat) (hra : RdA w (.slice A0 n0 c0) 1 (tags.map rs) (L.map Prod.fst)) (h : Dok b D L) (hown : Own w L) :
    Ret Try.prog 38 #[.pointer (some ⟨b, 0, none⟩), .agg #[.int .i64 sn, str id, str name, .slice A0 n0 c0, .int .i64 port, .int .u64 mk, .int .u64 ix]] w fun u w' => u = .int .i64 (daddE D id name tags port) ∧ ∃ D' L', (daddE D id name tags port = 0 → D' = { D with sv := ins Ds.id ⟨id, name, tags, port, .slice A0 n0 c0⟩ false D.sv }) ∧ (¬ daddE D id name tags port = 0 → D' = D) ∧ Dok b D' L' ∧ St w (L.map Prod.fst) L' w' := by
  have hw := h
  obtain ⟨hs16, hc16, hone, hsu, hcu, vs0, cv, SB, CB, hsS, hsC, rfl⟩ := h
  have hS := St.init hown
  generalize hX : List.map Prod.fst ((b, C 44 [.int .i64 D.node, str D.addr, vs0, cv]) :: (SB ++ CB)) = X at hS hra ⊢
  obtain ⟨vs, hvs⟩ := hsS.slv
  rw [List.length_map] at hvs
  have hfew := ins_few (key := Ds.id) (x := (⟨id, name, tags, port, .slice A0 n0 c0⟩ : Ds)) (l := D.sv) hs16
  have hnd := ins_nodup (key := Ds.id) (x := (⟨id, name, tags, port, .slice A0 n0 c0⟩ : Ds)) hsu
  have hone2 : ∀ s ∈ ins Ds.id (⟨id, name, tags, port, .slice A0 n0 c0⟩ : Ds) false D.sv, s.tv.oneCell' = true := fun s hs => by
    have := (ins_perm (key := Ds.id) (x := (⟨id, name, tags, port, .slice A0 n0 c0⟩ : Ds)) false D.sv).mem_iff.1 hs
    simp only [Bool.false_eq_true, if_false, List.cons_append, List.nil_append, List.mem_cons] at this
    rcases this with rfl | h
    · rfl
    · exact hone s (List.mem_filter.1 h).1
  generalize hR : ins Ds.id (⟨id, name, tags, port, .slice A0 n0 c0⟩ : Ds) false D.sv = R at hfew hnd hone2 ⊢
  refine Ret.enter Try.func38 Try.ntmps38 rfl rfl ?_
  simp only [argEnv, Nat.reduceAdd]
  refine SatC.seq ?_
  refine SatC.region ?_
  refine SatL.op rfl (OpW.box hS rfl rfl (by repeat constructor) ?_)
  clear hS
  intro b3 w1 _ hS
  refine SatL.pu (RunV.assign rfl) rfl ?_
  refine SatL.nil (SatE.thenC ?_)
  refine SatC.seq ?_
  refine SatC.seq ?_
  refine SatC.region ?_
  first | refine SatL.pu (RunV.fieldAddrL rfl rfl rfl) rfl ?_ | refine SatL.pu (RunV.fieldAddr rfl rfl rfl) rfl ?_
  refine SatL.pu (RunV.load1 hS rfl rfl (by repeat constructor) rfl) rfl ?_
  refine SatL.pu (RunV.lss rfl rfl) rfl ?_
  refine SatL.pu (RunV.move rfl) rfl ?_
  refine SatL.guard rfl rfl rfl (fun h1 => ?_) (fun h1 => ?_)
  · (try simp only [cx, ne_eq] at h1)
    try (exfalso; (first | omega | exact h1 trivial | contradiction | (first | omega | (simp at h1; done))); done)
    all_goals
    first | refine SatL.pu (RunV.fieldAddrL rfl rfl rfl) rfl ?_ | refine SatL.pu (RunV.fieldAddr rfl rfl rfl) rfl ?_
    refine SatL.guard_y rfl rfl ?_
    refine SatL.pu (RunV.load1 hS rfl rfl (by repeat constructor) rfl) rfl ?_
    refine SatL.guard_y rfl rfl ?_
    refine SatL.pu (RunV.gtr rfl rfl) rfl ?_
    refine SatL.pu (RunV.pick_f rfl rfl) rfl ?_
    refine SatL.nil (SatE.thenC ?_)
    refine SatC.cond rfl (fun h2 => ?_) (fun h2 => ?_)
    · (try simp only [cx, ne_eq] at h2)
      try (exfalso; (first | omega | exact h2 trivial | contradiction | (first | omega | (simp at h2; done))); done)
      all_goals
      refine SatC.seq ?_
      refine SatC.region ?_
      refine SatL.pu (RunV.assign rfl) rfl ?_
      refine SatL.nil (SatE.thenC ?_)
      refine SatC.ret (SatE.then_ret ?_)
      refine SatE.ret1 rfl rfl ?_
      first
      | exact dadd_err (by unfold daddE; (repeat' split) <;> first | rfl | (exfalso; simp_all; done) | (exfalso; simp_all; omega) | (exfalso; omega)) (by decide) hw (hS.sel (by repeat constructor))
      | (have hl : laid = false := by assumption
         rw [hl] at hm
         have e2 : m ++ [(⟨id, name, tags, port, .slice A0 n0 c0⟩ : Ds)] = R := hm
         have e3 : R.map (dsc D.node) = m.map (dsc D.node) ++ [dsc D.node (⟨id, name, tags, port, .slice A0 n0 c0⟩ : Ds)] := by rw [← e2, List.map_append]; rfl
         replace hsl126 : Sl 30 7 v126 (R.map (dsc D.node)) B126 := by rw [e3]; exact hsl126
         exact ⟨by rw [he], { D with sv := R }, (b, C 44 [.int .i64 D.node, str D.addr, v126, cv]) :: (B126 ++ CB), fun _ => rfl, fun h => absurd he h, ⟨hfew (daddE_few he), hc16, hone2, hnd, hcu, v126, cv, B126, CB, hsl126, hsC, rfl⟩, hS.sel (by repeat constructor)⟩)
      | (have hl : laid = true := by assumption
         rw [hl] at hm
         have e2 : m = R := by rw [← hm]; exact (List.append_nil m).symm
         rw [e2] at hsa
         exact ⟨by rw [he], { D with sv := R }, (b, C 44 [.int .i64 D.node, str D.addr, av, cv]) :: (AB ++ CB), fun _ => rfl, fun h => absurd he h, ⟨hfew (daddE_few he), hc16, hone2, hnd, hcu, av, cv, AB, CB, hsa, hsC, rfl⟩, hS.sel (by repeat constructor)⟩)
    · (try simp only [cx, ne_eq] at h2)
      try (exfalso; (first | omega | exact h2 trivial | contradiction | (first | omega | (simp at h2; done))); done)
      all_goals
      refine SatC.skip (SatE.thenC ?_)
      refine SatC.seq ?_
      refine SatC.seq ?_
      refine SatC.region ?_
      first | refine SatL.pu (RunV.fieldAddrL rfl rfl rfl) rfl ?_ | refine SatL.pu (RunV.fieldAddr rfl rfl rfl) rfl ?_
      refine SatL.pu (RunV.load1 hS rfl rfl (by repeat constructor) rfl) rfl ?_
      refine SatL.op rfl (OpW.enter rfl rfl rfl (rfl) (right_ref _ _) ?_)
      rintro r2 w2 ⟨rfl, h⟩
      replace hS := St.callN hS h
      refine SatL.pu (RunV.not rfl) rfl ?_
      refine SatL.pu (RunV.move rfl) rfl ?_
      refine SatL.guard rfl rfl rfl (fun h3 => ?_) (fun h3 => ?_)
      · (try simp only [cx, ne_eq] at h3)
        try (exfalso; (first | omega | exact h3 trivial | contradiction | (first | omega | (simp at h3; done))); done)
        all_goals
        first | refine SatL.pu (RunV.fieldAddrL rfl rfl rfl) rfl ?_ | refine SatL.pu (RunV.fieldAddr rfl rfl rfl) rfl ?_
        refine SatL.guard_y rfl rfl ?_
        refine SatL.pu (RunV.load1 hS rfl rfl (by repeat constructor) rfl) rfl ?_
        refine SatL.guard_y rfl rfl ?_
        refine SatL.op rfl (OpW.enter rfl rfl rfl (rfl) (right_ref _ _) ?_)
        rintro r3 w3 ⟨rfl, h⟩
        replace hS := St.callN hS h
        refine SatL.guard_y rfl rfl ?_
        refine SatL.pu (RunV.not rfl) rfl ?_
        refine SatL.pu (RunV.pick_f rfl rfl) rfl ?_
        refine SatL.pu (RunV.move rfl) rfl ?_
        refine SatL.guard rfl rfl rfl (fun h4 => ?_) (fun h4 => ?_)
        · (try simp only [cx, ne_eq] at h4)
          try (exfalso; (first | omega | exact h4 trivial | contradiction | (first | omega | (simp at h4; done))); done)
          all_goals
          first | refine SatL.pu (RunV.fieldAddrL rfl rfl rfl) rfl ?_ | refine SatL.pu (RunV.fieldAddr rfl rfl rfl) rfl ?_
          refine SatL.guard_y rfl rfl ?_
          refine SatL.pu (RunV.load1 hS rfl rfl (by repeat constructor) rfl) rfl ?_
          refine SatL.guard_y rfl rfl ?_
          refine SatL.op rfl (OpW.enter rfl rfl rfl (rfl) (tags_ref _ _ _ (hra.rd hS Nat.one_pos)) ?_)
          rintro r4 w4 ⟨rfl, h⟩
          replace hS := St.callN hS h
          refine SatL.guard_y rfl rfl ?_
          refine SatL.pu (RunV.not rfl) rfl ?_
          refine SatL.pu (RunV.pick_f rfl rfl) rfl ?_
          refine SatL.nil (SatE.thenC ?_)
          refine SatC.weak (e' := [(0, _), (3, _), (4, _), (32, _)]) (by repeat constructor) ?_
          refine SatC.cond rfl (fun h5 => ?_) (fun h5 => ?_)
          · (try simp only [cx, ne_eq] at h5)
            try (exfalso; (first | omega | exact h5 trivial | contradiction | (first | omega | (simp at h5; done))); done)
            all_goals
            refine SatC.seq ?_
            refine SatC.region ?_
            refine SatL.pu (RunV.assign rfl) rfl ?_
            refine SatL.nil (SatE.thenC ?_)
            refine SatC.ret (SatE.then_ret ?_)
            refine SatE.ret1 rfl rfl ?_
            first
            | exact dadd_err (by unfold daddE; (repeat' split) <;> first | rfl | (exfalso; simp_all; done) | (exfalso; simp_all; omega) | (exfalso; omega)) (by decide) hw (hS.sel (by repeat constructor))
            | (have hl : laid = false := by assumption
               rw [hl] at hm
               have e2 : m ++ [(⟨id, name, tags, port, .slice A0 n0 c0⟩ : Ds)] = R := hm
               have e3 : R.map (dsc D.node) = m.map (dsc D.node) ++ [dsc D.node (⟨id, name, tags, port, .slice A0 n0 c0⟩ : Ds)] := by rw [← e2, List.map_append]; rfl
               replace hsl126 : Sl 30 7 v126 (R.map (dsc D.node)) B126 := by rw [e3]; exact hsl126
               exact ⟨by rw [he], { D with sv := R }, (b, C 44 [.int .i64 D.node, str D.addr, v126, cv]) :: (B126 ++ CB), fun _ => rfl, fun h => absurd he h, ⟨hfew (daddE_few he), hc16, hone2, hnd, hcu, v126, cv, B126, CB, hsl126, hsC, rfl⟩, hS.sel (by repeat constructor)⟩)
            | (have hl : laid = true := by assumption
               rw [hl] at hm
               have e2 : m = R := by rw [← hm]; exact (List.append_nil m).symm
               rw [e2] at hsa
               exact ⟨by rw [he], { D with sv := R }, (b, C 44 [.int .i64 D.node, str D.addr, av, cv]) :: (AB ++ CB), fun _ => rfl, fun h => absurd he h, ⟨hfew (daddE_few he), hc16, hone2, hnd, hcu, av, cv, AB, CB, hsa, hsC, rfl⟩, hS.sel (by repeat constructor)⟩)
          · (try simp only [cx, ne_eq] at h5)
            try (exfalso; (first | omega | exact h5 trivial | contradiction | (first | omega | (simp at h5; done))); done)
            all_goals
            refine SatC.skip (SatE.thenC ?_)
            -- MERGE 7: turned [4]
            refine SatC.merge (G := Nat) (V := fun z => []) (Cn := [(0, _), (3, _)]) (I := fun z w' => daddE D id name tags port = 0 ∧ St w X ((b3, C 30 [.int .i64 sn, str id, str name, .slice A0 n0 c0, .int .i64 port, .int .u64 mk, .int .u64 ix]) :: (b, C 44 [.int .i64 D.node, str D.addr, vs0, cv]) :: (SB ++ CB)) w') (by repeat constructor) ?_ ?_
            · skip
              refine SatC.seq ?_
              refine SatC.region ?_
              refine SatL.pu (RunV.move rfl) rfl ?_
              first | refine SatL.pu (RunV.fieldAddrL rfl rfl rfl) rfl ?_ | refine SatL.pu (RunV.fieldAddr rfl rfl rfl) rfl ?_
              refine SatL.pu (RunV.load1 hS rfl rfl (by repeat constructor) rfl) rfl ?_
              refine SatL.op rfl (OpW.enter rfl rfl rfl (rfl) (has_ref id hw (hS.ownT (A := (b, C 44 [.int .i64 D.node, str D.addr, vs0, cv]) :: (SB ++ CB)) (by repeat constructor))) ?_)
              rintro r5 w5 ⟨rfl, h⟩
              replace hS := St.callN hS h
              refine SatL.pu (RunV.not rfl) rfl ?_
              refine SatL.pu (RunV.move rfl) rfl ?_
              refine SatL.guard rfl rfl rfl (fun h6 => ?_) (fun h6 => ?_)
              · (try simp only [cx, ne_eq] at h6)
                try (exfalso; (first | omega | exact h6 trivial | contradiction | (first | omega | (simp at h6; done))); done)
                all_goals
                refine SatL.pu (RunV.move rfl) rfl ?_
                refine SatL.guard_y rfl rfl ?_
                first | refine SatL.pu (RunV.nil_ptr rfl) rfl ?_ | refine SatL.pu (RunV.nil_func rfl) rfl ?_ | refine SatL.pu (RunV.nil_yield rfl) rfl ?_
                refine SatL.guard_y rfl rfl ?_
                first | refine SatL.pu (RunV.fieldAddrL rfl rfl rfl) rfl ?_ | refine SatL.pu (RunV.fieldAddr rfl rfl rfl) rfl ?_
                refine SatL.guard_y rfl rfl ?_
                refine SatL.pu (RunV.load1 hS rfl rfl (by repeat constructor) rfl) rfl ?_
                refine SatL.guard_y rfl rfl ?_
                first | refine SatL.pu (RunV.lenR (by assumption) rfl rfl) rfl ?_ | refine SatL.pu (RunV.lenS rfl rfl) rfl ?_
                refine SatL.guard_y rfl rfl ?_
                refine SatL.pu (RunV.geq rfl rfl) rfl ?_
                refine SatL.pu (RunV.pick_t rfl rfl) rfl ?_
                refine SatL.nil (SatE.thenC ?_)
                refine SatC.weak (e' := [(0, _), (3, _), (4, _), (45, _)]) (by repeat constructor) ?_
                refine SatC.cond rfl (fun h7 => ?_) (fun h7 => ?_)
                · (try simp only [cx, ne_eq] at h7)
                  try (exfalso; (first | omega | exact h7 trivial | contradiction | (first | omega | (simp at h7; done))); done)
                  all_goals
                  refine SatC.seq ?_
                  refine SatC.region ?_
                  refine SatL.pu (RunV.assign rfl) rfl ?_
                  refine SatL.nil (SatE.thenC ?_)
                  refine SatC.ret (SatE.then_ret ?_)
                  refine SatE.ret1 rfl rfl ?_
                  first
                  | exact dadd_err (by unfold daddE; (repeat' split) <;> first | rfl | (exfalso; simp_all; done) | (exfalso; simp_all; omega) | (exfalso; omega)) (by decide) hw (hS.sel (by repeat constructor))
                  | (have hl : laid = false := by assumption
                     rw [hl] at hm
                     have e2 : m ++ [(⟨id, name, tags, port, .slice A0 n0 c0⟩ : Ds)] = R := hm
                     have e3 : R.map (dsc D.node) = m.map (dsc D.node) ++ [dsc D.node (⟨id, name, tags, port, .slice A0 n0 c0⟩ : Ds)] := by rw [← e2, List.map_append]; rfl
                     replace hsl126 : Sl 30 7 v126 (R.map (dsc D.node)) B126 := by rw [e3]; exact hsl126
                     exact ⟨by rw [he], { D with sv := R }, (b, C 44 [.int .i64 D.node, str D.addr, v126, cv]) :: (B126 ++ CB), fun _ => rfl, fun h => absurd he h, ⟨hfew (daddE_few he), hc16, hone2, hnd, hcu, v126, cv, B126, CB, hsl126, hsC, rfl⟩, hS.sel (by repeat constructor)⟩)
                  | (have hl : laid = true := by assumption
                     rw [hl] at hm
                     have e2 : m = R := by rw [← hm]; exact (List.append_nil m).symm
                     rw [e2] at hsa
                     exact ⟨by rw [he], { D with sv := R }, (b, C 44 [.int .i64 D.node, str D.addr, av, cv]) :: (AB ++ CB), fun _ => rfl, fun h => absurd he h, ⟨hfew (daddE_few he), hc16, hone2, hnd, hcu, av, cv, AB, CB, hsa, hsC, rfl⟩, hS.sel (by repeat constructor)⟩)
                · (try simp only [cx, ne_eq] at h7)
                  try (exfalso; (first | omega | exact h7 trivial | contradiction | (first | omega | (simp at h7; done))); done)
                  all_goals
                  refine SatC.skip ?_
                  refine SatE.met (0) ?_ (by repeat constructor)
                  exact ⟨(by unfold daddE; (repeat' split) <;> first | rfl | (exfalso; simp_all; done) | (exfalso; simp_all; omega) | (exfalso; omega)), hS⟩
              · (try simp only [cx, ne_eq] at h6)
                try (exfalso; (first | omega | exact h6 trivial | contradiction | (first | omega | (simp at h6; done))); done)
                all_goals
                refine SatL.guard_n rfl rfl rfl rfl ?_
                refine SatL.guard_n rfl rfl rfl rfl ?_
                refine SatL.guard_n rfl rfl rfl rfl ?_
                refine SatL.guard_n rfl rfl rfl rfl ?_
                refine SatL.guard_n rfl rfl rfl rfl ?_
                refine SatL.pu (RunV.pick_f rfl rfl) rfl ?_
                refine SatL.nil (SatE.thenC ?_)
                refine SatC.weak (e' := [(0, _), (3, _), (4, _), (45, _)]) (by repeat constructor) ?_
                refine SatC.cond_f rfl ?_
                refine SatC.skip ?_
                refine SatE.met (0) ?_ (by repeat constructor)
                exact ⟨(by unfold daddE; (repeat' split) <;> first | rfl | (exfalso; simp_all; done) | (exfalso; simp_all; omega) | (exfalso; omega)), hS⟩
            · clear hS
              rintro z w65 ⟨he, hS⟩
              refine SatC.weak (e' := [(0, _), (3, _)]) (by repeat constructor) ?_
              refine SatC.seq ?_
              refine SatC.drawnT 14 hS (hS) (by kernel_rfl) ?_
              clear hS
              intro w66 hh hS hD
              refine SatD.tk 0 rfl hD (fun _ hw => RunV.move rfl) ?_
              first | refine SatD.tk 1 rfl hD (fun _ hw => RunV.nil_ptr rfl) ?_ | refine SatD.tk 1 rfl hD (fun _ hw => RunV.nil_func rfl) ?_ | refine SatD.tk 1 rfl hD (fun _ hw => RunV.nil_yield rfl) ?_
              first | refine SatD.tk 2 rfl hD (fun _ hw => RunV.fieldAddrL rfl rfl rfl) ?_ | refine SatD.tk 2 rfl hD (fun _ hw => RunV.fieldAddr rfl rfl rfl) ?_
              refine SatD.tk 3 rfl hD (fun _ hw => RunV.load1 hw rfl rfl (by repeat constructor) rfl) ?_
              first | refine SatD.tk 4 rfl hD (fun _ hw => RunV.fieldAddrL rfl rfl rfl) ?_ | refine SatD.tk 4 rfl hD (fun _ hw => RunV.fieldAddr rfl rfl rfl) ?_
              refine SatD.tk 5 rfl hD (fun _ hw => RunV.load1 hw rfl rfl (by repeat constructor) rfl) ?_
              first | refine SatD.tk 6 rfl hD (fun _ hw => RunV.fieldAddrL rfl rfl rfl) ?_ | refine SatD.tk 6 rfl hD (fun _ hw => RunV.fieldAddr rfl rfl rfl) ?_
              refine SatD.tk 7 rfl hD (fun _ hw => RunV.load1 hw rfl rfl (by repeat constructor) rfl) ?_
              first | refine SatD.tk 8 rfl hD (fun _ hw => RunV.fieldAddrL rfl rfl rfl) ?_ | refine SatD.tk 8 rfl hD (fun _ hw => RunV.fieldAddr rfl rfl rfl) ?_
              refine SatD.tk 9 rfl hD (fun _ hw => RunV.load1 hw rfl rfl (by repeat constructor) rfl) ?_
              first | refine SatD.tk 10 rfl hD (fun _ hw => RunV.fieldAddrL rfl rfl rfl) ?_ | refine SatD.tk 10 rfl hD (fun _ hw => RunV.fieldAddr rfl rfl rfl) ?_
              refine SatD.tk 11 rfl hD (fun _ hw => RunV.load1 hw rfl rfl (by repeat constructor) rfl) ?_
              refine SatD.tk 12 rfl hD (fun _ hw => RunV.build rfl (by simp [go_sem]; try rfl)) ?_
              refine SatD.ef 13 rfl (OpW.alloc hS rfl rfl (by repeat constructor) ?_)
              clear hS
              intro b5 w67 _ hS
              refine keepS (hS.sel (by repeat constructor)) (fun hD => ?_)
              refine SatD.effF (by kernel_rfl) rfl rfl (OpW.store hS rfl rfl (by repeat constructor) (by repeat constructor) (by repeat constructor) rfl rfl ?_)
              clear hS
              intro w68 hS
              refine SatD.done 0 (by kernel_rfl) (SatE.thenC ?_)
              clear hD
              refine SatC.seq ?_
              refine SatC.weak (e' := [(0, _), (3, _), (5, _)]) (by repeat constructor) ?_
              refine SatC.region ?_
              refine SatL.pu (RunV.assign rfl) rfl ?_
              refine SatL.nil (SatE.thenC ?_)
              refine SatC.seq ?_
              refine SatC.region ?_
              refine SatL.pu (RunV.assign rfl) rfl ?_
              refine SatL.nil (SatE.thenC ?_)
              refine SatC.seq ?_
              refine SatC.seq ?_
              refine SatC.region ?_
              refine SatL.pu (RunV.assign rfl) rfl ?_
              refine SatL.nil (SatE.thenC ?_)
              refine SatC.block ?_
              refine SatC.loopK (G := Nat × Bool × List Ds × Value × List (Nat × Obj)) (V := fun ⟨i, laid, m, av, AB⟩ => [(8, .int .i64 (i : Int)), (6, av), (7, .bool laid)]) (Cn := [(0, _), (3, _), (5, _)]) (I := fun ⟨i, laid, m, av, AB⟩ w' => i ≤ D.sv.length ∧ m.length ≤ i + laid.toNat ∧ m ++ ins Ds.id (⟨id, name, tags, port, .slice A0 n0 c0⟩ : Ds) laid (D.sv.drop i) = R ∧ Sl 30 7 av (m.map (dsc D.node)) AB ∧ St w X (AB ++ (b5, C 30 (dsc D.node (⟨id, name, tags, port, .slice A0 n0 c0⟩ : Ds))) :: (b3, C 30 [.int .i64 sn, str id, str name, .slice A0 n0 c0, .int .i64 port, .int .u64 mk, .int .u64 ix]) :: (b, C 44 [.int .i64 D.node, str D.addr, vs0, cv]) :: (SB ++ CB)) w') (μ := fun ⟨i, laid, m, av, AB⟩ => D.sv.length - i) (0, false, [], .slice none 0 0, []) ?_ (by repeat constructor) ?_
              · exact ⟨Nat.zero_le _, by simp, by rw [List.drop_zero]; exact hR, .nil, hS.sel (by repeat constructor)⟩
              clear hS
              rintro ⟨i, laid, m, av, AB⟩ w69 ⟨hi, hml, hm, hsa, hS⟩
              refine SatC.weak (e' := [(0, _), (3, _), (5, _), (6, _), (7, _), (8, _)]) (by repeat constructor) ?_
              refine SatC.seq ?_
              refine SatC.seq ?_
              refine SatC.region ?_
              refine SatL.pu (RunV.move rfl) rfl ?_
              refine SatL.pu (RunV.move rfl) rfl ?_
              first | refine SatL.pu (RunV.nil_ptr rfl) rfl ?_ | refine SatL.pu (RunV.nil_func rfl) rfl ?_ | refine SatL.pu (RunV.nil_yield rfl) rfl ?_
              first | refine SatL.pu (RunV.fieldAddrL rfl rfl rfl) rfl ?_ | refine SatL.pu (RunV.fieldAddr rfl rfl rfl) rfl ?_
              refine SatL.pu (RunV.load1 hS rfl rfl (by repeat constructor) rfl) rfl ?_
              first | refine SatL.pu (RunV.lenR (by assumption) rfl rfl) rfl ?_ | refine SatL.pu (RunV.lenS rfl rfl) rfl ?_
              refine SatL.pu (RunV.lss rfl rfl) rfl ?_
              refine SatL.nil (SatE.thenC ?_)
              refine SatC.cond rfl (fun h6 => ?_) (fun h6 => ?_)
              · (try simp only [cx, ne_eq] at h6)
                try (exfalso; (first | omega | exact h6 trivial | contradiction | (first | omega | (simp at h6; done))); done)
                all_goals
                refine SatC.skip (SatE.thenC ?_)
                refine SatC.seq ?_
                refine SatC.block ?_
                refine SatC.seq ?_
                refine SatC.seq ?_
                obtain ⟨y, hy⟩ : ∃ y, D.sv[i]? = some y := ⟨_, List.getElem?_eq_getElem (by omega)⟩
                rw [drop_cons hy] at hm
                have hlb := Bool.toNat_le laid
                have hyo := hone y (List.mem_of_getElem? hy)
                refine SatC.drawnT 11 hS (hS) (by kernel_rfl) ?_
                clear hS
                intro w70 hh hS hD
                refine SatD.tk 0 rfl hD (fun _ hw => RunV.move rfl) ?_
                first | refine SatD.tk 1 rfl hD (fun _ hw => RunV.nil_ptr rfl) ?_ | refine SatD.tk 1 rfl hD (fun _ hw => RunV.nil_func rfl) ?_ | refine SatD.tk 1 rfl hD (fun _ hw => RunV.nil_yield rfl) ?_
                first | refine SatD.tk 2 rfl hD (fun _ hw => RunV.fieldAddrL rfl rfl rfl) ?_ | refine SatD.tk 2 rfl hD (fun _ hw => RunV.fieldAddr rfl rfl rfl) ?_
                refine SatD.tk 3 rfl hD (fun _ hw => RunV.load1 hw rfl rfl (by repeat constructor) rfl) ?_
                refine SatD.tk 4 rfl hD (fun _ hw => RunV.move rfl) ?_
                first | refine SatD.tk 5 rfl hD (fun _ hw => RunV.indexR (by assumption) rfl rfl rfl (by omega) (by omega) rfl) ?_ | refine SatD.tk 5 rfl hD (fun _ hw => RunV.indexS rfl rfl rfl (by omega) (by omega) rfl) ?_
                first | refine SatD.tk 6 rfl hD (fun _ hw => RunV.fieldAddrL rfl rfl rfl) ?_ | refine SatD.tk 6 rfl hD (fun _ hw => RunV.fieldAddr rfl rfl rfl) ?_
                refine SatD.tk 7 rfl hD (fun _ hw => RunV.loadR1g i 1 (Sl.rd hsS hw (by repeat constructor)) rfl rfl (by omega) (map_get hy) rfl) ?_
                first | refine SatD.tk 8 rfl hD (fun _ hw => RunV.fieldAddrL rfl rfl rfl) ?_ | refine SatD.tk 8 rfl hD (fun _ hw => RunV.fieldAddr rfl rfl rfl) ?_
                refine SatD.tk 9 rfl hD (fun _ hw => RunV.load1 hw rfl rfl (by repeat constructor) rfl) ?_
                refine SatD.tk 10 rfl hD (fun _ hw => RunV.seql rfl rfl) ?_
                refine SatD.done 0 (by kernel_rfl) (SatE.thenC ?_)
                clear hD
                refine SatC.weak (e' := [(0, _), (3, _), (5, _), (6, _), (7, _), (8, _), (78, _)]) (by repeat constructor) ?_
                refine SatC.cond rfl (fun h7 => ?_) (fun h7 => ?_)
                · (try simp only [cx, ne_eq] at h7)
                  try (exfalso; (first | omega | exact h7 trivial | contradiction | (first | omega | (simp at h7; done))); done)
                  all_goals
                  refine SatC.exit (SatE.then_exit (SatE.blk_exit (SatE.thenC ?_)))
                  refine SatC.region ?_
                  refine SatL.pu (RunV.move rfl) rfl ?_
                  refine SatL.pu (RunV.add rfl rfl (by first | exact wrapI64 (by omega) | rfl)) rfl ?_
                  refine SatL.pu (RunV.assign rfl) rfl ?_
                  refine SatL.nil ?_
                  refine SatE.again ((i + 1, laid, m, av, AB)) ?_ (by first | omega | (dsimp only; omega)) (by repeat constructor)
                  refine ⟨by omega, by omega, ?_, hsa, hS.sel (by repeat constructor)⟩
                  rw [ins_eq (by assumption)] at hm
                  exact hm
                · (try simp only [cx, ne_eq] at h7)
                  try (exfalso; (first | omega | exact h7 trivial | contradiction | (first | omega | (simp at h7; done))); done)
                  all_goals
                  refine SatC.skip (SatE.thenC ?_)
                  refine SatC.seq ?_
                  refine SatC.seq ?_
                  refine SatC.drawnT 15 hS (hS) (by kernel_rfl) ?_
                  clear hS
                  intro w71 hh hS hD
                  refine SatD.tk 0 rfl hD (fun _ hw => RunV.move rfl) ?_
                  refine SatD.tk 1 rfl hD (fun _ hw => RunV.not rfl) ?_
                  refine SatD.tk 2 rfl hD (fun _ hw => RunV.move rfl) ?_
                  refine SatD.ways 81 rfl (fun h8 => ?_) (fun h8 => ?_)
                  · (try simp only [cx, ne_eq] at h8)
                    try (exfalso; (first | omega | exact h8 trivial | contradiction | (first | omega | (simp at h8; done))); done)
                    all_goals
                    refine SatD.tk 3 rfl hD (fun _ hw => RunV.move rfl) ?_
                    first | refine SatD.tk 4 rfl hD (fun _ hw => RunV.nil_ptr rfl) ?_ | refine SatD.tk 4 rfl hD (fun _ hw => RunV.nil_func rfl) ?_ | refine SatD.tk 4 rfl hD (fun _ hw => RunV.nil_yield rfl) ?_
                    first | refine SatD.tk 5 rfl hD (fun _ hw => RunV.fieldAddrL rfl rfl rfl) ?_ | refine SatD.tk 5 rfl hD (fun _ hw => RunV.fieldAddr rfl rfl rfl) ?_
                    refine SatD.tk 6 rfl hD (fun _ hw => RunV.load1 hw rfl rfl (by repeat constructor) rfl) ?_
                    refine SatD.tk 7 rfl hD (fun _ hw => RunV.move rfl) ?_
                    first | refine SatD.tk 8 rfl hD (fun _ hw => RunV.indexR (by assumption) rfl rfl rfl (by omega) (by omega) rfl) ?_ | refine SatD.tk 8 rfl hD (fun _ hw => RunV.indexS rfl rfl rfl (by omega) (by omega) rfl) ?_
                    first | refine SatD.tk 9 rfl hD (fun _ hw => RunV.fieldAddrL rfl rfl rfl) ?_ | refine SatD.tk 9 rfl hD (fun _ hw => RunV.fieldAddr rfl rfl rfl) ?_
                    refine SatD.tk 10 rfl hD (fun _ hw => RunV.loadR1g i 1 (Sl.rd hsS hw (by repeat constructor)) rfl rfl (by omega) (map_get hy) rfl) ?_
                    first | refine SatD.tk 11 rfl hD (fun _ hw => RunV.fieldAddrL rfl rfl rfl) ?_ | refine SatD.tk 11 rfl hD (fun _ hw => RunV.fieldAddr rfl rfl rfl) ?_
                    refine SatD.tk 12 rfl hD (fun _ hw => RunV.load1 hw rfl rfl (by repeat constructor) rfl) ?_
                    refine SatD.tk 13 rfl hD (fun _ hw => RunV.sgtr rfl rfl) ?_
                    refine SatD.tk 14 rfl hD (fun _ hw => RunV.pick_t rfl rfl) ?_
                    refine SatD.done 0 (by kernel_rfl) (SatE.thenC ?_)
                    clear hD
                    refine SatC.weak (e' := [(0, _), (3, _), (5, _), (6, _), (7, _), (8, _), (93, _)]) (by repeat constructor) ?_
                    refine SatC.cond rfl (fun h9 => ?_) (fun h9 => ?_)
                    · (try simp only [cx, ne_eq] at h9)
                      try (exfalso; (first | omega | exact h9 trivial | contradiction | (first | omega | (simp at h9; done))); done)
                      all_goals
                      refine SatC.seq ?_
                      refine SatC.region ?_
                      refine SatL.pu (RunV.move rfl) rfl ?_
                      refine SatL.pu (RunV.loadN hS rfl rfl (by repeat constructor) (by repeat constructor)) rfl ?_
                      refine SatL.op rfl (OpW.buildSlice1 hS rfl rfl rfl rfl rfl (by repeat constructor) rfl rfl rfl ?_)
                      clear hS
                      intro b96 w72 _ hS
                      refine SatL.op rfl (OpW.append1 hsa hS (by repeat constructor) rfl rfl (by repeat constructor) rfl rfl rfl rfl rfl rfl rfl (dsc_one (n := D.node) (s := (⟨id, name, tags, port, .slice A0 n0 c0⟩ : Ds)) rfl) (by rw [List.length_map]; omega) rfl ?_)
                      clear hS
                      intro v110 B110 w73 hsl110 hS
                      refine SatL.pu (RunV.assign rfl) rfl ?_
                      refine SatL.nil (SatE.thenC ?_)
                      refine SatC.region ?_
                      refine SatL.pu (RunV.assign rfl) rfl ?_
                      refine SatL.nil (SatE.thenC ?_)
                      refine SatC.region ?_
                      refine SatL.pu (RunV.move rfl) rfl ?_
                      refine SatL.pu (RunV.move rfl) rfl ?_
                      first | refine SatL.pu (RunV.nil_ptr rfl) rfl ?_ | refine SatL.pu (RunV.nil_func rfl) rfl ?_ | refine SatL.pu (RunV.nil_yield rfl) rfl ?_
                      first | refine SatL.pu (RunV.fieldAddrL rfl rfl rfl) rfl ?_ | refine SatL.pu (RunV.fieldAddr rfl rfl rfl) rfl ?_
                      refine SatL.pu (RunV.load1 hS rfl rfl (by repeat constructor) rfl) rfl ?_
                      refine SatL.pu (RunV.move rfl) rfl ?_
                      first | refine SatL.pu (RunV.indexR (by assumption) rfl rfl rfl (by omega) (by omega) rfl) rfl ?_ | refine SatL.pu (RunV.indexS rfl rfl rfl (by omega) (by omega) rfl) rfl ?_
                      refine SatL.pu (RunV.loadRNz (Sl.rd hsS hS (by repeat constructor)) rfl rfl (map_get hy)) rfl ?_
                      refine SatL.op rfl (OpW.buildSlice1 hS rfl rfl rfl rfl rfl (by repeat constructor) rfl rfl rfl ?_)
                      clear hS
                      intro b106 w74 _ hS
                      refine SatL.op rfl (OpW.append1 hsl110 hS (by repeat constructor) rfl rfl (by repeat constructor) rfl rfl rfl rfl rfl rfl rfl (dsc_one (n := D.node) hyo) (by rw [List.length_append, List.length_map, List.length_singleton]; omega) rfl ?_)
                      clear hS
                      intro v120 B120 w75 hsl120 hS
                      refine SatL.pu (RunV.assign rfl) rfl ?_
                      refine SatL.nil (SatE.blk_normal (SatE.thenC ?_))
                      refine SatC.weak (e' := [(0, _), (3, _), (5, _), (6, _), (7, _), (8, _)]) (by repeat constructor) ?_
                      refine SatC.region ?_
                      refine SatL.pu (RunV.move rfl) rfl ?_
                      refine SatL.pu (RunV.add rfl rfl (by first | exact wrapI64 (by omega) | rfl)) rfl ?_
                      refine SatL.pu (RunV.assign rfl) rfl ?_
                      refine SatL.nil ?_
                      refine SatE.again ((i + 1, true, m ++ [(⟨id, name, tags, port, .slice A0 n0 c0⟩ : Ds), y], v120, B120)) ?_ (by first | omega | (dsimp only; omega)) (by repeat constructor)
                      refine ⟨by omega, by (have e : laid = false := by assumption); rw [e] at hml; simp at hml ⊢; omega, ?_, ?_, hS.sel (by repeat constructor)⟩
                      · rw [ins_lt (by assumption) ⟨by assumption, by assumption⟩] at hm
                        rw [List.append_assoc]
                        exact hm
                      · rw [List.append_assoc] at hsl120
                        rw [List.map_append]
                        exact hsl120
                    · (try simp only [cx, ne_eq] at h9)
                      try (exfalso; (first | omega | exact h9 trivial | contradiction | (first | omega | (simp at h9; done))); done)
                      all_goals
                      refine SatC.skip (SatE.thenC ?_)
                      refine SatC.region ?_
                      refine SatL.pu (RunV.move rfl) rfl ?_
                      refine SatL.pu (RunV.move rfl) rfl ?_
                      first | refine SatL.pu (RunV.nil_ptr rfl) rfl ?_ | refine SatL.pu (RunV.nil_func rfl) rfl ?_ | refine SatL.pu (RunV.nil_yield rfl) rfl ?_
                      first | refine SatL.pu (RunV.fieldAddrL rfl rfl rfl) rfl ?_ | refine SatL.pu (RunV.fieldAddr rfl rfl rfl) rfl ?_
                      refine SatL.pu (RunV.load1 hS rfl rfl (by repeat constructor) rfl) rfl ?_
                      refine SatL.pu (RunV.move rfl) rfl ?_
                      first | refine SatL.pu (RunV.indexR (by assumption) rfl rfl rfl (by omega) (by omega) rfl) rfl ?_ | refine SatL.pu (RunV.indexS rfl rfl rfl (by omega) (by omega) rfl) rfl ?_
                      refine SatL.pu (RunV.loadRNz (Sl.rd hsS hS (by repeat constructor)) rfl rfl (map_get hy)) rfl ?_
                      refine SatL.op rfl (OpW.buildSlice1 hS rfl rfl rfl rfl rfl (by repeat constructor) rfl rfl rfl ?_)
                      clear hS
                      intro b106 w72 _ hS
                      refine SatL.op rfl (OpW.append1 hsa hS (by repeat constructor) rfl rfl (by repeat constructor) rfl rfl rfl rfl rfl rfl rfl (dsc_one (n := D.node) hyo) (by rw [List.length_map]; omega) rfl ?_)
                      clear hS
                      intro v121 B121 w73 hsl121 hS
                      refine SatL.pu (RunV.assign rfl) rfl ?_
                      refine SatL.nil (SatE.blk_normal (SatE.thenC ?_))
                      refine SatC.region ?_
                      refine SatL.pu (RunV.move rfl) rfl ?_
                      refine SatL.pu (RunV.add rfl rfl (by first | exact wrapI64 (by omega) | rfl)) rfl ?_
                      refine SatL.pu (RunV.assign rfl) rfl ?_
                      refine SatL.nil ?_
                      refine SatE.again ((i + 1, laid, m ++ [y], v121, B121)) ?_ (by first | omega | (dsimp only; omega)) (by repeat constructor)
                      refine ⟨by omega, by simp; omega, ?_, by rw [List.map_append]; exact hsl121, hS.sel (by repeat constructor)⟩
                      rw [ins_go (by assumption) (fun h => by have h2 := h.2; first | contradiction | simp_all)] at hm
                      rw [List.append_assoc]
                      exact hm
                  · (try simp only [cx, ne_eq] at h8)
                    try (exfalso; (first | omega | exact h8 trivial | contradiction | (first | omega | (simp at h8; done))); done)
                    all_goals
                    refine SatD.sk 3 rfl [] hD ?_
                    refine SatD.sk 4 rfl [] hD ?_
                    refine SatD.sk 5 rfl [] hD ?_
                    refine SatD.sk 6 rfl [] hD ?_
                    refine SatD.sk 7 rfl [] hD ?_
                    refine SatD.sk 8 rfl [] hD ?_
                    refine SatD.sk 9 rfl [] hD ?_
                    refine SatD.sk 10 rfl [] hD ?_
                    refine SatD.sk 11 rfl [] hD ?_
                    refine SatD.sk 12 rfl [] hD ?_
                    refine SatD.sk 13 rfl [] hD ?_
                    refine SatD.tk 14 rfl hD (fun _ hw => RunV.pick_f rfl rfl) ?_
                    refine SatD.done 0 (by kernel_rfl) (SatE.thenC ?_)
                    clear hD
                    refine SatC.weak (e' := [(0, _), (3, _), (5, _), (6, _), (7, _), (8, _), (93, _)]) (by repeat constructor) ?_
                    refine SatC.cond_f rfl ?_
                    refine SatC.skip (SatE.thenC ?_)
                    refine SatC.region ?_
                    refine SatL.pu (RunV.move rfl) rfl ?_
                    refine SatL.pu (RunV.move rfl) rfl ?_
                    first | refine SatL.pu (RunV.nil_ptr rfl) rfl ?_ | refine SatL.pu (RunV.nil_func rfl) rfl ?_ | refine SatL.pu (RunV.nil_yield rfl) rfl ?_
                    first | refine SatL.pu (RunV.fieldAddrL rfl rfl rfl) rfl ?_ | refine SatL.pu (RunV.fieldAddr rfl rfl rfl) rfl ?_
                    refine SatL.pu (RunV.load1 hS rfl rfl (by repeat constructor) rfl) rfl ?_
                    refine SatL.pu (RunV.move rfl) rfl ?_
                    first | refine SatL.pu (RunV.indexR (by assumption) rfl rfl rfl (by omega) (by omega) rfl) rfl ?_ | refine SatL.pu (RunV.indexS rfl rfl rfl (by omega) (by omega) rfl) rfl ?_
                    refine SatL.pu (RunV.loadRNz (Sl.rd hsS hS (by repeat constructor)) rfl rfl (map_get hy)) rfl ?_
                    refine SatL.op rfl (OpW.buildSlice1 hS rfl rfl rfl rfl rfl (by repeat constructor) rfl rfl rfl ?_)
                    clear hS
                    intro b106 w72 _ hS
                    refine SatL.op rfl (OpW.append1 hsa hS (by repeat constructor) rfl rfl (by repeat constructor) rfl rfl rfl rfl rfl rfl rfl (dsc_one (n := D.node) hyo) (by rw [List.length_map]; omega) rfl ?_)
                    clear hS
                    intro v122 B122 w73 hsl122 hS
                    refine SatL.pu (RunV.assign rfl) rfl ?_
                    refine SatL.nil (SatE.blk_normal (SatE.thenC ?_))
                    refine SatC.region ?_
                    refine SatL.pu (RunV.move rfl) rfl ?_
                    refine SatL.pu (RunV.add rfl rfl (by first | exact wrapI64 (by omega) | rfl)) rfl ?_
                    refine SatL.pu (RunV.assign rfl) rfl ?_
                    refine SatL.nil ?_
                    refine SatE.again ((i + 1, laid, m ++ [y], v122, B122)) ?_ (by first | omega | (dsimp only; omega)) (by repeat constructor)
                    refine ⟨by omega, by simp; omega, ?_, by rw [List.map_append]; exact hsl122, hS.sel (by repeat constructor)⟩
                    rw [ins_go (by assumption) (fun h => by have h2 := h.1; first | contradiction | simp_all)] at hm
                    rw [List.append_assoc]
                    exact hm
              · (try simp only [cx, ne_eq] at h6)
                try (exfalso; (first | omega | exact h6 trivial | contradiction | (first | omega | (simp at h6; done))); done)
                all_goals
                refine SatC.exit (SatE.then_exit (SatE.then_exit (SatE.blk_exit (SatE.thenC ?_))))
                refine SatC.seq ?_
                refine SatC.seq ?_
                rw [List.drop_of_length_le (by omega)] at hm
                have hlb := Bool.toNat_le laid
                refine SatC.region ?_
                refine SatL.pu (RunV.move rfl) rfl ?_
                refine SatL.pu (RunV.not rfl) rfl ?_
                refine SatL.nil (SatE.thenC ?_)
                refine SatC.cond rfl (fun h7 => ?_) (fun h7 => ?_)
                · (try simp only [cx, ne_eq] at h7)
                  try (exfalso; (first | omega | exact h7 trivial | contradiction | (first | omega | (simp at h7; done))); done)
                  all_goals
                  refine SatC.weak (e' := [(0, _), (5, _), (6, _)]) (by repeat constructor) ?_
                  refine SatC.region ?_
                  refine SatL.pu (RunV.move rfl) rfl ?_
                  refine SatL.pu (RunV.loadN hS rfl rfl (by repeat constructor) (by repeat constructor)) rfl ?_
                  refine SatL.op rfl (OpW.buildSlice1 hS rfl rfl rfl rfl rfl (by repeat constructor) rfl rfl rfl ?_)
                  clear hS
                  intro b112 w70 _ hS
                  refine SatL.op rfl (OpW.append1 hsa hS (by repeat constructor) rfl rfl (by repeat constructor) rfl rfl rfl rfl rfl rfl rfl (dsc_one (n := D.node) (s := (⟨id, name, tags, port, .slice A0 n0 c0⟩ : Ds)) rfl) (by rw [List.length_map]; omega) rfl ?_)
                  clear hS
                  intro v126 B126 w71 hsl126 hS
                  refine SatL.pu (RunV.assign rfl) rfl ?_
                  refine SatL.nil (SatE.thenC ?_)
                  refine SatC.seq ?_
                  refine SatC.region ?_
                  refine SatL.pu (RunV.move rfl) rfl ?_
                  refine SatL.pu (RunV.move rfl) rfl ?_
                  first | refine SatL.pu (RunV.nil_ptr rfl) rfl ?_ | refine SatL.pu (RunV.nil_func rfl) rfl ?_ | refine SatL.pu (RunV.nil_yield rfl) rfl ?_
                  first | refine SatL.pu (RunV.fieldAddrL rfl rfl rfl) rfl ?_ | refine SatL.pu (RunV.fieldAddr rfl rfl rfl) rfl ?_
                  refine SatL.op rfl (OpW.storeSv hS rfl rfl (by first | exact hsl126 | exact hsa) (by repeat constructor) (by repeat constructor) rfl ?_)
                  clear hS
                  intro w72 hS
                  refine SatL.nil (SatE.thenC ?_)
                  refine SatC.seq ?_
                  refine SatC.region ?_
                  refine SatL.pu (RunV.assign rfl) rfl ?_
                  refine SatL.nil (SatE.thenC ?_)
                  refine SatC.ret ?_
                  refine SatE.ret1 rfl rfl ?_
                  first
                  | exact dadd_err (by unfold daddE; (repeat' split) <;> first | rfl | (exfalso; simp_all; done) | (exfalso; simp_all; omega) | (exfalso; omega)) (by decide) hw (hS.sel (by repeat constructor))
                  | (have hl : laid = false := by assumption
                     rw [hl] at hm
                     have e2 : m ++ [(⟨id, name, tags, port, .slice A0 n0 c0⟩ : Ds)] = R := hm
                     have e3 : R.map (dsc D.node) = m.map (dsc D.node) ++ [dsc D.node (⟨id, name, tags, port, .slice A0 n0 c0⟩ : Ds)] := by rw [← e2, List.map_append]; rfl
                     replace hsl126 : Sl 30 7 v126 (R.map (dsc D.node)) B126 := by rw [e3]; exact hsl126
                     exact ⟨by rw [he], { D with sv := R }, (b, C 44 [.int .i64 D.node, str D.addr, v126, cv]) :: (B126 ++ CB), fun _ => rfl, fun h => absurd he h, ⟨hfew (daddE_few he), hc16, hone2, hnd, hcu, v126, cv, B126, CB, hsl126, hsC, rfl⟩, hS.sel (by repeat constructor)⟩)
                  | (have hl : laid = true := by assumption
                     rw [hl] at hm
                     have e2 : m = R := by rw [← hm]; exact (List.append_nil m).symm
                     rw [e2] at hsa
                     exact ⟨by rw [he], { D with sv := R }, (b, C 44 [.int .i64 D.node, str D.addr, av, cv]) :: (AB ++ CB), fun _ => rfl, fun h => absurd he h, ⟨hfew (daddE_few he), hc16, hone2, hnd, hcu, av, cv, AB, CB, hsa, hsC, rfl⟩, hS.sel (by repeat constructor)⟩)
                · (try simp only [cx, ne_eq] at h7)
                  try (exfalso; (first | omega | exact h7 trivial | contradiction | (first | omega | (simp at h7; done))); done)
                  all_goals
                  refine SatC.skip (SatE.thenC ?_)
                  refine SatC.seq ?_
                  refine SatC.weak (e' := [(0, _), (6, _)]) (by repeat constructor) ?_
                  refine SatC.region ?_
                  refine SatL.pu (RunV.move rfl) rfl ?_
                  refine SatL.pu (RunV.move rfl) rfl ?_
                  first | refine SatL.pu (RunV.nil_ptr rfl) rfl ?_ | refine SatL.pu (RunV.nil_func rfl) rfl ?_ | refine SatL.pu (RunV.nil_yield rfl) rfl ?_
                  first | refine SatL.pu (RunV.fieldAddrL rfl rfl rfl) rfl ?_ | refine SatL.pu (RunV.fieldAddr rfl rfl rfl) rfl ?_
                  refine SatL.op rfl (OpW.storeSv hS rfl rfl (by first | exact hsl126 | exact hsa) (by repeat constructor) (by repeat constructor) rfl ?_)
                  clear hS
                  intro w70 hS
                  refine SatL.nil (SatE.thenC ?_)
                  refine SatC.seq ?_
                  refine SatC.region ?_
                  refine SatL.pu (RunV.assign rfl) rfl ?_
                  refine SatL.nil (SatE.thenC ?_)
                  refine SatC.ret ?_
                  refine SatE.ret1 rfl rfl ?_
                  first
                  | exact dadd_err (by unfold daddE; (repeat' split) <;> first | rfl | (exfalso; simp_all; done) | (exfalso; simp_all; omega) | (exfalso; omega)) (by decide) hw (hS.sel (by repeat constructor))
                  | (have hl : laid = false := by assumption
                     rw [hl] at hm
                     have e2 : m ++ [(⟨id, name, tags, port, .slice A0 n0 c0⟩ : Ds)] = R := hm
                     have e3 : R.map (dsc D.node) = m.map (dsc D.node) ++ [dsc D.node (⟨id, name, tags, port, .slice A0 n0 c0⟩ : Ds)] := by rw [← e2, List.map_append]; rfl
                     replace hsl126 : Sl 30 7 v126 (R.map (dsc D.node)) B126 := by rw [e3]; exact hsl126
                     exact ⟨by rw [he], { D with sv := R }, (b, C 44 [.int .i64 D.node, str D.addr, v126, cv]) :: (B126 ++ CB), fun _ => rfl, fun h => absurd he h, ⟨hfew (daddE_few he), hc16, hone2, hnd, hcu, v126, cv, B126, CB, hsl126, hsC, rfl⟩, hS.sel (by repeat constructor)⟩)
                  | (have hl : laid = true := by assumption
                     rw [hl] at hm
                     have e2 : m = R := by rw [← hm]; exact (List.append_nil m).symm
                     rw [e2] at hsa
                     exact ⟨by rw [he], { D with sv := R }, (b, C 44 [.int .i64 D.node, str D.addr, av, cv]) :: (AB ++ CB), fun _ => rfl, fun h => absurd he h, ⟨hfew (daddE_few he), hc16, hone2, hnd, hcu, av, cv, AB, CB, hsa, hsC, rfl⟩, hS.sel (by repeat constructor)⟩)
        · (try simp only [cx, ne_eq] at h4)
          try (exfalso; (first | omega | exact h4 trivial | contradiction | (first | omega | (simp at h4; done))); done)
          all_goals
          refine SatL.guard_n rfl rfl rfl rfl ?_
          refine SatL.guard_n rfl rfl rfl rfl ?_
          refine SatL.guard_n rfl rfl rfl rfl ?_
          refine SatL.pu (RunV.pick_t rfl rfl) rfl ?_
          refine SatL.nil (SatE.thenC ?_)
          refine SatC.weak (e' := [(0, _), (3, _), (4, _), (32, _)]) (by repeat constructor) ?_
          refine SatC.cond_t rfl ?_
          refine SatC.seq ?_
          refine SatC.region ?_
          refine SatL.pu (RunV.assign rfl) rfl ?_
          refine SatL.nil (SatE.thenC ?_)
          refine SatC.ret (SatE.then_ret ?_)
          refine SatE.ret1 rfl rfl ?_
          first
          | exact dadd_err (by unfold daddE; (repeat' split) <;> first | rfl | (exfalso; simp_all; done) | (exfalso; simp_all; omega) | (exfalso; omega)) (by decide) hw (hS.sel (by repeat constructor))
          | (have hl : laid = false := by assumption
             rw [hl] at hm
             have e2 : m ++ [(⟨id, name, tags, port, .slice A0 n0 c0⟩ : Ds)] = R := hm
             have e3 : R.map (dsc D.node) = m.map (dsc D.node) ++ [dsc D.node (⟨id, name, tags, port, .slice A0 n0 c0⟩ : Ds)] := by rw [← e2, List.map_append]; rfl
             replace hsl126 : Sl 30 7 v126 (R.map (dsc D.node)) B126 := by rw [e3]; exact hsl126
             exact ⟨by rw [he], { D with sv := R }, (b, C 44 [.int .i64 D.node, str D.addr, v126, cv]) :: (B126 ++ CB), fun _ => rfl, fun h => absurd he h, ⟨hfew (daddE_few he), hc16, hone2, hnd, hcu, v126, cv, B126, CB, hsl126, hsC, rfl⟩, hS.sel (by repeat constructor)⟩)
          | (have hl : laid = true := by assumption
             rw [hl] at hm
             have e2 : m = R := by rw [← hm]; exact (List.append_nil m).symm
             rw [e2] at hsa
             exact ⟨by rw [he], { D with sv := R }, (b, C 44 [.int .i64 D.node, str D.addr, av, cv]) :: (AB ++ CB), fun _ => rfl, fun h => absurd he h, ⟨hfew (daddE_few he), hc16, hone2, hnd, hcu, av, cv, AB, CB, hsa, hsC, rfl⟩, hS.sel (by repeat constructor)⟩)
      · (try simp only [cx, ne_eq] at h3)
        try (exfalso; (first | omega | exact h3 trivial | contradiction | (first | omega | (simp at h3; done))); done)
        all_goals
        refine SatL.guard_n rfl rfl rfl rfl ?_
        refine SatL.guard_n rfl rfl rfl rfl ?_
        refine SatL.guard_n rfl rfl rfl rfl ?_
        refine SatL.pu (RunV.pick_t rfl rfl) rfl ?_
        refine SatL.pu (RunV.move rfl) rfl ?_
        refine SatL.guard_n rfl rfl rfl rfl ?_
        refine SatL.guard_n rfl rfl rfl rfl ?_
        refine SatL.guard_n rfl rfl rfl rfl ?_
        refine SatL.guard_n rfl rfl rfl rfl ?_
        refine SatL.pu (RunV.pick_t rfl rfl) rfl ?_
        refine SatL.nil (SatE.thenC ?_)
        refine SatC.weak (e' := [(0, _), (3, _), (4, _), (32, _)]) (by repeat constructor) ?_
        refine SatC.cond_t rfl ?_
        refine SatC.seq ?_
        refine SatC.region ?_
        refine SatL.pu (RunV.assign rfl) rfl ?_
        refine SatL.nil (SatE.thenC ?_)
        refine SatC.ret (SatE.then_ret ?_)
        refine SatE.ret1 rfl rfl ?_
        first
        | exact dadd_err (by unfold daddE; (repeat' split) <;> first | rfl | (exfalso; simp_all; done) | (exfalso; simp_all; omega) | (exfalso; omega)) (by decide) hw (hS.sel (by repeat constructor))
        | (have hl : laid = false := by assumption
           rw [hl] at hm
           have e2 : m ++ [(⟨id, name, tags, port, .slice A0 n0 c0⟩ : Ds)] = R := hm
           have e3 : R.map (dsc D.node) = m.map (dsc D.node) ++ [dsc D.node (⟨id, name, tags, port, .slice A0 n0 c0⟩ : Ds)] := by rw [← e2, List.map_append]; rfl
           replace hsl126 : Sl 30 7 v126 (R.map (dsc D.node)) B126 := by rw [e3]; exact hsl126
           exact ⟨by rw [he], { D with sv := R }, (b, C 44 [.int .i64 D.node, str D.addr, v126, cv]) :: (B126 ++ CB), fun _ => rfl, fun h => absurd he h, ⟨hfew (daddE_few he), hc16, hone2, hnd, hcu, v126, cv, B126, CB, hsl126, hsC, rfl⟩, hS.sel (by repeat constructor)⟩)
        | (have hl : laid = true := by assumption
           rw [hl] at hm
           have e2 : m = R := by rw [← hm]; exact (List.append_nil m).symm
           rw [e2] at hsa
           exact ⟨by rw [he], { D with sv := R }, (b, C 44 [.int .i64 D.node, str D.addr, av, cv]) :: (AB ++ CB), fun _ => rfl, fun h => absurd he h, ⟨hfew (daddE_few he), hc16, hone2, hnd, hcu, av, cv, AB, CB, hsa, hsC, rfl⟩, hS.sel (by repeat constructor)⟩)
  · (try simp only [cx, ne_eq] at h1)
    try (exfalso; (first | omega | exact h1 trivial | contradiction | (first | omega | (simp at h1; done))); done)
    all_goals
    refine SatL.guard_n rfl rfl rfl rfl ?_
    refine SatL.guard_n rfl rfl rfl rfl ?_
    refine SatL.pu (RunV.pick_t rfl rfl) rfl ?_
    refine SatL.nil (SatE.thenC ?_)
    refine SatC.cond_t rfl ?_
    refine SatC.seq ?_
    refine SatC.region ?_
    refine SatL.pu (RunV.assign rfl) rfl ?_
    refine SatL.nil (SatE.thenC ?_)
    refine SatC.ret (SatE.then_ret ?_)
    refine SatE.ret1 rfl rfl ?_
    first
    | exact dadd_err (by unfold daddE; (repeat' split) <;> first | rfl | (exfalso; simp_all; done) | (exfalso; simp_all; omega) | (exfalso; omega)) (by decide) hw (hS.sel (by repeat constructor))
    | (have hl : laid = false := by assumption
       rw [hl] at hm
       have e2 : m ++ [(⟨id, name, tags, port, .slice A0 n0 c0⟩ : Ds)] = R := hm
       have e3 : R.map (dsc D.node) = m.map (dsc D.node) ++ [dsc D.node (⟨id, name, tags, port, .slice A0 n0 c0⟩ : Ds)] := by rw [← e2, List.map_append]; rfl
       replace hsl126 : Sl 30 7 v126 (R.map (dsc D.node)) B126 := by rw [e3]; exact hsl126
       exact ⟨by rw [he], { D with sv := R }, (b, C 44 [.int .i64 D.node, str D.addr, v126, cv]) :: (B126 ++ CB), fun _ => rfl, fun h => absurd he h, ⟨hfew (daddE_few he), hc16, hone2, hnd, hcu, v126, cv, B126, CB, hsl126, hsC, rfl⟩, hS.sel (by repeat constructor)⟩)
    | (have hl : laid = true := by assumption
       rw [hl] at hm
       have e2 : m = R := by rw [← hm]; exact (List.append_nil m).symm
       rw [e2] at hsa
       exact ⟨by rw [he], { D with sv := R }, (b, C 44 [.int .i64 D.node, str D.addr, av, cv]) :: (AB ++ CB), fun _ => rfl, fun h => absurd he h, ⟨hfew (daddE_few he), hc16, hone2, hnd, hcu, av, cv, AB, CB, hsa, hsC, rfl⟩, hS.sel (by repeat constructor)⟩)
end
end Go.Proofs.Ytbnkcagcfbpiiaa
set_option linter.unusedSimpArgs false
set_option linter.unusedVariables false
set_option maxRecDepth 100000
set_option maxHeartbeats 8000000
namespace Go.Proofs.Ytbnkcagcfbpiiaa
open Go Go.Proofs Go.RowKit
def dtk (c : Dc) : Dc := { c with h := tickC c.h }
def dfl (l : List Dc) (c : Dc) : Dc := if c.h.p.kind = 3 then { c with h := folC c.h (dw true c.h.p.of l) } else c
def dch2 (l : List Dc) : List Dc := (l.map dtk).map (dfl (l.map dtk))
def dgo (ch : List Dc) (s : Ds) : Bool := ch.any fun c => decide (c.svc = s.id) && over c.h
def drem1 (D : Dl) (k : List UInt8) : Dl := if (gt Ds.id D.sv k).isSome = true then { D with sv := wis k D.sv, ch := wsv k D.ch } else D
def dgone (D : Dl) : List (List UInt8) := (D.sv.filter (dgo (dch2 D.ch))).map Ds.id
def dTick (D : Dl) : Dl := (dgone D).foldl drem1 { D with ch := dch2 D.ch }
theorem dfl_id (l : List Dc) (c : Dc) : (dfl l c).id = c.id := by unfold dfl; split <;> rfl
theorem dfl_svc (l : List Dc) (c : Dc) : (dfl l c).svc = c.svc := by unfold dfl; split <;> rfl
theorem dfl_p (l : List Dc) (c : Dc) : (dfl l c).h.p = c.h.p := by
  unfold dfl
  split
  · exact folC_p _ _
  · rfl
theorem dw_fol (l0 : List Dc) (sv : List UInt8) (A E : List Dc) : dw true sv (A.map (dfl l0) ++ E) = dw true sv (A ++ E) := by
  induction A with
  | nil => rfl
  | cons c A ih =>
    rw [List.map_cons, List.cons_append, List.cons_append]
    simp only [dw]
    rw [ih, dfl_svc, dfl_p]
    split
    · rename_i h
      have e : dfl l0 c = c := if_neg (fun hk => h.2 (by simp [hk]))
      rw [e]
    · rfl
theorem map_ids {f : Dc → Dc} (h : ∀ c, (f c).id = c.id) (l : List Dc) : (l.map f).map Dc.id = l.map Dc.id := by
  rw [List.map_map]
  exact List.map_congr_left fun c _ => h c
theorem part_ids {f : Dc → Dc} (h : ∀ c, (f c).id = c.id) (l : List Dc) (i : Nat) : ((l.take i).map f ++ l.drop i).map Dc.id = l.map Dc.id := by
  rw [List.map_append, map_ids h, ← List.map_append, List.take_append_drop]
theorem part_step {α : Type} {f : α → α} {l : List α} {i : Nat} {y : α} (hy : l[i]? = some y) : (l.take (i + 1)).map f ++ l.drop (i + 1) = (l.take i).map f ++ f y :: l.drop (i + 1) := by
  rw [List.take_add_one, hy, List.map_append]
  simp
theorem part_len {α : Type} {f : α → α} (l : List α) (i : Nat) : ((l.take i).map f ++ l.drop i).length = l.length := by
  simp
  omega
theorem part_get {α : Type} {f : α → α} {l : List α} {i : Nat} {y : α} (hy : l[i]? = some y) : ((l.take i).map f ++ l.drop i) = (l.take i).map f ++ y :: l.drop (i + 1) := by
  rw [drop_cons hy]
theorem part_at {α : Type} {f : α → α} {l : List α} {i : Nat} {y : α} (hy : l[i]? = some y) : ((l.take i).map f ++ l.drop i)[i]? = some y := by
  have hlt := (List.getElem?_eq_some_iff.1 hy).1
  have hl : ((l.take i).map f).length = i := by simp; omega
  rw [List.getElem?_append_right (by omega), hl, Nat.sub_self, List.getElem?_drop]
  exact hy
theorem any_take {α : Type} {f : α → Bool} {l : List α} {i : Nat} {y : α} (hy : l[i]? = some y) : (l.take (i + 1)).any f = ((l.take i).any f || f y) := by
  rw [List.take_add_one, hy, List.any_append]
  simp
section
variable {b : Nat} {D : Dl} {L : List (Nat × Obj)} {w : World}
theorem dtick_ref (hbd : ∀ c ∈ D.ch, Bd 1000000 c.h) (h : Dok b D L) (hown : Own w L) : Ret Try.prog 17 #[.pointer (some ⟨b, 0, none⟩)] w fun u w' => ∃ GB L', Sl 9 1 u ((dgone D).map rs) GB ∧ Dok b (dTick D) L' ∧ St w (L.map Prod.fst) (GB ++ L') w' := by
  obtain ⟨hs16, hc16, hone, hsu, hcu, sv, cv, SB, CB, hsS, hsC, rfl⟩ := h
  have hS := St.init hown
  generalize hX : List.map Prod.fst ((b, C 44 [.int .i64 D.node, str D.addr, sv, cv]) :: (SB ++ CB)) = X at hS ⊢
  obtain ⟨vs, hvs⟩ := hsC.slv
  obtain ⟨vt, hvt⟩ := hsS.slv
  rw [List.length_map] at hvs hvt
  generalize hgb : blk CB = gb at hvs
  refine Ret.enter Try.func17 Try.ntmps17 rfl rfl ?_
  simp only [argEnv, Nat.reduceAdd]
  refine SatC.seq ?_
  refine SatC.region ?_
  refine SatL.pu (RunV.assign rfl) rfl ?_
  refine SatL.nil (SatE.thenC ?_)
  refine SatC.seq ?_
  refine SatC.seq ?_
  refine SatC.region ?_
  refine SatL.pu (RunV.assign rfl) rfl ?_
  refine SatL.nil (SatE.thenC ?_)
  refine SatC.block ?_
  refine SatC.loopK (G := Nat × List (Nat × Obj)) (V := fun ⟨i, KB⟩ => [(3, .int .i64 (i : Int))]) (Cn := [(0, _), (2, _)]) (I := fun ⟨i, KB⟩ w' => i ≤ D.ch.length ∧ blk KB = gb ∧ Sl 87 19 cv (((D.ch.take i).map dtk ++ D.ch.drop i).map (dcc D.node)) KB ∧ St w X ((b, C 44 [.int .i64 D.node, str D.addr, sv, cv]) :: (SB ++ KB)) w') (μ := fun ⟨i, KB⟩ => D.ch.length - i) (0, CB) ?_ (by repeat constructor) ?_
  · exact ⟨Nat.zero_le _, hgb, by simpa using hsC, hS⟩
  clear hS
  rintro ⟨i, KB⟩ w1 ⟨hi, hgk, hsk, hS⟩
  refine SatC.weak (e' := [(0, _), (2, _), (3, _)]) (by repeat constructor) ?_
  refine SatC.seq ?_
  refine SatC.seq ?_
  refine SatC.region ?_
  refine SatL.pu (RunV.move rfl) rfl ?_
  refine SatL.pu (RunV.move rfl) rfl ?_
  first | refine SatL.pu (RunV.nil_ptr rfl) rfl ?_ | refine SatL.pu (RunV.nil_func rfl) rfl ?_ | refine SatL.pu (RunV.nil_yield rfl) rfl ?_
  first | refine SatL.pu (RunV.fieldAddrL rfl rfl rfl) rfl ?_ | refine SatL.pu (RunV.fieldAddr rfl rfl rfl) rfl ?_
  refine SatL.pu (RunV.load1 hS rfl rfl (by repeat constructor) rfl) rfl ?_
  first | refine SatL.pu (RunV.lenR (by assumption) rfl rfl) rfl ?_ | refine SatL.pu (RunV.lenS rfl rfl) rfl ?_
  refine SatL.pu (RunV.lss rfl rfl) rfl ?_
  refine SatL.nil (SatE.thenC ?_)
  refine SatC.cond rfl (fun h1 => ?_) (fun h1 => ?_)
  · (try simp only [cx, ne_eq] at h1)
    try (exfalso; (first | omega | exact h1 trivial | contradiction | (first | omega | (simp at h1; done))); done)
    all_goals
    refine SatC.skip (SatE.thenC ?_)
    refine SatC.seq ?_
    refine SatC.block ?_
    obtain ⟨y, hy⟩ : ∃ y, D.ch[i]? = some y := ⟨_, List.getElem?_eq_getElem (by omega)⟩
    rw [part_get hy] at hsk
    obtain ⟨pre, post, hKB, hpl, hnew⟩ := mid_sl hsk
    rw [List.length_map, List.length_take] at hpl
    rw [hgk] at hKB hnew
    subst hKB
    have hby := hbd y (List.mem_of_getElem? hy)
    refine SatC.region ?_
    refine SatL.pu (RunV.move rfl) rfl ?_
    first | refine SatL.pu (RunV.nil_ptr rfl) rfl ?_ | refine SatL.pu (RunV.nil_func rfl) rfl ?_ | refine SatL.pu (RunV.nil_yield rfl) rfl ?_
    first | refine SatL.pu (RunV.fieldAddrL rfl rfl rfl) rfl ?_ | refine SatL.pu (RunV.fieldAddr rfl rfl rfl) rfl ?_
    refine SatL.pu (RunV.load1 hS rfl rfl (by repeat constructor) rfl) rfl ?_
    refine SatL.pu (RunV.move rfl) rfl ?_
    first | refine SatL.pu (RunV.indexR (by assumption) rfl rfl rfl (by omega) (by omega) rfl) rfl ?_ | refine SatL.pu (RunV.indexS rfl rfl rfl (by omega) (by omega) rfl) rfl ?_
    first | refine SatL.pu (RunV.fieldAddrL rfl rfl rfl) rfl ?_ | refine SatL.pu (RunV.fieldAddr rfl rfl rfl) rfl ?_
    refine SatL.op rfl (OpW.enter rfl rfl rfl (rfl) (tick_ref (c := y.h) (pre := pre) (post := post) (by omega) (hS.ownT (A := [(gb, C 87 (pre ++ (rc y.h ++ post)))]) (by repeat constructor)) hby) ?_)
    rintro r2 w2 ⟨rfl, h⟩
    replace hS := hS.callT (A := [(gb, C 87 (pre ++ (rc y.h ++ post)))]) (by repeat constructor) h
    refine SatL.nil (SatE.blk_normal (SatE.thenC ?_))
    refine SatC.weak (e' := [(0, _), (2, _), (3, _)]) (by repeat constructor) ?_
    refine SatC.region ?_
    refine SatL.pu (RunV.move rfl) rfl ?_
    refine SatL.pu (RunV.add rfl rfl (by first | exact wrapI64 (by omega) | rfl)) rfl ?_
    refine SatL.pu (RunV.assign rfl) rfl ?_
    refine SatL.nil ?_
    refine SatE.again ((i + 1, [(gb, C 87 (pre ++ (rc (tickC y.h) ++ post)))])) ?_ (by first | omega | (dsimp only; omega)) (by repeat constructor)
    refine ⟨by omega, rfl, ?_, hS.sel (by repeat constructor)⟩
    rw [part_step hy]
    exact hnew (tickC y.h)
  · (try simp only [cx, ne_eq] at h1)
    try (exfalso; (first | omega | exact h1 trivial | contradiction | (first | omega | (simp at h1; done))); done)
    all_goals
    refine SatC.exit (SatE.then_exit (SatE.then_exit (SatE.blk_exit (SatE.thenC ?_))))
    refine SatC.seq ?_
    refine SatC.seq ?_
    rw [List.take_of_length_le (by omega), List.drop_of_length_le (by omega), List.append_nil] at hsk
    have hl1 : (D.ch.map dtk).length = D.ch.length := List.length_map ..
    have hi1 : (D.ch.map dtk).map Dc.id = D.ch.map Dc.id := map_ids (f := dtk) (fun c => rfl) D.ch
    generalize hC1 : D.ch.map dtk = C1 at hsk hl1 hi1
    refine SatC.region ?_
    refine SatL.pu (RunV.assign rfl) rfl ?_
    refine SatL.nil (SatE.thenC ?_)
    refine SatC.block ?_
    refine SatC.loopK (G := Nat × List (Nat × Obj)) (V := fun ⟨i, KB⟩ => [(4, .int .i64 (i : Int))]) (Cn := [(0, _), (2, _)]) (I := fun ⟨i, KB⟩ w' => i ≤ C1.length ∧ blk KB = gb ∧ Sl 87 19 cv (((C1.take i).map (dfl C1) ++ C1.drop i).map (dcc D.node)) KB ∧ St w X ((b, C 44 [.int .i64 D.node, str D.addr, sv, cv]) :: (SB ++ KB)) w') (μ := fun ⟨i, KB⟩ => C1.length - i) (0, KB) ?_ (by repeat constructor) ?_
    · exact ⟨Nat.zero_le _, hgk, by simpa using hsk, hS⟩
    clear hS
    rintro ⟨i, KB⟩ w2 ⟨hi, hgk, hsk, hS⟩
    refine SatC.weak (e' := [(0, _), (2, _), (4, _)]) (by repeat constructor) ?_
    refine SatC.seq ?_
    refine SatC.seq ?_
    refine SatC.region ?_
    refine SatL.pu (RunV.move rfl) rfl ?_
    refine SatL.pu (RunV.move rfl) rfl ?_
    first | refine SatL.pu (RunV.nil_ptr rfl) rfl ?_ | refine SatL.pu (RunV.nil_func rfl) rfl ?_ | refine SatL.pu (RunV.nil_yield rfl) rfl ?_
    first | refine SatL.pu (RunV.fieldAddrL rfl rfl rfl) rfl ?_ | refine SatL.pu (RunV.fieldAddr rfl rfl rfl) rfl ?_
    refine SatL.pu (RunV.load1 hS rfl rfl (by repeat constructor) rfl) rfl ?_
    first | refine SatL.pu (RunV.lenR (by assumption) rfl rfl) rfl ?_ | refine SatL.pu (RunV.lenS rfl rfl) rfl ?_
    refine SatL.pu (RunV.lss rfl rfl) rfl ?_
    refine SatL.nil (SatE.thenC ?_)
    refine SatC.cond rfl (fun h2 => ?_) (fun h2 => ?_)
    · (try simp only [cx, ne_eq] at h2)
      try (exfalso; (first | omega | exact h2 trivial | contradiction | (first | omega | (simp at h2; done))); done)
      all_goals
      refine SatC.skip (SatE.thenC ?_)
      refine SatC.seq ?_
      refine SatC.block ?_
      refine SatC.seq ?_
      obtain ⟨y, hy⟩ : ∃ y, C1[i]? = some y := ⟨_, List.getElem?_eq_getElem (by omega)⟩
      have hDk : Dok b { D with ch := (C1.take i).map (dfl C1) ++ C1.drop i } ((b, C 44 [.int .i64 D.node, str D.addr, sv, cv]) :: (SB ++ KB)) := ⟨hs16, by show ((C1.take i).map (dfl C1) ++ C1.drop i).length ≤ 16; rw [part_len, hl1]; exact hc16, hone, hsu, by show (((C1.take i).map (dfl C1) ++ C1.drop i).map Dc.id).Nodup; rw [part_ids (dfl_id C1), hi1]; exact hcu, sv, cv, SB, KB, hsS, hsk, rfl⟩
      have hdw : dw true y.h.p.of ((C1.take i).map (dfl C1) ++ C1.drop i) = dw true y.h.p.of C1 := by rw [dw_fol, List.take_append_drop]
      have hgy : (((C1.take i).map (dfl C1) ++ C1.drop i).map (dcc D.node))[i]? = some (dcc D.node y) := by
        rw [List.getElem?_map, part_at hy]
        rfl
      have hsk2 := hsk
      rw [part_get hy] at hsk2
      obtain ⟨pre, post, hKB, hpl, hnew⟩ := mid_sl hsk2
      rw [List.length_map, List.length_take] at hpl
      rw [hgk] at hKB hnew
      clear hsk2
      subst hKB
      refine SatC.region ?_
      refine SatL.pu (RunV.move rfl) rfl ?_
      first | refine SatL.pu (RunV.nil_ptr rfl) rfl ?_ | refine SatL.pu (RunV.nil_func rfl) rfl ?_ | refine SatL.pu (RunV.nil_yield rfl) rfl ?_
      first | refine SatL.pu (RunV.fieldAddrL rfl rfl rfl) rfl ?_ | refine SatL.pu (RunV.fieldAddr rfl rfl rfl) rfl ?_
      refine SatL.pu (RunV.load1 hS rfl rfl (by repeat constructor) rfl) rfl ?_
      refine SatL.pu (RunV.move rfl) rfl ?_
      first | refine SatL.pu (RunV.indexR (by assumption) rfl rfl rfl (by omega) (by omega) rfl) rfl ?_ | refine SatL.pu (RunV.indexS rfl rfl rfl (by omega) (by omega) rfl) rfl ?_
      first | refine SatL.pu (RunV.fieldAddrL rfl rfl rfl) rfl ?_ | refine SatL.pu (RunV.fieldAddr rfl rfl rfl) rfl ?_
      first | refine SatL.pu (RunV.fieldAddrL rfl rfl rfl) rfl ?_ | refine SatL.pu (RunV.fieldAddr rfl rfl rfl) rfl ?_
      first | refine SatL.pu (RunV.fieldAddrL rfl rfl rfl) rfl ?_ | refine SatL.pu (RunV.fieldAddr rfl rfl rfl) rfl ?_
      refine SatL.pu (RunV.loadR1g i 7 (hgk ▸ Sl.rd hsk hS (by repeat constructor)) rfl rfl (by omega) hgy rfl) rfl ?_
      refine SatL.pu (RunV.eql rfl rfl) rfl ?_
      refine SatL.nil (SatE.thenC ?_)
      refine SatC.weak (e' := [(0, _), (2, _), (4, _), (46, _)]) (by repeat constructor) ?_
      refine SatC.cond rfl (fun h3 => ?_) (fun h3 => ?_)
      · (try simp only [cx, ne_eq] at h3)
        try (exfalso; (first | omega | exact h3 trivial | contradiction | (first | omega | (simp at h3; done))); done)
        all_goals
        refine SatC.drawnT 19 hS (hS) (by kernel_rfl) ?_
        clear hS
        intro w3 hh hS hD
        refine SatD.tkp 0 rfl [6, 5, 3, 2, 1] hD (fun _ hw => RunV.move rfl) ?_
        first | refine SatD.tkp 1 rfl [6, 5, 3, 2] hD (fun _ hw => RunV.nil_ptr rfl) ?_ | refine SatD.tkp 1 rfl [6, 5, 3, 2] hD (fun _ hw => RunV.nil_func rfl) ?_ | refine SatD.tkp 1 rfl [6, 5, 3, 2] hD (fun _ hw => RunV.nil_yield rfl) ?_
        first | refine SatD.tkp 2 rfl [6, 5, 3] hD (fun _ hw => RunV.fieldAddrL rfl rfl rfl) ?_ | refine SatD.tkp 2 rfl [6, 5, 3] hD (fun _ hw => RunV.fieldAddr rfl rfl rfl) ?_
        refine SatD.tkp 3 rfl [6, 5] hD (fun _ hw => RunV.load1 hw rfl rfl (by repeat constructor) rfl) ?_
        refine SatD.tkp 4 rfl [6, 5] hD (fun _ hw => RunV.move rfl) ?_
        first | refine SatD.tkp 5 rfl [6] hD (fun _ hw => RunV.indexR (by assumption) rfl rfl rfl (by omega) (by omega) rfl) ?_ | refine SatD.tkp 5 rfl [6] hD (fun _ hw => RunV.indexS rfl rfl rfl (by omega) (by omega) rfl) ?_
        first | refine SatD.tk 6 rfl hD (fun _ hw => RunV.fieldAddrL rfl rfl rfl) ?_ | refine SatD.tk 6 rfl hD (fun _ hw => RunV.fieldAddr rfl rfl rfl) ?_
        refine SatD.tkp 7 rfl [18] hD (fun _ hw => RunV.move rfl) ?_
        refine SatD.tkp 8 rfl [18, 17, 16, 15, 14, 13, 11, 10, 9] hD (fun _ hw => RunV.move rfl) ?_
        first | refine SatD.tkp 9 rfl [18, 17, 16, 15, 14, 13, 11, 10] hD (fun _ hw => RunV.nil_ptr rfl) ?_ | refine SatD.tkp 9 rfl [18, 17, 16, 15, 14, 13, 11, 10] hD (fun _ hw => RunV.nil_func rfl) ?_ | refine SatD.tkp 9 rfl [18, 17, 16, 15, 14, 13, 11, 10] hD (fun _ hw => RunV.nil_yield rfl) ?_
        first | refine SatD.tkp 10 rfl [18, 17, 16, 15, 14, 13, 11] hD (fun _ hw => RunV.fieldAddrL rfl rfl rfl) ?_ | refine SatD.tkp 10 rfl [18, 17, 16, 15, 14, 13, 11] hD (fun _ hw => RunV.fieldAddr rfl rfl rfl) ?_
        refine SatD.tkp 11 rfl [18, 17, 16, 15, 14, 13] hD (fun _ hw => RunV.load1 hw rfl rfl (by repeat constructor) rfl) ?_
        refine SatD.tkp 12 rfl [18, 17, 16, 15, 14, 13] hD (fun _ hw => RunV.move rfl) ?_
        first | refine SatD.tkp 13 rfl [18, 17, 16, 15, 14] hD (fun _ hw => RunV.indexR (by assumption) rfl rfl rfl (by omega) (by omega) rfl) ?_ | refine SatD.tkp 13 rfl [18, 17, 16, 15, 14] hD (fun _ hw => RunV.indexS rfl rfl rfl (by omega) (by omega) rfl) ?_
        first | refine SatD.tkp 14 rfl [18, 17, 16, 15] hD (fun _ hw => RunV.fieldAddrL rfl rfl rfl) ?_ | refine SatD.tkp 14 rfl [18, 17, 16, 15] hD (fun _ hw => RunV.fieldAddr rfl rfl rfl) ?_
        first | refine SatD.tkp 15 rfl [18, 17, 16] hD (fun _ hw => RunV.fieldAddrL rfl rfl rfl) ?_ | refine SatD.tkp 15 rfl [18, 17, 16] hD (fun _ hw => RunV.fieldAddr rfl rfl rfl) ?_
        first | refine SatD.tkp 16 rfl [18, 17] hD (fun _ hw => RunV.fieldAddrL rfl rfl rfl) ?_ | refine SatD.tkp 16 rfl [18, 17] hD (fun _ hw => RunV.fieldAddr rfl rfl rfl) ?_
        refine SatD.tkp 17 rfl [18] hD (fun _ hw => RunV.loadR1g i 11 (hgk ▸ Sl.rd hsk hw (by repeat constructor)) rfl rfl (by omega) hgy rfl) ?_
        refine SatD.ef 18 rfl (OpW.enter rfl rfl rfl (rfl) (dhealth_ref (D := { D with ch := (C1.take i).map (dfl C1) ++ C1.drop i }) y.h.p.of true hDk hS.toOwn) ?_)
        rintro r4 w4 ⟨rfl, h⟩
        replace hS := St.callN hS h
        refine keepS (hS.sel (by repeat constructor)) (fun hD => ?_)
        refine SatD.effF (by kernel_rfl) rfl rfl (OpW.enter rfl rfl rfl (rfl) (fol_ref (c := y.h) (pre := pre) (post := post) _ (by omega) (hS.ownT (A := [(gb, C 87 (pre ++ (rc y.h ++ post)))]) (by repeat constructor))) ?_)
        rintro r5 w5 ⟨rfl, h⟩
        replace hS := hS.callT (A := [(gb, C 87 (pre ++ (rc y.h ++ post)))]) (by repeat constructor) h
        refine SatD.done 0 (by kernel_rfl) (SatE.blk_normal (SatE.thenC ?_))
        clear hD
        refine SatC.weak (e' := [(0, _), (2, _), (4, _)]) (by repeat constructor) ?_
        refine SatC.region ?_
        refine SatL.pu (RunV.move rfl) rfl ?_
        refine SatL.pu (RunV.add rfl rfl (by first | exact wrapI64 (by omega) | rfl)) rfl ?_
        refine SatL.pu (RunV.assign rfl) rfl ?_
        refine SatL.nil ?_
        refine SatE.again ((i + 1, [(gb, C 87 (pre ++ (rc (folC y.h (dw true y.h.p.of ((C1.take i).map (dfl C1) ++ C1.drop i))) ++ post)))])) ?_ (by first | omega | (dsimp only; omega)) (by repeat constructor)
        refine ⟨by omega, rfl, ?_, hS.sel (by repeat constructor)⟩
        have e : dfl C1 y = { y with h := folC y.h (dw true y.h.p.of ((C1.take i).map (dfl C1) ++ C1.drop i)) } := by rw [hdw]; exact if_pos (by assumption)
        rw [part_step hy, e]
        exact hnew _
      · (try simp only [cx, ne_eq] at h3)
        try (exfalso; (first | omega | exact h3 trivial | contradiction | (first | omega | (simp at h3; done))); done)
        all_goals
        refine SatC.skip (SatE.blk_normal (SatE.thenC ?_))
        refine SatC.region ?_
        refine SatL.pu (RunV.move rfl) rfl ?_
        refine SatL.pu (RunV.add rfl rfl (by first | exact wrapI64 (by omega) | rfl)) rfl ?_
        refine SatL.pu (RunV.assign rfl) rfl ?_
        refine SatL.nil ?_
        refine SatE.again ((i + 1, [(gb, C 87 (pre ++ (rc y.h ++ post)))])) ?_ (by first | omega | (dsimp only; omega)) (by repeat constructor)
        refine ⟨by omega, rfl, ?_, hS.sel (by repeat constructor)⟩
        have e : dfl C1 y = y := if_neg (by assumption)
        rw [part_step hy, e, ← part_get hy]
        exact hsk
    · (try simp only [cx, ne_eq] at h2)
      try (exfalso; (first | omega | exact h2 trivial | contradiction | (first | omega | (simp at h2; done))); done)
      all_goals
      refine SatC.exit (SatE.then_exit (SatE.then_exit (SatE.blk_exit (SatE.thenC ?_))))
      refine SatC.seq ?_
      rw [List.take_of_length_le (by omega), List.drop_of_length_le (by omega), List.append_nil] at hsk
      have hl2 : (C1.map (dfl C1)).length = D.ch.length := by rw [List.length_map, hl1]
      have hi2 : (C1.map (dfl C1)).map Dc.id = D.ch.map Dc.id := (map_ids (dfl_id C1) C1).trans hi1
      have hC2 : dch2 D.ch = C1.map (dfl C1) := by unfold dch2; rw [hC1]
      generalize C1.map (dfl C1) = C2 at hsk hl2 hi2 hC2
      obtain ⟨vu, hvu⟩ := hsk.slv
      rw [List.length_map, hgk] at hvu
      clear hvs
      refine SatC.region ?_
      refine SatL.pu (RunV.assign rfl) rfl ?_
      refine SatL.nil (SatE.thenC ?_)
      refine SatC.seq ?_
      refine SatC.seq ?_
      refine SatC.region ?_
      refine SatL.pu (RunV.assign rfl) rfl ?_
      refine SatL.nil (SatE.thenC ?_)
      refine SatC.block ?_
      refine SatC.loopK (G := Nat × Value × List (Nat × Obj)) (V := fun ⟨i, gv, GB⟩ => [(6, .int .i64 (i : Int)), (5, gv)]) (Cn := [(0, _), (2, _)]) (I := fun ⟨i, gv, GB⟩ w' => i ≤ D.sv.length ∧ Sl 9 1 gv ((((D.sv.take i).filter (dgo C2)).map Ds.id).map rs) GB ∧ St w X (GB ++ (b, C 44 [.int .i64 D.node, str D.addr, sv, cv]) :: (SB ++ KB)) w') (μ := fun ⟨i, gv, GB⟩ => D.sv.length - i) (0, .slice none 0 0, []) ?_ (by repeat constructor) ?_
      · exact ⟨Nat.zero_le _, .nil, hS⟩
      clear hS
      rintro ⟨i, gv, GB⟩ w3 ⟨hi, hsg, hS⟩
      refine SatC.weak (e' := [(0, _), (2, _), (5, _), (6, _)]) (by repeat constructor) ?_
      refine SatC.seq ?_
      refine SatC.seq ?_
      refine SatC.region ?_
      refine SatL.pu (RunV.move rfl) rfl ?_
      refine SatL.pu (RunV.move rfl) rfl ?_
      first | refine SatL.pu (RunV.nil_ptr rfl) rfl ?_ | refine SatL.pu (RunV.nil_func rfl) rfl ?_ | refine SatL.pu (RunV.nil_yield rfl) rfl ?_
      first | refine SatL.pu (RunV.fieldAddrL rfl rfl rfl) rfl ?_ | refine SatL.pu (RunV.fieldAddr rfl rfl rfl) rfl ?_
      refine SatL.pu (RunV.load1 hS rfl rfl (by repeat constructor) rfl) rfl ?_
      first | refine SatL.pu (RunV.lenR (by assumption) rfl rfl) rfl ?_ | refine SatL.pu (RunV.lenS rfl rfl) rfl ?_
      refine SatL.pu (RunV.lss rfl rfl) rfl ?_
      refine SatL.nil (SatE.thenC ?_)
      refine SatC.cond rfl (fun h3 => ?_) (fun h3 => ?_)
      · (try simp only [cx, ne_eq] at h3)
        try (exfalso; (first | omega | exact h3 trivial | contradiction | (first | omega | (simp at h3; done))); done)
        all_goals
        refine SatC.skip (SatE.thenC ?_)
        refine SatC.seq ?_
        refine SatC.block ?_
        refine SatC.seq ?_
        obtain ⟨y, hy⟩ : ∃ y, D.sv[i]? = some y := ⟨_, List.getElem?_eq_getElem (by omega)⟩
        have hfl := filter_take_len D.sv i (dgo C2)
        refine SatC.region ?_
        refine SatL.pu (RunV.assign rfl) rfl ?_
        refine SatL.nil (SatE.thenC ?_)
        refine SatC.seq ?_
        refine SatC.seq ?_
        refine SatC.region ?_
        refine SatL.pu (RunV.assign rfl) rfl ?_
        refine SatL.nil (SatE.thenC ?_)
        refine SatC.block ?_
        refine SatC.loopK (G := Nat × Bool) (V := fun ⟨j, ov⟩ => [(8, .int .i64 (j : Int)), (7, .bool ov)]) (Cn := [(0, _), (2, _), (5, _), (6, _)]) (I := fun ⟨j, ov⟩ w' => j ≤ C2.length ∧ ov = (C2.take j).any (fun c => decide (c.svc = y.id) && over c.h) ∧ St w X (GB ++ (b, C 44 [.int .i64 D.node, str D.addr, sv, cv]) :: (SB ++ KB)) w') (μ := fun ⟨j, ov⟩ => C2.length - j) (0, false) ?_ (by repeat constructor) ?_
        · exact ⟨Nat.zero_le _, rfl, hS⟩
        clear hS
        rintro ⟨j, ov⟩ w4 ⟨hj, hov, hS⟩
        refine SatC.weak (e' := [(0, _), (2, _), (5, _), (6, _), (7, _), (8, _)]) (by repeat constructor) ?_
        refine SatC.seq ?_
        refine SatC.seq ?_
        refine SatC.region ?_
        refine SatL.pu (RunV.move rfl) rfl ?_
        refine SatL.pu (RunV.move rfl) rfl ?_
        first | refine SatL.pu (RunV.nil_ptr rfl) rfl ?_ | refine SatL.pu (RunV.nil_func rfl) rfl ?_ | refine SatL.pu (RunV.nil_yield rfl) rfl ?_
        first | refine SatL.pu (RunV.fieldAddrL rfl rfl rfl) rfl ?_ | refine SatL.pu (RunV.fieldAddr rfl rfl rfl) rfl ?_
        refine SatL.pu (RunV.load1 hS rfl rfl (by repeat constructor) rfl) rfl ?_
        first | refine SatL.pu (RunV.lenR (by assumption) rfl rfl) rfl ?_ | refine SatL.pu (RunV.lenS rfl rfl) rfl ?_
        refine SatL.pu (RunV.lss rfl rfl) rfl ?_
        refine SatL.nil (SatE.thenC ?_)
        refine SatC.cond rfl (fun h4 => ?_) (fun h4 => ?_)
        · (try simp only [cx, ne_eq] at h4)
          try (exfalso; (first | omega | exact h4 trivial | contradiction | (first | omega | (simp at h4; done))); done)
          all_goals
          refine SatC.skip (SatE.thenC ?_)
          refine SatC.seq ?_
          refine SatC.block ?_
          obtain ⟨z, hz⟩ : ∃ y, C2[j]? = some y := ⟨_, List.getElem?_eq_getElem (by omega)⟩
          obtain ⟨A, E, hl, hA⟩ := split_get hz
          have hsk2 := hsk
          rw [hl] at hsk2
          obtain ⟨pre, post, hmem, hpl⟩ := mid_mem hsk2
          rw [hgk] at hmem
          refine SatC.drawnT 32 hS (hS) (by kernel_rfl) ?_
          clear hS
          intro w5 hh hS hD
          refine SatD.tk 0 rfl hD (fun _ hw => RunV.move rfl) ?_
          refine SatD.tk 1 rfl hD (fun _ hw => RunV.move rfl) ?_
          refine SatD.ways 86 rfl (fun h5 => ?_) (fun h5 => ?_)
          · (try simp only [cx, ne_eq] at h5)
            try (exfalso; (first | omega | exact h5 trivial | contradiction | (first | omega | (simp at h5; done))); done)
            all_goals
            refine SatD.sk 2 rfl [] hD ?_
            refine SatD.sk 3 rfl [] hD ?_
            refine SatD.sk 4 rfl [] hD ?_
            refine SatD.sk 5 rfl [] hD ?_
            refine SatD.sk 6 rfl [] hD ?_
            refine SatD.sk 7 rfl [] hD ?_
            refine SatD.sk 8 rfl [] hD ?_
            refine SatD.sk 9 rfl [] hD ?_
            refine SatD.sk 10 rfl [] hD ?_
            refine SatD.sk 11 rfl [] hD ?_
            refine SatD.sk 12 rfl [] hD ?_
            refine SatD.sk 13 rfl [] hD ?_
            refine SatD.sk 14 rfl [] hD ?_
            refine SatD.sk 15 rfl [] hD ?_
            refine SatD.sk 16 rfl [] hD ?_
            refine SatD.sk 17 rfl [] hD ?_
            refine SatD.sk 18 rfl [] hD ?_
            refine SatD.sk 19 rfl [] hD ?_
            refine SatD.sk 20 rfl [] hD ?_
            refine SatD.sk 21 rfl [] hD ?_
            refine SatD.sk 22 rfl [] hD ?_
            refine SatD.sk 23 rfl [] hD ?_
            refine SatD.sk 24 rfl [] hD ?_
            refine SatD.sk 25 rfl [] hD ?_
            refine SatD.sk 26 rfl [] hD ?_
            refine SatD.sk 27 rfl [] hD ?_
            refine SatD.sk 28 rfl [] hD ?_
            refine SatD.sk 29 rfl [] hD ?_
            refine SatD.tk 30 rfl hD (fun _ hw => RunV.pick_t rfl rfl) ?_
            refine SatD.tk 31 rfl hD (fun _ hw => RunV.assign rfl) ?_
            refine SatD.done 0 (by kernel_rfl) (SatE.blk_normal (SatE.thenC ?_))
            clear hD
            refine SatC.weak (e' := [(0, _), (2, _), (5, _), (6, _), (7, _), (8, _)]) (by repeat constructor) ?_
            refine SatC.region ?_
            refine SatL.pu (RunV.move rfl) rfl ?_
            refine SatL.pu (RunV.add rfl rfl (by first | exact wrapI64 (by omega) | rfl)) rfl ?_
            refine SatL.pu (RunV.assign rfl) rfl ?_
            refine SatL.nil ?_
            refine SatE.again ((j + 1, true)) ?_ (by first | omega | (dsimp only; omega)) (by repeat constructor)
            refine ⟨by omega, ?_, hS⟩
            have hx : ov = true := by assumption
            rw [any_take hz, ← hov, hx]
            rfl
          · (try simp only [cx, ne_eq] at h5)
            try (exfalso; (first | omega | exact h5 trivial | contradiction | (first | omega | (simp at h5; done))); done)
            all_goals
            refine SatD.tk 2 rfl hD (fun _ hw => RunV.move rfl) ?_
            first | refine SatD.tk 3 rfl hD (fun _ hw => RunV.nil_ptr rfl) ?_ | refine SatD.tk 3 rfl hD (fun _ hw => RunV.nil_func rfl) ?_ | refine SatD.tk 3 rfl hD (fun _ hw => RunV.nil_yield rfl) ?_
            first | refine SatD.tk 4 rfl hD (fun _ hw => RunV.fieldAddrL rfl rfl rfl) ?_ | refine SatD.tk 4 rfl hD (fun _ hw => RunV.fieldAddr rfl rfl rfl) ?_
            refine SatD.tk 5 rfl hD (fun _ hw => RunV.load1 hw rfl rfl (by repeat constructor) rfl) ?_
            refine SatD.tk 6 rfl hD (fun _ hw => RunV.move rfl) ?_
            first | refine SatD.tk 7 rfl hD (fun _ hw => RunV.indexR (by assumption) rfl rfl rfl (by omega) (by omega) rfl) ?_ | refine SatD.tk 7 rfl hD (fun _ hw => RunV.indexS rfl rfl rfl (by omega) (by omega) rfl) ?_
            first | refine SatD.tk 8 rfl hD (fun _ hw => RunV.fieldAddrL rfl rfl rfl) ?_ | refine SatD.tk 8 rfl hD (fun _ hw => RunV.fieldAddr rfl rfl rfl) ?_
            first | refine SatD.tk 9 rfl hD (fun _ hw => RunV.fieldAddrL rfl rfl rfl) ?_ | refine SatD.tk 9 rfl hD (fun _ hw => RunV.fieldAddr rfl rfl rfl) ?_
            refine SatD.tk 10 rfl hD (fun _ hw => RunV.loadR1g j 2 (hgk ▸ Sl.rd hsk hw (by repeat constructor)) rfl rfl (by omega) (map_get hz) rfl) ?_
            refine SatD.tk 11 rfl hD (fun _ hw => RunV.move rfl) ?_
            first | refine SatD.tk 12 rfl hD (fun _ hw => RunV.nil_ptr rfl) ?_ | refine SatD.tk 12 rfl hD (fun _ hw => RunV.nil_func rfl) ?_ | refine SatD.tk 12 rfl hD (fun _ hw => RunV.nil_yield rfl) ?_
            first | refine SatD.tk 13 rfl hD (fun _ hw => RunV.fieldAddrL rfl rfl rfl) ?_ | refine SatD.tk 13 rfl hD (fun _ hw => RunV.fieldAddr rfl rfl rfl) ?_
            refine SatD.tk 14 rfl hD (fun _ hw => RunV.load1 hw rfl rfl (by repeat constructor) rfl) ?_
            refine SatD.tk 15 rfl hD (fun _ hw => RunV.move rfl) ?_
            first | refine SatD.tk 16 rfl hD (fun _ hw => RunV.indexR (by assumption) rfl rfl rfl (by omega) (by omega) rfl) ?_ | refine SatD.tk 16 rfl hD (fun _ hw => RunV.indexS rfl rfl rfl (by omega) (by omega) rfl) ?_
            first | refine SatD.tk 17 rfl hD (fun _ hw => RunV.fieldAddrL rfl rfl rfl) ?_ | refine SatD.tk 17 rfl hD (fun _ hw => RunV.fieldAddr rfl rfl rfl) ?_
            refine SatD.tk 18 rfl hD (fun _ hw => RunV.loadR1g i 1 (Sl.rd hsS hw (by repeat constructor)) rfl rfl (by omega) (map_get hy) rfl) ?_
            refine SatD.tk 19 rfl hD (fun _ hw => RunV.seql rfl rfl) ?_
            refine SatD.tk 20 rfl hD (fun _ hw => RunV.move rfl) ?_
            refine SatD.ways 105 rfl (fun h6 => ?_) (fun h6 => ?_)
            · (try simp only [cx, ne_eq] at h6)
              try (exfalso; (first | omega | exact h6 trivial | contradiction | (first | omega | (simp at h6; done))); done)
              all_goals
              refine SatD.tk 21 rfl hD (fun _ hw => RunV.move rfl) ?_
              first | refine SatD.tk 22 rfl hD (fun _ hw => RunV.nil_ptr rfl) ?_ | refine SatD.tk 22 rfl hD (fun _ hw => RunV.nil_func rfl) ?_ | refine SatD.tk 22 rfl hD (fun _ hw => RunV.nil_yield rfl) ?_
              first | refine SatD.tk 23 rfl hD (fun _ hw => RunV.fieldAddrL rfl rfl rfl) ?_ | refine SatD.tk 23 rfl hD (fun _ hw => RunV.fieldAddr rfl rfl rfl) ?_
              refine SatD.tk 24 rfl hD (fun _ hw => RunV.load1 hw rfl rfl (by repeat constructor) rfl) ?_
              refine SatD.tk 25 rfl hD (fun _ hw => RunV.move rfl) ?_
              first | refine SatD.tk 26 rfl hD (fun _ hw => RunV.indexR (by assumption) rfl rfl rfl (by omega) (by omega) rfl) ?_ | refine SatD.tk 26 rfl hD (fun _ hw => RunV.indexS rfl rfl rfl (by omega) (by omega) rfl) ?_
              first | refine SatD.tk 27 rfl hD (fun _ hw => RunV.fieldAddrL rfl rfl rfl) ?_ | refine SatD.tk 27 rfl hD (fun _ hw => RunV.fieldAddr rfl rfl rfl) ?_
              refine SatD.ef 28 rfl (OpW.enter rfl rfl rfl (rfl) (over_ref (c := z.h) (pre := pre) (post := post) (by omega) (own1 (p := (gb, C 87 (pre ++ (rc z.h ++ post)))) hS (by simp only [List.mem_cons, List.mem_append, hmem, or_true]))) ?_)
              rintro r6 w6 ⟨rfl, h⟩
              replace hS := St.callN hS h
              refine keepS (hS.sel (by repeat constructor)) (fun hD => ?_)
              refine SatD.tk 29 rfl hD (fun _ hw => RunV.pick_t rfl rfl) ?_
              refine SatD.tk 30 rfl hD (fun _ hw => RunV.pick_f rfl rfl) ?_
              refine SatD.tk 31 rfl hD (fun _ hw => RunV.assign rfl) ?_
              refine SatD.done 0 (by kernel_rfl) (SatE.blk_normal (SatE.thenC ?_))
              clear hD
              refine SatC.weak (e' := [(0, _), (2, _), (5, _), (6, _), (7, _), (8, _)]) (by repeat constructor) ?_
              refine SatC.region ?_
              refine SatL.pu (RunV.move rfl) rfl ?_
              refine SatL.pu (RunV.add rfl rfl (by first | exact wrapI64 (by omega) | rfl)) rfl ?_
              refine SatL.pu (RunV.assign rfl) rfl ?_
              refine SatL.nil ?_
              refine SatE.again ((j + 1, over z.h)) ?_ (by first | omega | (dsimp only; omega)) (by repeat constructor)
              refine ⟨by omega, ?_, hS⟩
              have hx : ov = false := by assumption
              have hs : z.svc = y.id := by assumption
              rw [any_take hz, ← hov, hx]
              simp [hs]
            · (try simp only [cx, ne_eq] at h6)
              try (exfalso; (first | omega | exact h6 trivial | contradiction | (first | omega | (simp at h6; done))); done)
              all_goals
              refine SatD.sk 21 rfl [] hD ?_
              refine SatD.sk 22 rfl [] hD ?_
              refine SatD.sk 23 rfl [] hD ?_
              refine SatD.sk 24 rfl [] hD ?_
              refine SatD.sk 25 rfl [] hD ?_
              refine SatD.sk 26 rfl [] hD ?_
              refine SatD.sk 27 rfl [] hD ?_
              refine SatD.sk 28 rfl [] hD ?_
              refine SatD.tk 29 rfl hD (fun _ hw => RunV.pick_f rfl rfl) ?_
              refine SatD.tk 30 rfl hD (fun _ hw => RunV.pick_f rfl rfl) ?_
              refine SatD.tk 31 rfl hD (fun _ hw => RunV.assign rfl) ?_
              refine SatD.done 0 (by kernel_rfl) (SatE.blk_normal (SatE.thenC ?_))
              clear hD
              refine SatC.weak (e' := [(0, _), (2, _), (5, _), (6, _), (7, _), (8, _)]) (by repeat constructor) ?_
              refine SatC.region ?_
              refine SatL.pu (RunV.move rfl) rfl ?_
              refine SatL.pu (RunV.add rfl rfl (by first | exact wrapI64 (by omega) | rfl)) rfl ?_
              refine SatL.pu (RunV.assign rfl) rfl ?_
              refine SatL.nil ?_
              refine SatE.again ((j + 1, false)) ?_ (by first | omega | (dsimp only; omega)) (by repeat constructor)
              refine ⟨by omega, ?_, hS⟩
              have hx : ov = false := by assumption
              have hs : ¬ z.svc = y.id := by assumption
              rw [any_take hz, ← hov, hx]
              simp [hs]
        · (try simp only [cx, ne_eq] at h4)
          try (exfalso; (first | omega | exact h4 trivial | contradiction | (first | omega | (simp at h4; done))); done)
          all_goals
          refine SatC.exit (SatE.then_exit (SatE.then_exit (SatE.blk_exit (SatE.thenC ?_))))
          refine SatC.seq ?_
          have hd : dgo C2 y = ov := by rw [hov, List.take_of_length_le (by omega)]; rfl
          refine SatC.region ?_
          refine SatL.pu (RunV.move rfl) rfl ?_
          refine SatL.nil (SatE.thenC ?_)
          refine SatC.cond rfl (fun h5 => ?_) (fun h5 => ?_)
          · (try simp only [cx, ne_eq] at h5)
            try (exfalso; (first | omega | exact h5 trivial | contradiction | (first | omega | (simp at h5; done))); done)
            all_goals
            refine SatC.region ?_
            refine SatL.pu (RunV.move rfl) rfl ?_
            refine SatL.pu (RunV.move rfl) rfl ?_
            first | refine SatL.pu (RunV.nil_ptr rfl) rfl ?_ | refine SatL.pu (RunV.nil_func rfl) rfl ?_ | refine SatL.pu (RunV.nil_yield rfl) rfl ?_
            first | refine SatL.pu (RunV.fieldAddrL rfl rfl rfl) rfl ?_ | refine SatL.pu (RunV.fieldAddr rfl rfl rfl) rfl ?_
            refine SatL.pu (RunV.load1 hS rfl rfl (by repeat constructor) rfl) rfl ?_
            refine SatL.pu (RunV.move rfl) rfl ?_
            first | refine SatL.pu (RunV.indexR (by assumption) rfl rfl rfl (by omega) (by omega) rfl) rfl ?_ | refine SatL.pu (RunV.indexS rfl rfl rfl (by omega) (by omega) rfl) rfl ?_
            first | refine SatL.pu (RunV.fieldAddrL rfl rfl rfl) rfl ?_ | refine SatL.pu (RunV.fieldAddr rfl rfl rfl) rfl ?_
            refine SatL.pu (RunV.loadR1g i 1 (Sl.rd hsS hS (by repeat constructor)) rfl rfl (by omega) (map_get hy) rfl) rfl ?_
            refine SatL.op rfl (OpW.buildSlice1 hS rfl rfl rfl rfl rfl (by repeat constructor) rfl rfl rfl ?_)
            clear hS
            intro b126 w5 _ hS
            refine SatL.op rfl (OpW.append1 hsg hS (by repeat constructor) rfl rfl (by repeat constructor) rfl rfl rfl rfl rfl rfl rfl rfl (by rw [List.length_map, List.length_map]; omega) rfl ?_)
            clear hS
            intro v127 B127 w6 hsl127 hS
            refine SatL.pu (RunV.assign rfl) rfl ?_
            refine SatL.nil (SatE.blk_normal (SatE.thenC ?_))
            refine SatC.weak (e' := [(0, _), (2, _), (5, _), (6, _)]) (by repeat constructor) ?_
            refine SatC.region ?_
            refine SatL.pu (RunV.move rfl) rfl ?_
            refine SatL.pu (RunV.add rfl rfl (by first | exact wrapI64 (by omega) | rfl)) rfl ?_
            refine SatL.pu (RunV.assign rfl) rfl ?_
            refine SatL.nil ?_
            refine SatE.again ((i + 1, v127, B127)) ?_ (by first | omega | (dsimp only; omega)) (by repeat constructor)
            refine ⟨by omega, ?_, hS.sel (by repeat constructor)⟩
            rw [take_y hy (by rw [hd]; first | assumption | simp_all), List.map_append, List.map_append]
            exact hsl127
          · (try simp only [cx, ne_eq] at h5)
            try (exfalso; (first | omega | exact h5 trivial | contradiction | (first | omega | (simp at h5; done))); done)
            all_goals
            refine SatC.skip (SatE.blk_normal (SatE.thenC ?_))
            refine SatC.region ?_
            refine SatL.pu (RunV.move rfl) rfl ?_
            refine SatL.pu (RunV.add rfl rfl (by first | exact wrapI64 (by omega) | rfl)) rfl ?_
            refine SatL.pu (RunV.assign rfl) rfl ?_
            refine SatL.nil ?_
            refine SatE.again ((i + 1, gv, GB)) ?_ (by first | omega | (dsimp only; omega)) (by repeat constructor)
            refine ⟨by omega, ?_, hS.sel (by repeat constructor)⟩
            rw [take_n hy (by rw [hd]; first | assumption | simp_all)]
            exact hsg
      · (try simp only [cx, ne_eq] at h3)
        try (exfalso; (first | omega | exact h3 trivial | contradiction | (first | omega | (simp at h3; done))); done)
        all_goals
        refine SatC.exit (SatE.then_exit (SatE.then_exit (SatE.blk_exit (SatE.thenC ?_))))
        refine SatC.seq ?_
        refine SatC.seq ?_
        rw [List.take_of_length_le (by omega)] at hsg
        have hG : dgone D = (D.sv.filter (dgo C2)).map Ds.id := by unfold dgone; rw [hC2]
        have hT : dTick D = ((D.sv.filter (dgo C2)).map Ds.id).foldl drem1 { D with ch := C2 } := by unfold dTick; rw [hG, hC2]
        have hD0 : Dok b { D with ch := C2 } ((b, C 44 [.int .i64 D.node, str D.addr, sv, cv]) :: (SB ++ KB)) := ⟨hs16, by show C2.length ≤ 16; rw [hl2]; exact hc16, hone, hsu, by show (C2.map Dc.id).Nodup; rw [hi2]; exact hcu, sv, cv, SB, KB, hsS, hsk, rfl⟩
        have hGl : ((D.sv.filter (dgo C2)).map Ds.id).length ≤ 16 := by rw [List.length_map]; exact Nat.le_trans (List.length_filter_le ..) hs16
        generalize (D.sv.filter (dgo C2)).map Ds.id = G at hsg hG hT hGl
        obtain ⟨vg, hvg⟩ := hsg.slv
        rw [List.length_map] at hvg
        refine SatC.region ?_
        refine SatL.pu (RunV.assign rfl) rfl ?_
        refine SatL.nil (SatE.thenC ?_)
        refine SatC.block ?_
        refine SatC.loopK (G := Nat × Dl × List (Nat × Obj)) (V := fun ⟨i, D2, L2⟩ => [(9, .int .i64 (i : Int))]) (Cn := [(0, _), (2, _), (5, _)]) (I := fun ⟨i, D2, L2⟩ w' => i ≤ G.length ∧ Dok b D2 L2 ∧ (G.drop i).foldl drem1 D2 = dTick D ∧ St w X (GB ++ L2) w') (μ := fun ⟨i, D2, L2⟩ => G.length - i) (0, { D with ch := C2 }, (b, C 44 [.int .i64 D.node, str D.addr, sv, cv]) :: (SB ++ KB)) ?_ (by repeat constructor) ?_
        · exact ⟨Nat.zero_le _, hD0, hT.symm, hS⟩
        clear hS
        rintro ⟨i, D2, L2⟩ w4 ⟨hi, hDk, hfo, hS⟩
        refine SatC.weak (e' := [(0, _), (2, _), (5, _), (9, _)]) (by repeat constructor) ?_
        refine SatC.seq ?_
        refine SatC.seq ?_
        refine SatC.region ?_
        refine SatL.pu (RunV.move rfl) rfl ?_
        refine SatL.pu (RunV.move rfl) rfl ?_
        first | refine SatL.pu (RunV.lenR (by assumption) rfl rfl) rfl ?_ | refine SatL.pu (RunV.lenS rfl rfl) rfl ?_
        refine SatL.pu (RunV.lss rfl rfl) rfl ?_
        refine SatL.nil (SatE.thenC ?_)
        refine SatC.cond rfl (fun h4 => ?_) (fun h4 => ?_)
        · (try simp only [cx, ne_eq] at h4)
          try (exfalso; (first | omega | exact h4 trivial | contradiction | (first | omega | (simp at h4; done))); done)
          all_goals
          refine SatC.skip (SatE.thenC ?_)
          refine SatC.seq ?_
          refine SatC.block ?_
          obtain ⟨y, hy⟩ : ∃ y, G[i]? = some y := ⟨_, List.getElem?_eq_getElem (by omega)⟩
          rw [drop_cons hy, List.foldl_cons] at hfo
          refine SatC.region ?_
          refine SatL.pu (RunV.move rfl) rfl ?_
          refine SatL.pu (RunV.move rfl) rfl ?_
          refine SatL.pu (RunV.move rfl) rfl ?_
          first | refine SatL.pu (RunV.indexR (by assumption) rfl rfl rfl (by omega) (by omega) rfl) rfl ?_ | refine SatL.pu (RunV.indexS rfl rfl rfl (by omega) (by omega) rfl) rfl ?_
          refine SatL.pu (RunV.loadR1g i 0 (Sl.rd hsg hS (by repeat constructor)) rfl rfl (by omega) (map_get hy) rfl) rfl ?_
          refine SatL.op rfl (OpW.enter rfl rfl rfl (rfl) (drem_ref y hDk (hS.ownT (A := L2) (by repeat constructor))) ?_)
          rintro r5 w5 ⟨rfl, L3, hL3, h⟩
          replace hS := hS.callT (A := L2) (by repeat constructor) h
          refine SatL.nil (SatE.blk_normal (SatE.thenC ?_))
          refine SatC.region ?_
          refine SatL.pu (RunV.move rfl) rfl ?_
          refine SatL.pu (RunV.add rfl rfl (by first | exact wrapI64 (by omega) | rfl)) rfl ?_
          refine SatL.pu (RunV.assign rfl) rfl ?_
          refine SatL.nil ?_
          refine SatE.again ((i + 1, drem1 D2 y, L3)) ?_ (by first | omega | (dsimp only; omega)) (by repeat constructor)
          exact ⟨by omega, hL3, hfo, hS.sel (by repeat constructor)⟩
        · (try simp only [cx, ne_eq] at h4)
          try (exfalso; (first | omega | exact h4 trivial | contradiction | (first | omega | (simp at h4; done))); done)
          all_goals
          refine SatC.exit (SatE.then_exit (SatE.then_exit (SatE.blk_exit (SatE.thenC ?_))))
          refine SatC.seq ?_
          refine SatC.region ?_
          refine SatL.pu (RunV.move rfl) rfl ?_
          refine SatL.pu (RunV.assign rfl) rfl ?_
          refine SatL.nil (SatE.thenC ?_)
          refine SatC.ret ?_
          refine SatE.ret1 rfl rfl ?_
          rw [List.drop_of_length_le (by omega)] at hfo
          exact ⟨GB, L2, by rw [hG]; exact hsg, by rw [← hfo]; exact hDk, hS.sel (by repeat constructor)⟩
end
end Go.Proofs.Ytbnkcagcfbpiiaa
