/- LocalWhole: each check's service is there; and a service goes by a tick only if the tick tells so. No condition. -/
import Derived.Test.YtbnkcagcfbpiiaaMf
import Derived.Test.YtbnkcagcfbpiiaaRows
set_option linter.unusedSimpArgs false
set_option linter.unusedVariables false
set_option maxRecDepth 100000
set_option maxHeartbeats 16000000
namespace Go.Proofs.Ytbnkcagcfbpiiaa
open Go Go.Proofs Go.RowKit Go.ChangeShapes Go.WideShapes Go.ChangeAt
/-- What LocalWhole keeps. -/
structure WI (b : Nat) (m : Int) (S : Lc) (L : List (Nat × Obj)) : Prop where
  ag : Agt b S L
  bs : ∀ c ∈ S.ch, Bd m c.h
  wh : Whole S
section
variable {b : Nat} {S : Lc} {L : List (Nat × Obj)} {w : World} {m : Int}
theorem serv_n (h : Agt b S L) (hown : Own w L) : Ret Try.prog 8 #[.pointer (some ⟨b, 0, none⟩)] w fun u w' => ∃ (R : List Sv) (AB T : List (Nat × Obj)), R.map Sv.id = srt (S.sv.map Sv.id) ∧ R.length = S.sv.length ∧ Sl 30 7 u (R.map (svc S.node)) AB ∧ St w [] (AB ++ T) w' :=
  (services_d h hown).mono fun u w' ⟨R, AB, h1, h2, _, h4⟩ => by
    have e := congrArg (List.map Sd.id) h1
    rw [List.map_map, List.map_map] at e
    have e2 : R.map Sv.id = (ordS S.sv).map Sv.id := e
    refine ⟨R, AB, tbl R, by rw [e2, ordS_ids], ?_, h2, h4⟩
    have := congrArg List.length e2
    rw [List.length_map, List.length_map, ordS_len] at this
    exact this
theorem WI.tick (h : WI b m S L) {L' : List (Nat × Obj)} (hA : Agt b (aTick S).1 L') : WI b (m + 4) (aTick S).1 L' := ⟨hA, fun c hc => (tick_bd h.bs c hc).le (by omega), whole_clo.tick S h.wh⟩
theorem WI.step {r : Nat} {y : Sp} {F : Dl} {bb : Bool} {D D' : Dl} {S' : Lc} {L' R' : List (Nat × Obj)} (h : WI b m S L) (hd : DoR b r S D m y.v y.tags F bb S' D' L' R') : WI b (m + 4) S' L' := ⟨hd.ag, hd.bs, hd.clo _ whole_clo h.wh⟩
theorem WI.at {m' : Int} (h : WI b m S L) (e : m = m') : WI b m' S L := e ▸ h
theorem WI.gone (h : WI b m S L) : S.sv.length = (aTick S).1.sv.length + (aTick S).2.length := (tick_count h.ag.su).symm
end
theorem Dok.init {r : Nat} {n : Int} {a : List UInt8} : Dok r ⟨n, a, [], []⟩ [(r, C 44 [.int .i64 n, str a, .slice none 0 0, .slice none 0 0])] := ⟨Nat.zero_le _, Nat.zero_le _, (fun s h => by cases h), List.nodup_nil, List.nodup_nil, ⟨_, _, [], [], .nil, .nil, rfl⟩⟩
theorem wh_row {S : Lc} {Rs : List Sv} {c : Ch} {k : Nat} (h : Whole S) (hc : c ∈ ordC S.ch) (hr : Rs.map Sv.id = srt (S.sv.map Sv.id)) (hk : Rs.length ≤ k) : c.svc = [] ∨ ∃ s ∈ Rs.take k, s.id = c.svc := by
  rcases h c (ordC_mem hc) with e | ⟨s, hs, e⟩
  · exact .inl e
  · right
    have : s.id ∈ Rs.map Sv.id := by rw [hr]; exact mem_srt.2 (List.mem_map_of_mem hs)
    obtain ⟨t, ht, e2⟩ := List.mem_map.1 this
    exact ⟨t, by rw [List.take_of_length_le hk]; exact ht, e2.trans e⟩
theorem wh_next {Rs : List Sv} {v : List UInt8} {k : Nat} {q : Bool} {s : Sv} (hq : v = [] ∨ (∃ s ∈ Rs.take k, s.id = v) → q = true) (hn : q = false) (hs : Rs[k]? = some s) : v = [] ∨ (∃ s ∈ Rs.take (k + 1), s.id = v) → decide (s.id = v) = true := by
  intro h
  rw [List.take_add_one, hs] at h
  rcases h with h | ⟨t, ht, e⟩
  · rw [hq (.inl h)] at hn; cases hn
  · rcases List.mem_append.1 ht with ht | ht
    · rw [hq (.inr ⟨t, ht, e⟩)] at hn; cases hn
    · obtain rfl : t = s := by simpa using ht
      exact decide_eq_true e
theorem whole_any (ys : List Sp) (v : Value) (W : World) (hr : RdRow W v 23 (ys.map spr)) (hys : ∀ y ∈ ys, SpOk W y) : Ret Try.prog 3 #[v] W fun u w' => u = .bool true ∧ St W [] [] w' := by
  have hS := St.init0 W
  obtain ⟨bs, os, cs, hv, hmx, hrc, _⟩ := hr.open
  rw [List.length_map] at hv hmx
  refine Ret.enter Try.func3 Try.ntmps3 rfl rfl ?_
  simp only [argEnv, Nat.reduceAdd]
  refine SatC.seq ?_
  refine SatC.region ?_
  refine SatL.pu (RunV.assign rfl) rfl ?_
  refine SatL.nil (SatE.thenC ?_)
  refine SatC.seq ?_
  refine SatC.region ?_
  refine SatL.op rfl (OpW.enter rfl rfl rfl (rfl) (lnew_any 1 [] _ (by decide) (by decide)) ?_)
  rintro r1 w1 ⟨b, L, rfl, hA, h⟩
  replace hS := hS.callT (A := []) .nil h
  refine SatL.pu (RunV.move rfl) rfl ?_
  refine SatL.pu (RunV.extract rfl rfl) rfl ?_
  refine SatL.pu (RunV.extract rfl rfl) rfl ?_
  refine SatL.pu (RunV.assign rfl) rfl ?_
  refine SatL.pu (RunV.assign rfl) rfl ?_
  refine SatL.nil (SatE.thenC ?_)
  refine SatC.seq ?_
  refine SatC.seq ?_
  refine SatC.region ?_
  refine SatL.pu (RunV.move rfl) rfl ?_
  refine SatL.pu (RunV.neq rfl rfl) rfl ?_
  refine SatL.nil (SatE.thenC ?_)
  refine SatC.cond rfl (fun h1 => ?_) (fun h1 => ?_)
  · (try simp only [cx, ne_eq] at h1)
    try (exfalso; (first | omega | exact h1 trivial | contradiction | (first | omega | (simp at h1; done))); done)
    all_goals
    refine SatC.seq ?_
    refine SatC.region ?_
    refine SatL.pu (RunV.assign rfl) rfl ?_
    refine SatL.nil (SatE.thenC ?_)
    refine SatC.ret (SatE.then_ret ?_)
    refine SatE.ret1 rfl rfl ?_
    exact ⟨rfl, hS.sel (by repeat constructor)⟩
  · (try simp only [cx, ne_eq] at h1)
    try (exfalso; (first | omega | exact h1 trivial | contradiction | (first | omega | (simp at h1; done))); done)
    all_goals
    refine SatC.skip (SatE.thenC ?_)
    refine SatC.seq ?_
    refine SatC.seq ?_
    refine SatC.region ?_
    refine SatL.pu (RunV.assign rfl) rfl ?_
    refine SatL.nil (SatE.thenC ?_)
    refine SatC.block ?_
    refine SatC.loopK (G := Nat × Lc × List (Nat × Obj)) (V := fun ⟨i, S1, L1⟩ => [(5, .int .i64 (i : Int))]) (Cn := [(0, _), (3, _), (2, _)]) (I := fun ⟨i, S1, L1⟩ w' => i ≤ ys.length ∧ i ≤ 60 ∧ WI b (4 * (i : Int)) S1 L1 ∧ St W [] L1 w') (μ := fun ⟨i, S1, L1⟩ => ys.length - i) (0, ⟨1, [], [], []⟩, L) ?_ (by repeat constructor) ?_
    · exact ⟨Nat.zero_le _, by decide, ⟨hA, (fun c h => by cases h), (fun c h => by cases h)⟩, hS.sel (by repeat constructor)⟩
    clear hS
    rintro ⟨i, S1, L1⟩ w2 ⟨hi, hi6, hP, hS⟩
    refine SatC.weak (e' := [(0, _), (2, _), (3, _), (5, _)]) (by repeat constructor) ?_
    refine SatC.seq ?_
    refine SatC.seq ?_
    refine SatC.region ?_
    refine SatL.pu (RunV.move rfl) rfl ?_
    refine SatL.pu (RunV.move rfl) rfl ?_
    refine SatL.pu (RunV.lenR hv rfl rfl) rfl ?_
    refine SatL.pu (RunV.lss rfl rfl) rfl ?_
    refine SatL.pu (RunV.move rfl) rfl ?_
    refine SatL.guard rfl rfl rfl (fun h2 => ?_) (fun h2 => ?_)
    · (try simp only [cx, ne_eq] at h2)
      try (exfalso; (first | omega | exact h2 trivial | contradiction | (first | omega | (simp at h2; done))); done)
      all_goals
      refine SatL.pu (RunV.move rfl) rfl ?_
      refine SatL.guard_y rfl rfl ?_
      refine SatL.pu (RunV.lss rfl rfl) rfl ?_
      refine SatL.pu (RunV.pick_t rfl rfl) rfl ?_
      refine SatL.nil (SatE.thenC ?_)
      refine SatC.cond rfl (fun h3 => ?_) (fun h3 => ?_)
      · (try simp only [cx, ne_eq] at h3)
        try (exfalso; (first | omega | exact h3 trivial | contradiction | (first | omega | (simp at h3; done))); done)
        all_goals
        refine SatC.skip (SatE.thenC ?_)
        refine SatC.seq ?_
        refine SatC.block ?_
        refine SatC.merge (G := Lc × List (Nat × Obj)) (V := fun ⟨S2, L2⟩ => [(2, .bool false)]) (Cn := [(0, _), (3, _), (5, _)]) (I := fun ⟨S2, L2⟩ w' => WI b (4 * (i : Int) + 4) S2 L2 ∧ St W [] L2 w') (by repeat constructor) ?_ ?_
        · skip
          refine SatC.seq ?_
          obtain ⟨y, hy⟩ := get_some ys i (by omega)
          have hyo := hys y (List.mem_of_getElem? hy)
          refine SatC.region ?_
          refine SatL.pu (RunV.move rfl) rfl ?_
          refine SatL.pu (RunV.move rfl) rfl ?_
          refine SatL.pu (RunV.indexR hv rfl rfl rfl (by omega) (by omega) rfl) rfl ?_
          first | refine SatL.pu (RunV.fieldAddrL rfl rfl rfl) rfl ?_ | refine SatL.pu (RunV.fieldAddr rfl rfl rfl) rfl ?_
          refine SatL.pu (RunV.loadR1g i 0 (hrc.st hS List.not_mem_nil) rfl rfl (by omega) (map_get hy) rfl) rfl ?_
          refine SatL.pu (RunV.eql rfl rfl) rfl ?_
          refine SatL.nil (SatE.thenC ?_)
          refine SatC.weak (e' := [(0, _), (2, _), (3, _), (5, _), (35, _)]) (by repeat constructor) ?_
          refine SatC.cond rfl (fun h4 => ?_) (fun h4 => ?_)
          · (try simp only [cx, ne_eq] at h4)
            try (exfalso; (first | omega | exact h4 trivial | contradiction | (first | omega | (simp at h4; done))); done)
            all_goals
            refine SatC.seq ?_
            refine SatC.region ?_
            refine SatL.pu (RunV.move rfl) rfl ?_
            refine SatL.op rfl (OpW.enter rfl rfl rfl (rfl) (serv_n hP.ag (hS.ownT (A := L1) (by repeat constructor))) ?_)
            rintro r3 w3 ⟨Ra, AB1, T1, hr1, hl1, hsl1, h⟩
            replace hS := hS.callT (A := []) .nil h
            obtain ⟨c1, hv1⟩ := hsl1.slv
            rw [List.length_map] at hv1
            refine SatL.pu (RunV.assign rfl) rfl ?_
            refine SatL.nil (SatE.thenC ?_)
            refine SatC.seq ?_
            refine SatC.region ?_
            refine SatL.pu (RunV.move rfl) rfl ?_
            refine SatL.op rfl (OpW.enter rfl rfl rfl (rfl) (tick_d (fun c hc => (hP.bs c hc).le (by omega)) hP.ag (hS.ownT (A := L1) (by repeat constructor))) ?_)
            rintro r4 w4 ⟨GB, L2, hsg, hA2, h⟩
            replace hS := hS.callT (A := L1) (by repeat constructor) h
            simp only [List.append_assoc] at hS
            have hP2 := hP.tick hA2
            obtain ⟨c2, hv2⟩ := hsg.slv
            rw [List.length_map] at hv2
            refine SatL.pu (RunV.assign rfl) rfl ?_
            refine SatL.nil (SatE.thenC ?_)
            refine SatC.seq ?_
            refine SatC.region ?_
            refine SatL.pu (RunV.move rfl) rfl ?_
            refine SatL.op rfl (OpW.enter rfl rfl rfl (rfl) (serv_n hP2.ag (hS.ownT (A := L2) (by repeat constructor))) ?_)
            rintro r5 w5 ⟨Rb, AB3, T3, hr3, hl3, hsl3, h⟩
            replace hS := hS.callT (A := []) .nil h
            obtain ⟨c3, hv3⟩ := hsl3.slv
            rw [List.length_map] at hv3
            have hgone := hP.gone
            have hs16a := hP.ag.s16
            refine SatL.pu (RunV.assign rfl) rfl ?_
            refine SatL.nil (SatE.thenC ?_)
            refine SatC.seq ?_
            refine SatC.region ?_
            refine SatL.pu (RunV.move rfl) rfl ?_
            refine SatL.pu (RunV.lenR hv1 rfl rfl) rfl ?_
            refine SatL.pu (RunV.move rfl) rfl ?_
            refine SatL.pu (RunV.lenR hv3 rfl rfl) rfl ?_
            refine SatL.pu (RunV.move rfl) rfl ?_
            refine SatL.pu (RunV.lenR hv2 rfl rfl) rfl ?_
            refine SatL.pu (RunV.add rfl rfl (by first | exact wrapI64 (by omega) | rfl)) rfl ?_
            refine SatL.pu (RunV.neq rfl rfl) rfl ?_
            refine SatL.nil (SatE.thenC ?_)
            refine SatC.weak (e' := [(0, _), (2, _), (3, _), (5, _), (49, _)]) (by repeat constructor) ?_
            refine SatC.cond rfl (fun h5 => ?_) (fun h5 => ?_)
            · (try simp only [cx, ne_eq] at h5)
              try (exfalso; (first | omega | exact h5 trivial | contradiction | (first | omega | (simp at h5; done))); done)
              all_goals
              refine SatC.seq ?_
              refine SatC.region ?_
              refine SatL.pu (RunV.assign rfl) rfl ?_
              refine SatL.nil (SatE.thenC ?_)
              refine SatC.ret (SatE.then_ret (SatE.blk_ret (SatE.then_ret (SatE.then_ret (SatE.blk_ret (SatE.then_ret ?_))))))
              refine SatE.ret1 rfl rfl ?_
              exact ⟨rfl, hS.sel (by repeat constructor)⟩
            · (try simp only [cx, ne_eq] at h5)
              try (exfalso; (first | omega | exact h5 trivial | contradiction | (first | omega | (simp at h5; done))); done)
              all_goals
              refine SatC.skip ?_
              refine SatE.met (((aTick S1).1, L2)) ?_ (by repeat constructor)
              exact ⟨hP2, hS.sel (by repeat constructor)⟩
          · (try simp only [cx, ne_eq] at h4)
            try (exfalso; (first | omega | exact h4 trivial | contradiction | (first | omega | (simp at h4; done))); done)
            all_goals
            refine SatC.region ?_
            refine SatL.pu (RunV.move rfl) rfl ?_
            refine SatL.pu (RunV.build rfl (by simp [go_sem]; try rfl)) rfl ?_
            refine SatL.op rfl (OpW.box hS rfl rfl (by repeat constructor) ?_)
            clear hS
            intro b52 w3 _ hS
            refine SatL.pu (RunV.move rfl) rfl ?_
            refine SatL.pu (RunV.move rfl) rfl ?_
            refine SatL.pu (RunV.indexR hv rfl rfl rfl (by omega) (by omega) rfl) rfl ?_
            refine SatL.pu (RunV.loadSeg i 0 (hrc.st hS List.not_mem_nil) rfl rfl (by omega) (map_get hy) (by repeat constructor)) rfl ?_
            refine SatL.op rfl (OpW.enter rfl rfl rfl (rfl) (do_s (D := ⟨1, [], [], []⟩) (R := [(b52, C 44 [.int .i64 1, str [], .slice none 0 0, .slice none 0 0])]) y (by omega) hyo (hS.sel (by repeat constructor)) hP.bs (fun c h => by cases h) hP.ag Dok.init) ?_)
            rintro r4 w4 ⟨bb, S2, D2, L2, R2, rfl, hd, h⟩
            replace hS := (hS.sel (R := L1 ++ [(b52, C 44 [.int .i64 1, str [], .slice none 0 0, .slice none 0 0])]) (by repeat constructor)).whole h
            have hP2 := hP.step hd
            refine SatL.nil ?_
            refine SatE.met ((S2, L2)) ?_ (by repeat constructor)
            exact ⟨hP2, hS.sel (by repeat constructor)⟩
        · clear hS
          rintro ⟨S2, L2⟩ w63 ⟨hP2, hS⟩
          refine SatC.weak (e' := [(0, _), (2, _), (3, _), (5, _)]) (by repeat constructor) ?_
          refine SatC.seq ?_
          refine SatC.region ?_
          refine SatL.pu (RunV.move rfl) rfl ?_
          refine SatL.op rfl (OpW.enter rfl rfl rfl (rfl) (serv_n hP2.ag (hS.ownT (A := L2) (by repeat constructor))) ?_)
          rintro r64 w64 ⟨Rs, AB, T, hrs, hls, hsl, h⟩
          replace hS := hS.callT (A := []) .nil h
          obtain ⟨cS, hvS⟩ := hsl.slv
          rw [List.length_map] at hvS
          refine SatL.pu (RunV.move rfl) rfl ?_
          refine SatL.op rfl (OpW.enter rfl rfl rfl (rfl) (checks_d hP2.ag (hS.ownT (A := L2) (by repeat constructor))) ?_)
          rintro r65 w65 ⟨CB, hcs, h⟩
          replace hS := hS.callT (A := []) .nil h
          simp only [List.append_assoc] at hS
          obtain ⟨cC, hvC⟩ := hcs.slv
          rw [List.length_map] at hvC
          have hcl := ordC_len S2.ch
          have hc16 := hP2.ag.c16
          have hs16 := hP2.ag.s16
          refine SatL.pu (RunV.assign rfl) rfl ?_
          refine SatL.pu (RunV.assign rfl) rfl ?_
          refine SatL.nil (SatE.thenC ?_)
          refine SatC.seq ?_
          refine SatC.region ?_
          refine SatL.pu (RunV.assign rfl) rfl ?_
          refine SatL.nil (SatE.thenC ?_)
          refine SatC.block ?_
          refine SatC.loopK (G := Nat) (V := fun j => [(11, .int .i64 (j : Int))]) (Cn := [(0, _), (3, _), (5, _), (9, _), (10, _), (2, _)]) (I := fun j w' => j ≤ (ordC S2.ch).length ∧ St W [] (CB ++ (AB ++ (T ++ L2))) w') (μ := fun j => (ordC S2.ch).length - j) 0 ?_ (by repeat constructor) ?_
          · exact ⟨Nat.zero_le _, hS⟩
          clear hS
          rintro j w66 ⟨hj, hS⟩
          refine SatC.weak (e' := [(0, _), (2, _), (3, _), (5, _), (9, _), (10, _), (11, _)]) (by repeat constructor) ?_
          refine SatC.seq ?_
          refine SatC.seq ?_
          refine SatC.region ?_
          refine SatL.pu (RunV.move rfl) rfl ?_
          refine SatL.pu (RunV.move rfl) rfl ?_
          refine SatL.pu (RunV.lenR hvC rfl rfl) rfl ?_
          refine SatL.pu (RunV.lss rfl rfl) rfl ?_
          refine SatL.nil (SatE.thenC ?_)
          refine SatC.cond rfl (fun h4 => ?_) (fun h4 => ?_)
          · (try simp only [cx, ne_eq] at h4)
            try (exfalso; (first | omega | exact h4 trivial | contradiction | (first | omega | (simp at h4; done))); done)
            all_goals
            refine SatC.skip (SatE.thenC ?_)
            refine SatC.seq ?_
            refine SatC.block ?_
            refine SatC.seq ?_
            obtain ⟨c, hc⟩ := get_some (ordC S2.ch) j (by omega)
            refine SatC.region ?_
            refine SatL.pu (RunV.move rfl) rfl ?_
            refine SatL.pu (RunV.move rfl) rfl ?_
            refine SatL.pu (RunV.indexR hvC rfl rfl rfl (by omega) (by omega) rfl) rfl ?_
            first | refine SatL.pu (RunV.fieldAddrL rfl rfl rfl) rfl ?_ | refine SatL.pu (RunV.fieldAddr rfl rfl rfl) rfl ?_
            refine SatL.pu (RunV.loadR1g j 2 (Sl.rd hcs hS (by repeat constructor)) rfl rfl (by omega) (map_get hc) rfl) rfl ?_
            refine SatL.pu (RunV.seql rfl rfl) rfl ?_
            refine SatL.pu (RunV.assign rfl) rfl ?_
            refine SatL.nil (SatE.thenC ?_)
            refine SatC.seq ?_
            refine SatC.seq ?_
            refine SatC.region ?_
            refine SatL.pu (RunV.assign rfl) rfl ?_
            refine SatL.nil (SatE.thenC ?_)
            refine SatC.block ?_
            refine SatC.loopK (G := Nat × Bool) (V := fun ⟨k, q⟩ => [(13, .int .i64 (k : Int)), (12, .bool q)]) (Cn := [(0, _), (2, _), (3, _), (5, _), (9, _), (10, _), (11, _)]) (I := fun ⟨k, q⟩ w' => k ≤ Rs.length ∧ (c.svc = [] ∨ (∃ s ∈ Rs.take k, s.id = c.svc) → q = true) ∧ St W [] (CB ++ (AB ++ (T ++ L2))) w') (μ := fun ⟨k, q⟩ => Rs.length - k) (0, decide (c.svc = [])) ?_ (by repeat constructor) ?_
            · exact ⟨Nat.zero_le _, (fun h => by simpa using h), hS⟩
            clear hS
            rintro ⟨k, q⟩ w67 ⟨hk, hq, hS⟩
            refine SatC.weak (e' := [(0, _), (2, _), (3, _), (5, _), (9, _), (10, _), (11, _), (12, _), (13, _)]) (by repeat constructor) ?_
            refine SatC.seq ?_
            refine SatC.seq ?_
            refine SatC.region ?_
            refine SatL.pu (RunV.move rfl) rfl ?_
            refine SatL.pu (RunV.move rfl) rfl ?_
            refine SatL.pu (RunV.lenR hvS rfl rfl) rfl ?_
            refine SatL.pu (RunV.lss rfl rfl) rfl ?_
            refine SatL.nil (SatE.thenC ?_)
            refine SatC.cond rfl (fun h5 => ?_) (fun h5 => ?_)
            · (try simp only [cx, ne_eq] at h5)
              try (exfalso; (first | omega | exact h5 trivial | contradiction | (first | omega | (simp at h5; done))); done)
              all_goals
              refine SatC.skip (SatE.thenC ?_)
              refine SatC.seq ?_
              refine SatC.block ?_
              obtain ⟨s, hs⟩ := get_some Rs k (by omega)
              refine SatC.drawnT 15 hS (hS) (by kernel_rfl) ?_
              clear hS
              intro w68 hh hS hD
              refine SatD.tk 0 rfl hD (fun _ hw => RunV.move rfl) ?_
              refine SatD.tk 1 rfl hD (fun _ hw => RunV.move rfl) ?_
              refine SatD.ways 81 rfl (fun h6 => ?_) (fun h6 => ?_)
              · (try simp only [cx, ne_eq] at h6)
                try (exfalso; (first | omega | exact h6 trivial | contradiction | (first | omega | (simp at h6; done))); done)
                all_goals
                refine SatD.sk 2 rfl [] hD ?_
                refine SatD.sk 3 rfl [] hD ?_
                refine SatD.sk 4 rfl [] hD ?_
                refine SatD.sk 5 rfl [] hD ?_
                refine SatD.sk 6 rfl [] hD ?_
                refine SatD.sk 7 rfl [] hD ?_
                refine SatD.sk 8 rfl [] hD ?_
                refine SatD.sk 9 rfl [] hD ?_
                refine SatD.sk 10 rfl [] hD ?_
                refine SatD.sk 11 rfl [] hD ?_
                refine SatD.sk 12 rfl [] hD ?_
                refine SatD.tk 13 rfl hD (fun _ hw => RunV.pick_t rfl rfl) ?_
                refine SatD.tk 14 rfl hD (fun _ hw => RunV.assign rfl) ?_
                refine SatD.done 0 (by kernel_rfl) (SatE.blk_normal (SatE.thenC ?_))
                clear hD
                refine SatC.weak (e' := [(0, _), (2, _), (3, _), (5, _), (9, _), (10, _), (11, _), (12, _), (13, _)]) (by repeat constructor) ?_
                refine SatC.region ?_
                refine SatL.pu (RunV.move rfl) rfl ?_
                refine SatL.pu (RunV.add rfl rfl (by first | exact wrapI64 (by omega) | rfl)) rfl ?_
                refine SatL.pu (RunV.assign rfl) rfl ?_
                refine SatL.nil ?_
                refine SatE.again ((k + 1, true)) ?_ (by first | omega | (dsimp only; omega)) (by repeat constructor)
                exact ⟨by omega, fun _ => rfl, hS.sel (by repeat constructor)⟩
              · (try simp only [cx, ne_eq] at h6)
                try (exfalso; (first | omega | exact h6 trivial | contradiction | (first | omega | (simp at h6; done))); done)
                all_goals
                refine SatD.tk 2 rfl hD (fun _ hw => RunV.move rfl) ?_
                refine SatD.tk 3 rfl hD (fun _ hw => RunV.move rfl) ?_
                refine SatD.tk 4 rfl hD (fun _ hw => RunV.indexR hvS rfl rfl rfl (by omega) (by omega) rfl) ?_
                first | refine SatD.tk 5 rfl hD (fun _ hw => RunV.fieldAddrL rfl rfl rfl) ?_ | refine SatD.tk 5 rfl hD (fun _ hw => RunV.fieldAddr rfl rfl rfl) ?_
                refine SatD.tk 6 rfl hD (fun _ hw => RunV.loadR1g k 1 (Sl.rd hsl hw (by repeat constructor)) rfl rfl (by omega) (map_get hs) rfl) ?_
                refine SatD.tk 7 rfl hD (fun _ hw => RunV.move rfl) ?_
                refine SatD.tk 8 rfl hD (fun _ hw => RunV.move rfl) ?_
                refine SatD.tk 9 rfl hD (fun _ hw => RunV.indexR hvC rfl rfl rfl (by omega) (by omega) rfl) ?_
                first | refine SatD.tk 10 rfl hD (fun _ hw => RunV.fieldAddrL rfl rfl rfl) ?_ | refine SatD.tk 10 rfl hD (fun _ hw => RunV.fieldAddr rfl rfl rfl) ?_
                refine SatD.tk 11 rfl hD (fun _ hw => RunV.loadR1g j 2 (Sl.rd hcs hw (by repeat constructor)) rfl rfl (by omega) (map_get hc) rfl) ?_
                refine SatD.tk 12 rfl hD (fun _ hw => RunV.seql rfl rfl) ?_
                refine SatD.tk 13 rfl hD (fun _ hw => RunV.pick_f rfl rfl) ?_
                refine SatD.tk 14 rfl hD (fun _ hw => RunV.assign rfl) ?_
                refine SatD.done 0 (by kernel_rfl) (SatE.blk_normal (SatE.thenC ?_))
                clear hD
                refine SatC.weak (e' := [(0, _), (2, _), (3, _), (5, _), (9, _), (10, _), (11, _), (12, _), (13, _)]) (by repeat constructor) ?_
                refine SatC.region ?_
                refine SatL.pu (RunV.move rfl) rfl ?_
                refine SatL.pu (RunV.add rfl rfl (by first | exact wrapI64 (by omega) | rfl)) rfl ?_
                refine SatL.pu (RunV.assign rfl) rfl ?_
                refine SatL.nil ?_
                refine SatE.again ((k + 1, decide (s.id = c.svc))) ?_ (by first | omega | (dsimp only; omega)) (by repeat constructor)
                exact ⟨by omega, wh_next hq (by assumption) hs, hS.sel (by repeat constructor)⟩
            · (try simp only [cx, ne_eq] at h5)
              try (exfalso; (first | omega | exact h5 trivial | contradiction | (first | omega | (simp at h5; done))); done)
              all_goals
              refine SatC.exit (SatE.then_exit (SatE.then_exit (SatE.blk_exit (SatE.thenC ?_))))
              refine SatC.seq ?_
              refine SatC.region ?_
              refine SatL.pu (RunV.move rfl) rfl ?_
              refine SatL.pu (RunV.not rfl) rfl ?_
              refine SatL.nil (SatE.thenC ?_)
              refine SatC.cond rfl (fun h6 => ?_) (fun h6 => ?_)
              · (try simp only [cx, ne_eq] at h6)
                try (exfalso; (first | omega | exact h6 trivial | contradiction | (first | omega | (simp at h6; done))); done)
                all_goals
                refine SatC.seq ?_
                refine SatC.region ?_
                refine SatL.pu (RunV.assign rfl) rfl ?_
                refine SatL.nil (SatE.thenC ?_)
                refine SatC.ret (SatE.blk_ret (SatE.then_ret (SatE.then_ret (SatE.blk_ret (SatE.blk_ret (SatE.then_ret (SatE.then_ret (SatE.blk_ret (SatE.then_ret ?_)))))))))
                refine SatE.ret1 rfl rfl ?_
                exfalso
                have := hq (wh_row hP2.wh (List.mem_of_getElem? hc) hrs (by omega))
                simp_all
              · (try simp only [cx, ne_eq] at h6)
                try (exfalso; (first | omega | exact h6 trivial | contradiction | (first | omega | (simp at h6; done))); done)
                all_goals
                refine SatC.skip (SatE.blk_normal (SatE.thenC ?_))
                refine SatC.region ?_
                refine SatL.pu (RunV.move rfl) rfl ?_
                refine SatL.pu (RunV.add rfl rfl (by first | exact wrapI64 (by omega) | rfl)) rfl ?_
                refine SatL.pu (RunV.assign rfl) rfl ?_
                refine SatL.nil ?_
                refine SatE.again (j + 1) ?_ (by first | omega | (dsimp only; omega)) (by repeat constructor)
                exact ⟨by omega, hS.sel (by repeat constructor)⟩
          · (try simp only [cx, ne_eq] at h4)
            try (exfalso; (first | omega | exact h4 trivial | contradiction | (first | omega | (simp at h4; done))); done)
            all_goals
            refine SatC.exit (SatE.then_exit (SatE.then_exit (SatE.blk_exit (SatE.blk_normal (SatE.thenC ?_)))))
            refine SatC.region ?_
            refine SatL.pu (RunV.move rfl) rfl ?_
            refine SatL.pu (RunV.add rfl rfl (by first | exact wrapI64 (by omega) | rfl)) rfl ?_
            refine SatL.pu (RunV.assign rfl) rfl ?_
            refine SatL.nil ?_
            refine SatE.again ((i + 1, S2, L2)) ?_ (by first | omega | (dsimp only; omega)) (by repeat constructor)
            exact ⟨by omega, by omega, hP2.at (by omega), hS.sel (by repeat constructor)⟩
      · (try simp only [cx, ne_eq] at h3)
        try (exfalso; (first | omega | exact h3 trivial | contradiction | (first | omega | (simp at h3; done))); done)
        all_goals
        refine SatC.exit (SatE.then_exit (SatE.then_exit (SatE.blk_exit (SatE.thenC ?_))))
        refine SatC.seq ?_
        refine SatC.region ?_
        refine SatL.op rfl (OpW.enter rfl rfl rfl (rfl) (works_any _) ?_)
        rintro r3 w3 ⟨rfl, h⟩
        replace hS := St.callN hS h
        refine SatL.pu (RunV.assign rfl) rfl ?_
        refine SatL.nil (SatE.thenC ?_)
        refine SatC.ret ?_
        refine SatE.ret1 rfl rfl ?_
        exact ⟨rfl, hS.sel (by repeat constructor)⟩
    · (try simp only [cx, ne_eq] at h2)
      try (exfalso; (first | omega | exact h2 trivial | contradiction | (first | omega | (simp at h2; done))); done)
      all_goals
      refine SatL.guard_n rfl rfl rfl rfl ?_
      refine SatL.pu (RunV.pick_f rfl rfl) rfl ?_
      refine SatL.nil (SatE.thenC ?_)
      refine SatC.cond_f rfl ?_
      refine SatC.exit (SatE.then_exit (SatE.then_exit (SatE.blk_exit (SatE.thenC ?_))))
      refine SatC.seq ?_
      refine SatC.region ?_
      refine SatL.op rfl (OpW.enter rfl rfl rfl (rfl) (works_any _) ?_)
      rintro r3 w3 ⟨rfl, h⟩
      replace hS := St.callN hS h
      refine SatL.pu (RunV.assign rfl) rfl ?_
      refine SatL.nil (SatE.thenC ?_)
      refine SatC.ret ?_
      refine SatE.ret1 rfl rfl ?_
      exact ⟨rfl, hS.sel (by repeat constructor)⟩
theorem localWhole_lifted (os : Os) (started : os.Started) (H : Type) (enc : TypeId × Value → H) :
    ReturnsInHanded {} Try.checked os 3 .any (Rows.localWholeSpec.pre6 enc Try.prog Try.f3 Rows.localWholeRow.domain false) (Rows.localWholeSpec.post enc Try.prog Try.f3 false true false false) := by
  refine law_returns (C := Try.checked) (b := 4) (by kernel_rfl) started (by kernel_rfl) Try.func3
    (ChangeSpec.witness6 (enc := enc) (C := Try.checked) false ⟨#[], #[.slice none 0 0], []⟩ 8 (by kernel_rfl) (by kernel_rfl) (by kernel_rfl) (by kernel_rfl))
    rfl rfl (by kernel_rfl) (by kernel_rfl) (by kernel_rfl) (fun ds h => ?_) ?_
  · rw [Try.params3] at h
    match ds, h with
    | [_], _ => rfl
  intro W base args ds ps hval hA hsz
  rw [Try.params3] at hA hval
  obtain ⟨v0, d0, hargs, rfl, h0⟩ := trodAll_one hA
  subst hargs
  obtain ⟨xs0, hr0, hx0⟩ := open_rows (l := [3, 3, 9, 3, 9, 9, 27, 3, 28, 28, 3, 9, 9, 9, 3, 28, 28, 3, 3, 3, 3, 9, 3]) 6 Try.underlying22 (by kernel_rfl) (by kernel_rfl) (by decide) (hval 0 22 v0 rfl rfl) h0
  obtain ⟨ys0, rfl, hy0⟩ := sp_rows hx0
  exact law_done (whole_any ys0 _ W hr0 hy0)
theorem localWhole_holds : Rows.LocalWholeSaid :=
  OpenClaim.holds_of_wide 3 Try.f3 rfl rfl rfl rfl rfl rfl rfl ⟨rfl, rfl, rfl, rfl, rfl⟩ rfl rfl rfl rfl rfl (by kernel_rfl) Try.func3 (by kernel_rfl)
    (of_decide_eq_true (by kernel_rfl)) (by unfold Func.isWrapper; first | (rw [if_pos (by decide +kernel)]; kernel_rfl) | (rw [if_neg (by decide +kernel)]; exact ⟨rfl, rfl⟩))
    (fun os started H enc _ => localWhole_lifted os started H enc)
end Go.Proofs.Ytbnkcagcfbpiiaa
