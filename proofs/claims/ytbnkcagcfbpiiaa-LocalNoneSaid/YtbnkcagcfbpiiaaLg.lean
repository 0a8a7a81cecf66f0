/- Services, Checks. -/
import Derived.Test.YtbnkcagcfbpiiaaLf
set_option linter.unusedSimpArgs false
set_option linter.unusedVariables false
set_option maxRecDepth 100000
set_option maxHeartbeats 4000000
namespace Go.Proofs.Ytbnkcagcfbpiiaa
open Go.RowKit
/-- What is plain in a service. -/
structure Sd where
  id : List UInt8
  name : List UInt8
  tags : List (List UInt8)
  port : Int
def sdat (s : Sv) : Sd := ⟨s.id, s.name, s.tags, s.port⟩
def ordS (l : List Sv) : List Sv := (srt (l.map Sv.id)).filterMap (gt Sv.id l)
def ordC (l : List Ch) : List Ch := (srt (l.map Ch.id)).filterMap (gt Ch.id l)
/-- A check as it is told. -/
@[reducible] def chs (n : Int) (c : Ch) : List Value := [.int .i64 n, str c.id, str c.svc, str c.note, .int .i64 (stat c.h), .int .u64 0, .int .u64 0]
theorem fm_step {α : Type} {f : List UInt8 → Option α} {ys : List (List UInt8)} {i : Nat} {y : List UInt8} {x : α} (h : ys[i]? = some y) (hx : f y = some x) : (ys.take (i + 1)).filterMap f = (ys.take i).filterMap f ++ [x] := by
  rw [List.take_add_one, h, List.filterMap_append]
  simp [hx]
theorem fm_len {α : Type} (f : List UInt8 → Option α) (ys : List (List UInt8)) (i : Nat) : ((ys.take i).filterMap f).length ≤ i := by
  refine Nat.le_trans (List.length_filterMap_le ..) ?_
  rw [List.length_take]
  omega
section
variable {b : Nat} {S : Lc} {L : List (Nat × Obj)} {w : World}
theorem services_d (h : Agt b S L) (hown : Own w L) :
    Ret Try.prog 8 #[.pointer (some ⟨b, 0, none⟩)] w fun u w' => ∃ R AB, R.map sdat = (ordS S.sv).map sdat ∧ Sl 30 7 u (R.map (svc S.node)) AB ∧ (∀ r ∈ R, Sl 9 1 r.tv (r.tags.map rs) r.B) ∧ St w [] (AB ++ tbl R) w' := by
  obtain ⟨hs16, hc16, hsu, hcu, htg, hck, ms, mc, oS, oC, hmS, hmC, rfl⟩ := h
  have hS := St.init hown
  have hcD : ∀ s ∈ S.sv, ∀ c ∈ s.B, c ∈ tbl S.sv ++ S.ch.map hblk := fun s hs c hc => List.mem_append_left _ (List.mem_flatMap.2 ⟨s, hs, hc⟩)
  generalize (tbl S.sv ++ S.ch.map hblk) = D at hS hown hcD
  generalize hX : (LO b S.node S.addr ms mc oS oC D).map Prod.fst = X at hS
  have hro : ∀ {L w'}, St w X (L ++ LO b S.node S.addr ms mc oS oC D) w' → St w [] L w' := fun h => St.roL hown (by rw [hX]; exact h.perm List.perm_append_comm) .here
  have hyl : (srt (S.sv.map Sv.id)).length = S.sv.length := by rw [srt_len, List.length_map]
  have hyg : ∀ y ∈ srt (S.sv.map Sv.id), ∃ x, gt Sv.id S.sv y = some x ∧ x ∈ S.sv ∧ x.id = y := fun y hy => gt_some (mem_srt.1 hy)
  unfold ordS
  generalize hys : srt (S.sv.map Sv.id) = ys at hyl hyg ⊢
  refine Ret.enter Try.func8 Try.ntmps8 rfl rfl ?_
  simp only [argEnv, Nat.reduceAdd]
  refine SatC.seq ?_
  refine SatC.region ?_
  refine SatL.pu (RunV.assign rfl) rfl ?_
  refine SatL.nil (SatE.thenC ?_)
  refine SatC.seq ?_
  refine SatC.seq ?_
  refine SatC.region ?_
  refine SatL.pu (RunV.move rfl) rfl ?_
  refine SatL.op rfl (OpW.enter rfl rfl rfl (rfl) (lnone_any (hS.ownT (A := [(b, C 63 (lcc S.node S.addr ms mc))]) (by repeat constructor))) ?_)
  rintro r1 w1 ⟨rfl, h⟩
  replace hS := St.callN hS h
  refine SatL.nil (SatE.thenC ?_)
  refine SatC.cond rfl (fun h1 => ?_) (fun h1 => ?_)
  · (try simp only [cx, ne_eq] at h1)
    try (exfalso; (first | omega | exact h1 trivial | contradiction | (first | omega | (simp at h1; done))); done)
    all_goals
    refine SatC.seq ?_
    refine SatC.region ?_
    refine SatL.pu (RunV.assign rfl) rfl ?_
    refine SatL.nil (SatE.thenC ?_)
    refine SatC.ret (SatE.then_ret ?_)
    refine SatE.ret1 rfl rfl ?_
    refine ⟨R, AB, by rw [hR, List.take_of_length_le (by omega)], hsa, hRt, hro (L := AB ++ tbl R) (by rw [List.append_assoc]; exact hS.sel (by repeat constructor))⟩
  · (try simp only [cx, ne_eq] at h1)
    try (exfalso; (first | omega | exact h1 trivial | contradiction | (first | omega | (simp at h1; done))); done)
    all_goals
    refine SatC.skip (SatE.thenC ?_)
    refine SatC.seq ?_
    refine SatC.region ?_
    refine SatL.pu (RunV.assign rfl) rfl ?_
    refine SatL.nil (SatE.thenC ?_)
    refine SatC.seq ?_
    refine SatC.seq ?_
    refine SatC.region ?_
    refine SatL.pu (RunV.move rfl) rfl ?_
    first | refine SatL.pu (RunV.nil_ptr rfl) rfl ?_ | refine SatL.pu (RunV.nil_func rfl) rfl ?_ | refine SatL.pu (RunV.nil_yield rfl) rfl ?_
    first | refine SatL.pu (RunV.fieldAddrL rfl rfl rfl) rfl ?_ | refine SatL.pu (RunV.fieldAddr rfl rfl rfl) rfl ?_
    refine SatL.pu (RunV.load1 hS rfl rfl (by repeat constructor) rfl) rfl ?_
    refine SatL.op rfl (OpW.enter rfl rfl rfl (rfl) (idsS_any S.sv hs16 _ _ hmS (hS.ownT (A := [(ms, oS)]) (by repeat constructor))) ?_)
    rintro r2 w2 ⟨KB, hkl, h⟩
    replace hS := hS.callT (A := []) .nil h
    rw [hys] at hkl
    obtain ⟨vc, hv⟩ := hkl.slv
    rw [List.length_map] at hv
    first | refine SatL.pu (RunV.lenR (by assumption) rfl rfl) rfl ?_ | refine SatL.pu (RunV.lenS rfl rfl) rfl ?_
    refine SatL.pu (RunV.move rfl) rfl ?_
    refine SatL.nil (SatE.thenC ?_)
    refine SatC.block ?_
    refine SatC.loopK (G := Nat × List Sv × Value × List (Nat × Obj)) (V := fun ⟨i, R, av, AB⟩ => [(15, .int .i64 (i : Int)), (3, av)]) (Cn := [(0, _), (2, _), (13, _), (14, _)]) (I := fun ⟨i, R, av, AB⟩ w' => i ≤ ys.length ∧ R.map sdat = ((ys.take i).filterMap (gt Sv.id S.sv)).map sdat ∧ Sl 30 7 av (R.map (svc S.node)) AB ∧ (∀ r ∈ R, Sl 9 1 r.tv (r.tags.map rs) r.B) ∧ St w X (AB ++ (tbl R ++ (KB ++ LO b S.node S.addr ms mc oS oC D))) w') (μ := fun ⟨i, R, av, AB⟩ => ys.length - i) (0, [], .slice none 0 0, []) ?_ (by repeat constructor) ?_
    · exact ⟨Nat.zero_le _, rfl, .nil, fun r hr => (by cases hr), hS⟩
    clear hS
    rintro ⟨i, R, av, AB⟩ w3 ⟨hi, hR, hsa, hRt, hS⟩
    refine SatC.weak (e' := [(0, _), (2, _), (3, _), (13, _), (14, _), (15, _)]) (by repeat constructor) ?_
    refine SatC.seq ?_
    refine SatC.region ?_
    refine SatL.pu (RunV.lss rfl rfl) rfl ?_
    refine SatL.nil (SatE.thenC ?_)
    refine SatC.seq ?_
    refine SatC.cond rfl (fun h2 => ?_) (fun h2 => ?_)
    · (try simp only [cx, ne_eq] at h2)
      try (exfalso; (first | omega | exact h2 trivial | contradiction | (first | omega | (simp at h2; done))); done)
      all_goals
      refine SatC.skip (SatE.thenC ?_)
      refine SatC.seq ?_
      refine SatC.block ?_
      refine SatC.seq ?_
      obtain ⟨y, hy⟩ : ∃ y, ys[i]? = some y := ⟨_, List.getElem?_eq_getElem (by omega)⟩
      obtain ⟨x, hgx, hxm, hxy⟩ := hyg y (List.mem_of_getElem? hy)
      have hxt := htg x hxm
      obtain ⟨xc, hxv⟩ := hxt.1.slv
      have hRl : R.length ≤ i := by have := congrArg List.length hR; rw [List.length_map, List.length_map] at this; have := fm_len (gt Sv.id S.sv) ys i; omega
      rw [List.length_map] at hxv
      refine SatC.region ?_
      first | refine SatL.pu (RunV.indexR (by assumption) rfl rfl rfl (by omega) (by omega) rfl) rfl ?_ | refine SatL.pu (RunV.indexS rfl rfl rfl (by omega) (by omega) rfl) rfl ?_
      refine SatL.pu (RunV.loadR1g i 0 (Sl.rd hkl hS (by repeat constructor)) rfl rfl (by omega) (map_get hy) rfl) rfl ?_
      refine SatL.pu (RunV.assign rfl) rfl ?_
      refine SatL.nil (SatE.thenC ?_)
      refine SatC.seq ?_
      refine SatC.region ?_
      refine SatL.pu (RunV.move rfl) rfl ?_
      first | refine SatL.pu (RunV.nil_ptr rfl) rfl ?_ | refine SatL.pu (RunV.nil_func rfl) rfl ?_ | refine SatL.pu (RunV.nil_yield rfl) rfl ?_
      first | refine SatL.pu (RunV.fieldAddrL rfl rfl rfl) rfl ?_ | refine SatL.pu (RunV.fieldAddr rfl rfl rfl) rfl ?_
      refine SatL.pu (RunV.load1 hS rfl rfl (by repeat constructor) rfl) rfl ?_
      refine SatL.pu (RunV.move rfl) rfl ?_
      refine SatL.pu (RunV.cast (v' := .agg (svc S.node x).toArray) (RunV.lookup1 (keyL rfl) hS rfl rfl rfl rfl (by repeat constructor) hmS.is) (by rw [kget_v, hgx]; rfl)) rfl ?_
      refine SatL.op rfl (OpW.alloc hS rfl rfl (by repeat constructor) ?_)
      clear hS
      intro b6 w4 _ hS
      refine SatL.op rfl (OpW.store hS rfl rfl (by repeat constructor) (by repeat constructor) (by repeat constructor) rfl (svc_one hxt.1.one) ?_)
      clear hS
      intro w5 hS
      refine SatL.nil (SatE.thenC ?_)
      refine SatC.seq ?_
      refine SatC.region ?_
      refine SatL.op rfl (OpW.buildSlice0 hS rfl rfl rfl ?_)
      clear hS
      intro v25 b25 w6 _ hsl25 hv25 hS
      first | refine SatL.pu (RunV.fieldAddrL rfl rfl rfl) rfl ?_ | refine SatL.pu (RunV.fieldAddr rfl rfl rfl) rfl ?_
      refine SatL.pu (RunV.load1 hS rfl rfl (by repeat constructor) rfl) rfl ?_
      refine SatL.op rfl (OpW.appendN (rows := []) hsl25 hS (by repeat constructor) hxv (hxt.1.rdOf fun c hc => hS.own c (by simp [hcD x hxm c hc])) (by rw [List.length_map]) rfl rfl rfl rfl rfl rfl rfl (rs_one _) (by have := hxt.2; simp; omega) rfl ?_)
      clear hS
      intro v28 B28 w7 hsl28 hS
      first | refine SatL.pu (RunV.fieldAddrL rfl rfl rfl) rfl ?_ | refine SatL.pu (RunV.fieldAddr rfl rfl rfl) rfl ?_
      refine SatL.op rfl (OpW.storeSv hS rfl rfl (by assumption) (by repeat constructor) (by repeat constructor) rfl ?_)
      clear hS
      intro w8 hS
      refine SatL.nil (SatE.thenC ?_)
      refine SatC.weak (e' := [(0, _), (2, _), (3, _), (6, _), (13, _), (14, _), (15, _)]) (by repeat constructor) ?_
      refine SatC.region ?_
      refine SatL.pu (RunV.move rfl) rfl ?_
      refine SatL.pu (RunV.loadN hS rfl rfl (by repeat constructor) (by repeat constructor)) rfl ?_
      refine SatL.op rfl (OpW.buildSlice1 hS rfl rfl rfl rfl rfl (by repeat constructor) rfl rfl rfl ?_)
      clear hS
      intro b32 w9 _ hS
      refine SatL.op rfl (OpW.append1 hsa hS (by repeat constructor) rfl rfl (by repeat constructor) rfl rfl rfl rfl rfl rfl rfl (svc_one (n := S.node) (s := ⟨x.id, x.name, x.tags, x.port, v28, B28⟩) hsl28.one) (by rw [List.length_map]; omega) rfl ?_)
      clear hS
      intro v33 B33 w10 hsl33 hS
      refine SatL.pu (RunV.assign rfl) rfl ?_
      refine SatL.nil (SatE.blk_normal (SatE.thenC ?_))
      refine SatC.region ?_
      refine SatL.pu (RunV.add rfl rfl (by first | exact wrapI64 (by omega) | rfl)) rfl ?_
      refine SatL.pu (RunV.move rfl) rfl ?_
      refine SatL.nil ?_
      refine SatE.again ((i + 1, R ++ [⟨x.id, x.name, x.tags, x.port, v28, B28⟩], v33, B33)) ?_ (by first | omega | (dsimp only; omega)) (by repeat constructor)
      refine ⟨by omega, ?_, ?_, ?_, ?_⟩
      · rw [List.map_append, hR, fm_step hy hgx, List.map_append]; rfl
      · rw [List.map_append]; exact hsl33
      · intro r hr
        rcases List.mem_append.1 hr with hr | hr
        · exact hRt r hr
        · rw [List.mem_singleton.1 hr]; exact hsl28
      · have hS3 := hS.sel (R := B33 ++ (B28 ++ (tbl R ++ (KB ++ LO b S.node S.addr ms mc oS oC D)))) (by repeat constructor)
        refine hS3.perm (List.Perm.append_left _ ?_)
        rw [show tbl (R ++ [(⟨x.id, x.name, x.tags, x.port, v28, B28⟩ : Sv)]) = tbl R ++ B28 from by simp [tbl], ← List.append_assoc]
        exact List.Perm.append_right _ List.perm_append_comm
    · (try simp only [cx, ne_eq] at h2)
      try (exfalso; (first | omega | exact h2 trivial | contradiction | (first | omega | (simp at h2; done))); done)
      all_goals
      refine SatC.exit (SatE.then_exit (SatE.then_exit (SatE.blk_exit (SatE.thenC ?_))))
      refine SatC.seq ?_
      refine SatC.region ?_
      refine SatL.pu (RunV.move rfl) rfl ?_
      refine SatL.pu (RunV.assign rfl) rfl ?_
      refine SatL.nil (SatE.thenC ?_)
      refine SatC.ret ?_
      refine SatE.ret1 rfl rfl ?_
      refine ⟨R, AB, by rw [hR, List.take_of_length_le (by omega)], hsa, hRt, hro (L := AB ++ tbl R) (by rw [List.append_assoc]; exact hS.sel (by repeat constructor))⟩
theorem checks_d (h : Agt b S L) (hown : Own w L) :
    Ret Try.prog 11 #[.pointer (some ⟨b, 0, none⟩)] w fun u w' => ∃ AB, Sl 32 7 u ((ordC S.ch).map (chs S.node)) AB ∧ St w [] AB w' := by
  obtain ⟨hs16, hc16, hsu, hcu, htg, hck, ms, mc, oS, oC, hmS, hmC, rfl⟩ := h
  have hS := St.init hown
  have hcD : ∀ c ∈ S.ch, hblk c ∈ tbl S.sv ++ S.ch.map hblk := fun c hc => List.mem_append_right _ (List.mem_map_of_mem hc)
  generalize (tbl S.sv ++ S.ch.map hblk) = D at hS hown hcD
  generalize hX : (LO b S.node S.addr ms mc oS oC D).map Prod.fst = X at hS
  have hro : ∀ {L w'}, St w X (L ++ LO b S.node S.addr ms mc oS oC D) w' → St w [] L w' := fun h => St.roL hown (by rw [hX]; exact h.perm List.perm_append_comm) .here
  have hyl : (srt (S.ch.map Ch.id)).length = S.ch.length := by rw [srt_len, List.length_map]
  have hyg : ∀ y ∈ srt (S.ch.map Ch.id), ∃ x, gt Ch.id S.ch y = some x ∧ x ∈ S.ch ∧ x.id = y := fun y hy => gt_some (mem_srt.1 hy)
  unfold ordC
  generalize hys : srt (S.ch.map Ch.id) = ys at hyl hyg ⊢
  refine Ret.enter Try.func11 Try.ntmps11 rfl rfl ?_
  simp only [argEnv, Nat.reduceAdd]
  refine SatC.seq ?_
  refine SatC.region ?_
  refine SatL.pu (RunV.assign rfl) rfl ?_
  refine SatL.nil (SatE.thenC ?_)
  refine SatC.seq ?_
  refine SatC.seq ?_
  refine SatC.region ?_
  refine SatL.pu (RunV.move rfl) rfl ?_
  refine SatL.op rfl (OpW.enter rfl rfl rfl (rfl) (lnone_any (hS.ownT (A := [(b, C 63 (lcc S.node S.addr ms mc))]) (by repeat constructor))) ?_)
  rintro r1 w1 ⟨rfl, h⟩
  replace hS := St.callN hS h
  refine SatL.nil (SatE.thenC ?_)
  refine SatC.cond rfl (fun h1 => ?_) (fun h1 => ?_)
  · (try simp only [cx, ne_eq] at h1)
    try (exfalso; (first | omega | exact h1 trivial | contradiction | (first | omega | (simp at h1; done))); done)
    all_goals
    refine SatC.seq ?_
    refine SatC.region ?_
    refine SatL.pu (RunV.assign rfl) rfl ?_
    refine SatL.nil (SatE.thenC ?_)
    refine SatC.ret (SatE.then_ret ?_)
    refine SatE.ret1 rfl rfl ?_
    refine ⟨AB, by rw [List.take_of_length_le (by omega)] at hsa; exact hsa, hro (L := AB) (hS.sel (by repeat constructor))⟩
  · (try simp only [cx, ne_eq] at h1)
    try (exfalso; (first | omega | exact h1 trivial | contradiction | (first | omega | (simp at h1; done))); done)
    all_goals
    refine SatC.skip (SatE.thenC ?_)
    refine SatC.seq ?_
    refine SatC.region ?_
    refine SatL.pu (RunV.assign rfl) rfl ?_
    refine SatL.nil (SatE.thenC ?_)
    refine SatC.seq ?_
    refine SatC.seq ?_
    refine SatC.region ?_
    refine SatL.pu (RunV.move rfl) rfl ?_
    first | refine SatL.pu (RunV.nil_ptr rfl) rfl ?_ | refine SatL.pu (RunV.nil_func rfl) rfl ?_ | refine SatL.pu (RunV.nil_yield rfl) rfl ?_
    first | refine SatL.pu (RunV.fieldAddrL rfl rfl rfl) rfl ?_ | refine SatL.pu (RunV.fieldAddr rfl rfl rfl) rfl ?_
    refine SatL.pu (RunV.load1 hS rfl rfl (by repeat constructor) rfl) rfl ?_
    refine SatL.op rfl (OpW.enter rfl rfl rfl (rfl) (idsC_any S.ch hc16 _ _ hmC (hS.ownT (A := [(mc, oC)]) (by repeat constructor))) ?_)
    rintro r2 w2 ⟨KB, hkl, h⟩
    replace hS := hS.callT (A := []) .nil h
    rw [hys] at hkl
    obtain ⟨vc, hv⟩ := hkl.slv
    rw [List.length_map] at hv
    first | refine SatL.pu (RunV.lenR (by assumption) rfl rfl) rfl ?_ | refine SatL.pu (RunV.lenS rfl rfl) rfl ?_
    refine SatL.pu (RunV.move rfl) rfl ?_
    refine SatL.nil (SatE.thenC ?_)
    refine SatC.block ?_
    refine SatC.loopK (G := Nat × Value × List (Nat × Obj)) (V := fun ⟨i, av, AB⟩ => [(15, .int .i64 (i : Int)), (3, av)]) (Cn := [(0, _), (2, _), (13, _), (14, _)]) (I := fun ⟨i, av, AB⟩ w' => i ≤ ys.length ∧ Sl 32 7 av (((ys.take i).filterMap (gt Ch.id S.ch)).map (chs S.node)) AB ∧ St w X (AB ++ (KB ++ LO b S.node S.addr ms mc oS oC D)) w') (μ := fun ⟨i, av, AB⟩ => ys.length - i) (0, .slice none 0 0, []) ?_ (by repeat constructor) ?_
    · exact ⟨Nat.zero_le _, .nil, hS⟩
    clear hS
    rintro ⟨i, av, AB⟩ w3 ⟨hi, hsa, hS⟩
    refine SatC.weak (e' := [(0, _), (2, _), (3, _), (13, _), (14, _), (15, _)]) (by repeat constructor) ?_
    refine SatC.seq ?_
    refine SatC.region ?_
    refine SatL.pu (RunV.lss rfl rfl) rfl ?_
    refine SatL.nil (SatE.thenC ?_)
    refine SatC.seq ?_
    refine SatC.cond rfl (fun h2 => ?_) (fun h2 => ?_)
    · (try simp only [cx, ne_eq] at h2)
      try (exfalso; (first | omega | exact h2 trivial | contradiction | (first | omega | (simp at h2; done))); done)
      all_goals
      refine SatC.skip (SatE.thenC ?_)
      refine SatC.seq ?_
      refine SatC.block ?_
      refine SatC.seq ?_
      obtain ⟨y, hy⟩ : ∃ y, ys[i]? = some y := ⟨_, List.getElem?_eq_getElem (by omega)⟩
      obtain ⟨x, hgx, hxm, hxy⟩ := hyg y (List.mem_of_getElem? hy)
      have hRl := fm_len (gt Ch.id S.ch) ys i
      refine SatC.region ?_
      first | refine SatL.pu (RunV.indexR (by assumption) rfl rfl rfl (by omega) (by omega) rfl) rfl ?_ | refine SatL.pu (RunV.indexS rfl rfl rfl (by omega) (by omega) rfl) rfl ?_
      refine SatL.pu (RunV.loadR1g i 0 (Sl.rd hkl hS (by repeat constructor)) rfl rfl (by omega) (map_get hy) rfl) rfl ?_
      refine SatL.pu (RunV.assign rfl) rfl ?_
      refine SatL.nil (SatE.thenC ?_)
      refine SatC.seq ?_
      refine SatC.region ?_
      refine SatL.pu (RunV.move rfl) rfl ?_
      first | refine SatL.pu (RunV.nil_ptr rfl) rfl ?_ | refine SatL.pu (RunV.nil_func rfl) rfl ?_ | refine SatL.pu (RunV.nil_yield rfl) rfl ?_
      first | refine SatL.pu (RunV.fieldAddrL rfl rfl rfl) rfl ?_ | refine SatL.pu (RunV.fieldAddr rfl rfl rfl) rfl ?_
      refine SatL.pu (RunV.load1 hS rfl rfl (by repeat constructor) rfl) rfl ?_
      refine SatL.pu (RunV.move rfl) rfl ?_
      refine SatL.pu (RunV.cast (v' := .agg (chv S.node x).toArray) (RunV.lookup1 (keyL rfl) hS rfl rfl rfl rfl (by repeat constructor) hmC.is) (by rw [kget_v, hgx]; rfl)) rfl ?_
      refine SatL.pu (RunV.fieldN (cs := chv S.node x) (vs := chc S.node x) rfl rfl rfl (by repeat constructor)) rfl ?_
      refine SatL.op rfl (OpW.alloc hS rfl rfl (by repeat constructor) ?_)
      clear hS
      intro b6 w4 _ hS
      refine SatL.op rfl (OpW.store hS rfl rfl (by repeat constructor) (by repeat constructor) (by repeat constructor) rfl rfl ?_)
      clear hS
      intro w5 hS
      refine SatL.nil (SatE.thenC ?_)
      refine SatC.seq ?_
      refine SatC.region ?_
      refine SatL.pu (RunV.move rfl) rfl ?_
      first | refine SatL.pu (RunV.nil_ptr rfl) rfl ?_ | refine SatL.pu (RunV.nil_func rfl) rfl ?_ | refine SatL.pu (RunV.nil_yield rfl) rfl ?_
      first | refine SatL.pu (RunV.fieldAddrL rfl rfl rfl) rfl ?_ | refine SatL.pu (RunV.fieldAddr rfl rfl rfl) rfl ?_
      refine SatL.pu (RunV.load1 hS rfl rfl (by repeat constructor) rfl) rfl ?_
      refine SatL.pu (RunV.move rfl) rfl ?_
      refine SatL.pu (RunV.cast (v' := .agg (chv S.node x).toArray) (RunV.lookup1 (keyL rfl) hS rfl rfl rfl rfl (by repeat constructor) hmC.is) (by rw [kget_v, hgx]; rfl)) rfl ?_
      refine SatL.pu (RunV.field1 rfl rfl rfl rfl) rfl ?_
      refine SatL.op rfl (OpW.enter rfl rfl rfl (rfl) (stat_any (c := x.h) (own1 (p := hblk x) hS (by simp [hcD x hxm])) (hck x hxm)) ?_)
      rintro r6 w6 ⟨rfl, h⟩
      replace hS := St.callN hS h
      first | refine SatL.pu (RunV.fieldAddrL rfl rfl rfl) rfl ?_ | refine SatL.pu (RunV.fieldAddr rfl rfl rfl) rfl ?_
      refine SatL.op rfl (OpW.store hS rfl rfl (by repeat constructor) (by repeat constructor) (by repeat constructor) rfl rfl ?_)
      clear hS
      intro w7 hS
      refine SatL.nil (SatE.thenC ?_)
      refine SatC.weak (e' := [(0, _), (2, _), (3, _), (6, _), (13, _), (14, _), (15, _)]) (by repeat constructor) ?_
      refine SatC.region ?_
      refine SatL.pu (RunV.move rfl) rfl ?_
      refine SatL.pu (RunV.loadN hS rfl rfl (by repeat constructor) (by repeat constructor)) rfl ?_
      refine SatL.op rfl (OpW.buildSlice1 hS rfl rfl rfl rfl rfl (by repeat constructor) rfl rfl rfl ?_)
      clear hS
      intro b37 w8 _ hS
      refine SatL.op rfl (OpW.append1 hsa hS (by repeat constructor) rfl rfl (by repeat constructor) rfl rfl rfl rfl rfl rfl rfl rfl (by rw [List.length_map]; omega) rfl ?_)
      clear hS
      intro v38 B38 w9 hsl38 hS
      refine SatL.pu (RunV.assign rfl) rfl ?_
      refine SatL.nil (SatE.blk_normal (SatE.thenC ?_))
      refine SatC.region ?_
      refine SatL.pu (RunV.add rfl rfl (by first | exact wrapI64 (by omega) | rfl)) rfl ?_
      refine SatL.pu (RunV.move rfl) rfl ?_
      refine SatL.nil ?_
      refine SatE.again ((i + 1, v38, B38)) ?_ (by first | omega | (dsimp only; omega)) (by repeat constructor)
      refine ⟨by omega, ?_, hS.sel (by repeat constructor)⟩
      rw [fm_step hy hgx, List.map_append]; exact hsl38
    · (try simp only [cx, ne_eq] at h2)
      try (exfalso; (first | omega | exact h2 trivial | contradiction | (first | omega | (simp at h2; done))); done)
      all_goals
      refine SatC.exit (SatE.then_exit (SatE.then_exit (SatE.blk_exit (SatE.thenC ?_))))
      refine SatC.seq ?_
      refine SatC.region ?_
      refine SatL.pu (RunV.move rfl) rfl ?_
      refine SatL.pu (RunV.assign rfl) rfl ?_
      refine SatL.nil (SatE.thenC ?_)
      refine SatC.ret ?_
      refine SatE.ret1 rfl rfl ?_
      refine ⟨AB, by rw [List.take_of_length_le (by omega)] at hsa; exact hsa, hro (L := AB) (hS.sel (by repeat constructor))⟩
end
end Go.Proofs.Ytbnkcagcfbpiiaa
