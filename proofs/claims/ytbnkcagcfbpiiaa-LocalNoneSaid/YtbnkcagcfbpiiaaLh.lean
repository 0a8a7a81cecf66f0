/- Remove. -/
import Derived.Test.YtbnkcagcfbpiiaaLg
set_option linter.unusedSimpArgs false
set_option linter.unusedVariables false
set_option maxRecDepth 100000
set_option maxHeartbeats 4000000
namespace Go.Proofs.Ytbnkcagcfbpiiaa
open Go.RowKit
theorem gt_of_mem {α : Type} {key : α → List UInt8} {l : List α} {x : α} (h : (l.map key).Nodup) (hx : x ∈ l) : gt key l (key x) = some x := by
  induction l with
  | nil => cases hx
  | cons y l ih =>
    rw [List.map_cons, List.nodup_cons] at h
    unfold gt
    rcases List.mem_cons.1 hx with rfl | hx
    · rw [if_pos rfl]
    · rw [if_neg (fun e => h.1 (by rw [← e]; exact List.mem_map_of_mem hx)), ih h.2 hx]
theorem key_inj {α : Type} {key : α → List UInt8} {l : List α} {x y : α} (h : (l.map key).Nodup) (hx : x ∈ l) (hy : y ∈ l) (e : key x = key y) : x = y := by
  have h1 := gt_of_mem h hx
  have h2 := gt_of_mem h hy
  rw [e, h2] at h1
  exact (Option.some.inj h1).symm
def fil (k : List UInt8) (zs : List (List UInt8)) (l : List Ch) : List Ch := l.filter fun c => !(decide (c.svc = k) && decide (c.id ∈ zs))
theorem fil_nil (k : List UInt8) (l : List Ch) : fil k [] l = l := by
  unfold fil
  rw [List.filter_eq_self]
  intro c _
  simp
theorem fil_all {k : List UInt8} {zs : List (List UInt8)} {l : List Ch} (h : ∀ c ∈ l, c.id ∈ zs) : fil k zs l = l.filter fun c => decide (¬ c.svc = k) := by
  unfold fil
  refine List.filter_congr fun c hc => ?_
  have := h c hc
  simp [this]
theorem fil_sub (k : List UInt8) (zs : List (List UInt8)) (l : List Ch) : (fil k zs l).Sublist l := List.filter_sublist ..
theorem fil_y {k y : List UInt8} {ys : List (List UInt8)} {l : List Ch} {x : Ch} {i : Nat} (hn : (l.map Ch.id).Nodup) (hy : ys[i]? = some y) (hx : x ∈ l) (hxy : x.id = y) (hs : x.svc = k) : dl Ch.id (fil k (ys.take i) l) y = fil k (ys.take (i + 1)) l := by
  rw [dl_filter (((fil_sub ..).map _).nodup hn)]
  unfold fil
  rw [List.filter_filter]
  refine List.filter_congr fun c hc => ?_
  rw [List.take_add_one, hy]
  simp only [Option.toList_some, List.mem_append, List.mem_singleton]
  by_cases e : c.id = y
  · have : c = x := key_inj hn hc hx (e.trans hxy.symm)
    subst this
    simp [e, hs]
  · simp [e]
theorem fil_n {k y : List UInt8} {ys : List (List UInt8)} {l : List Ch} {x : Ch} {i : Nat} (hn : (l.map Ch.id).Nodup) (hy : ys[i]? = some y) (hx : x ∈ l) (hxy : x.id = y) (hs : ¬ x.svc = k) : fil k (ys.take (i + 1)) l = fil k (ys.take i) l := by
  unfold fil
  refine List.filter_congr fun c hc => ?_
  rw [List.take_add_one, hy]
  simp only [Option.toList_some, List.mem_append, List.mem_singleton]
  by_cases e : c.id = y
  · have : c = x := key_inj hn hc hx (e.trans hxy.symm)
    subst this
    simp [hs]
  · simp [e]
theorem not_take {ys : List (List UInt8)} {y : List UInt8} {i : Nat} (hn : ys.Nodup) (hy : ys[i]? = some y) : y ∉ ys.take i := by
  intro h
  have hil := (List.getElem?_eq_some_iff.1 hy).1
  have hd : y ∈ ys.drop i := List.mem_of_getElem? (i := 0) (by rw [List.getElem?_drop]; exact hy)
  rw [← List.take_append_drop i ys] at hn
  exact (List.nodup_append.1 hn).2.2 y h y hd rfl
theorem gt_fil {k y : List UInt8} {ys : List (List UInt8)} {l : List Ch} {x : Ch} {i : Nat} (hn : (l.map Ch.id).Nodup) (hyn : ys.Nodup) (hy : ys[i]? = some y) (hx : x ∈ l) (hxy : x.id = y) : gt Ch.id (fil k (ys.take i) l) y = some x := by
  have hm : x ∈ fil k (ys.take i) l := by
    unfold fil
    refine List.mem_filter.2 ⟨hx, ?_⟩
    simp [hxy, not_take hyn hy]
  have := gt_of_mem (((fil_sub k (ys.take i) l).map _).nodup hn) hm
  rwa [hxy] at this
theorem tbl_sub {l l' : List Sv} (h : l.Sublist l') : (tbl l).Sublist (tbl l') := by
  induction h with
  | slnil => exact .slnil
  | cons a _ ih => exact ih.trans (List.sublist_append_right _ _)
  | cons_cons a _ ih => exact List.Sublist.append (List.Sublist.refl _) ih
theorem srt_nodup {l : List (List UInt8)} (h : l.Nodup) : (srt l).Nodup := (List.mergeSort_perm ..).nodup_iff.2 h
def aRem (S : Lc) (k : List UInt8) : Lc := if (gt Sv.id S.sv k).isSome = true then { S with sv := dl Sv.id S.sv k, ch := S.ch.filter fun c => decide (¬ c.svc = k) } else S
section
variable {b : Nat} {S : Lc} {L : List (Nat × Obj)} {w : World}
theorem rem_d (k : List UInt8) (h : Agt b S L) (hown : Own w L) :
    Ret Try.prog 25 #[.pointer (some ⟨b, 0, none⟩), str k] w fun u w' => u = .int .i64 (if (gt Sv.id S.sv k).isSome = true then 0 else 4) ∧ ∃ L', Agt b (aRem S k) L' ∧ St w (L.map Prod.fst) L' w' := by
  have hw := h
  obtain ⟨hs16, hc16, hsu, hcu, htg, hck, ms, mc, oS, oC, hmS, hmC, rfl⟩ := h
  have hS := St.init hown
  generalize hX : (LO b S.node S.addr ms mc oS oC (tbl S.sv ++ S.ch.map hblk)).map Prod.fst = X at hS ⊢
  unfold aRem
  cases hq : gt Sv.id S.sv k with
  | none =>
    generalize hD : tbl S.sv ++ S.ch.map hblk = D at hS hw
    refine Ret.enter Try.func25 Try.ntmps25 rfl rfl ?_
    simp only [argEnv, Nat.reduceAdd]
    refine SatC.seq ?_
    refine SatC.region ?_
    refine SatL.pu (RunV.assign rfl) rfl ?_
    refine SatL.nil (SatE.thenC ?_)
    refine SatC.seq ?_
    refine SatC.seq ?_
    refine SatC.region ?_
    refine SatL.pu (RunV.move rfl) rfl ?_
    refine SatL.op rfl (OpW.enter rfl rfl rfl (rfl) (lnone_any (hS.ownT (A := [(b, C 63 (lcc S.node S.addr ms mc))]) (by repeat constructor))) ?_)
    rintro r1 w1 ⟨rfl, h⟩
    replace hS := St.callN hS h
    refine SatL.nil (SatE.thenC ?_)
    refine SatC.cond rfl (fun h1 => ?_) (fun h1 => ?_)
    · (try simp only [cx, ne_eq] at h1)
      try (exfalso; (first | omega | exact h1 trivial | contradiction | (first | omega | (simp at h1; done))); done)
      all_goals
      refine SatC.seq ?_
      refine SatC.region ?_
      refine SatL.pu (RunV.assign rfl) rfl ?_
      refine SatL.nil (SatE.thenC ?_)
      refine SatC.ret (SatE.then_ret ?_)
      refine SatE.ret1 rfl rfl ?_
      exact ⟨rfl, _, hw, hS.sel (by repeat constructor)⟩
    · (try simp only [cx, ne_eq] at h1)
      try (exfalso; (first | omega | exact h1 trivial | contradiction | (first | omega | (simp at h1; done))); done)
      all_goals
      refine SatC.skip (SatE.thenC ?_)
      refine SatC.seq ?_
      refine SatC.seq ?_
      refine SatC.region ?_
      refine SatL.pu (RunV.move rfl) rfl ?_
      first | refine SatL.pu (RunV.nil_ptr rfl) rfl ?_ | refine SatL.pu (RunV.nil_func rfl) rfl ?_ | refine SatL.pu (RunV.nil_yield rfl) rfl ?_
      first | refine SatL.pu (RunV.fieldAddrL rfl rfl rfl) rfl ?_ | refine SatL.pu (RunV.fieldAddr rfl rfl rfl) rfl ?_
      refine SatL.pu (RunV.load1 hS rfl rfl (by repeat constructor) rfl) rfl ?_
      refine SatL.pu (RunV.move rfl) rfl ?_
      refine SatL.pu (RunV.cast (RunV.lookup2 (keyL rfl) hS rfl rfl rfl rfl (by repeat constructor) hmS.is) (by rw [kget_v, hq])) rfl ?_
      refine SatL.pu (RunV.move rfl) rfl ?_
      refine SatL.pu (RunV.extract rfl rfl) rfl ?_
      refine SatL.pu (RunV.extract rfl rfl) rfl ?_
      refine SatL.op rfl (OpW.alloc hS rfl rfl (by repeat constructor) ?_)
      clear hS
      intro b5 w2 _ hS
      refine SatL.op rfl (OpW.store hS rfl rfl (by repeat constructor) (by repeat constructor) (by repeat constructor) rfl rfl ?_)
      clear hS
      intro w3 hS
      refine SatL.pu (RunV.assign rfl) rfl ?_
      refine SatL.nil (SatE.thenC ?_)
      refine SatC.seq ?_
      refine SatC.weak (e' := [(0, _), (1, _), (4, _), (6, _)]) (by repeat constructor) ?_
      refine SatC.region ?_
      refine SatL.pu (RunV.move rfl) rfl ?_
      refine SatL.pu (RunV.not rfl) rfl ?_
      refine SatL.nil (SatE.thenC ?_)
      refine SatC.cond rfl (fun h2 => ?_) (fun h2 => ?_)
      · (try simp only [cx, ne_eq] at h2)
        try (exfalso; (first | omega | exact h2 trivial | contradiction | (first | omega | (simp at h2; done))); done)
        all_goals
        refine SatC.seq ?_
        refine SatC.region ?_
        refine SatL.pu (RunV.assign rfl) rfl ?_
        refine SatL.nil (SatE.thenC ?_)
        refine SatC.ret (SatE.then_ret ?_)
        refine SatE.ret1 rfl rfl ?_
        exact ⟨rfl, _, hw, hS.sel (by repeat constructor)⟩
      · (try simp only [cx, ne_eq] at h2)
        try (exfalso; (first | omega | exact h2 trivial | contradiction | (first | omega | (simp at h2; done))); done)
        all_goals
        refine SatC.skip (SatE.thenC ?_)
        refine SatC.seq ?_
        refine SatC.region ?_
        refine SatL.pu (RunV.move rfl) rfl ?_
        first | refine SatL.pu (RunV.nil_ptr rfl) rfl ?_ | refine SatL.pu (RunV.nil_func rfl) rfl ?_ | refine SatL.pu (RunV.nil_yield rfl) rfl ?_
        first | refine SatL.pu (RunV.fieldAddrL rfl rfl rfl) rfl ?_ | refine SatL.pu (RunV.fieldAddr rfl rfl rfl) rfl ?_
        refine SatL.pu (RunV.load1 hS rfl rfl (by repeat constructor) rfl) rfl ?_
        refine SatL.pu (RunV.move rfl) rfl ?_
        refine SatL.op rfl (OpW.delete (keyStr rfl) hS rfl rfl rfl (by assumption) _ (fun o' => by repeat constructor) ?_)
        clear hS
        intro o4 w4 ho4 hS
        refine SatL.nil (SatE.thenC ?_)
        refine SatC.seq ?_
        refine SatC.seq ?_
        refine SatC.region ?_
        refine SatL.pu (RunV.move rfl) rfl ?_
        first | refine SatL.pu (RunV.nil_ptr rfl) rfl ?_ | refine SatL.pu (RunV.nil_func rfl) rfl ?_ | refine SatL.pu (RunV.nil_yield rfl) rfl ?_
        first | refine SatL.pu (RunV.fieldAddrL rfl rfl rfl) rfl ?_ | refine SatL.pu (RunV.fieldAddr rfl rfl rfl) rfl ?_
        refine SatL.pu (RunV.load1 hS rfl rfl (by repeat constructor) rfl) rfl ?_
        -- STOP -- CALL 30
        done
  | some x =>
    generalize hD : tbl S.sv ++ S.ch.map hblk = D at hS hw
    have hxm := (gt_mem hq).1
    have hyl : (srt (S.ch.map Ch.id)).length = S.ch.length := by rw [srt_len, List.length_map]
    have hyg : ∀ y ∈ srt (S.ch.map Ch.id), ∃ x, gt Ch.id S.ch y = some x ∧ x ∈ S.ch ∧ x.id = y := fun y hy => gt_some (mem_srt.1 hy)
    have hyn := srt_nodup hcu
    have hya : ∀ c ∈ S.ch, c.id ∈ srt (S.ch.map Ch.id) := fun c hc => mem_srt.2 (List.mem_map_of_mem hc)
    generalize hys : srt (S.ch.map Ch.id) = ys at hyl hyg hyn hya
    refine Ret.enter Try.func25 Try.ntmps25 rfl rfl ?_
    simp only [argEnv, Nat.reduceAdd]
    refine SatC.seq ?_
    refine SatC.region ?_
    refine SatL.pu (RunV.assign rfl) rfl ?_
    refine SatL.nil (SatE.thenC ?_)
    refine SatC.seq ?_
    refine SatC.seq ?_
    refine SatC.region ?_
    refine SatL.pu (RunV.move rfl) rfl ?_
    refine SatL.op rfl (OpW.enter rfl rfl rfl (rfl) (lnone_any (hS.ownT (A := [(b, C 63 (lcc S.node S.addr ms mc))]) (by repeat constructor))) ?_)
    rintro r1 w1 ⟨rfl, h⟩
    replace hS := St.callN hS h
    refine SatL.nil (SatE.thenC ?_)
    refine SatC.cond rfl (fun h1 => ?_) (fun h1 => ?_)
    · (try simp only [cx, ne_eq] at h1)
      try (exfalso; (first | omega | exact h1 trivial | contradiction | (first | omega | (simp at h1; done))); done)
      all_goals
      refine SatC.seq ?_
      refine SatC.region ?_
      refine SatL.pu (RunV.assign rfl) rfl ?_
      refine SatL.nil (SatE.thenC ?_)
      refine SatC.ret (SatE.then_ret ?_)
      refine SatE.ret1 rfl rfl ?_
      rw [List.take_of_length_le (by omega), fil_all hya] at hmo
      subst D
      refine ⟨rfl, LO b S.node S.addr ms mc o8 o (tbl (dl Sv.id S.sv k) ++ (S.ch.filter fun c => decide (¬ c.svc = k)).map hblk), ⟨Nat.le_trans (dl_sub _ _).length_le hs16, Nat.le_trans (List.filter_sublist ..).length_le hc16, dl_nodup hsu, ((List.filter_sublist ..).map _).nodup hcu, fun s hs => htg s ((dl_sub _ _).subset hs), fun c hc => hck c ((List.filter_sublist ..).subset hc), ms, mc, o8, o, ?_, hmo, rfl⟩, ?_⟩
      · show Mp str o8 (skv S.node (dl Sv.id S.sv k))
        rw [show skv S.node (dl Sv.id S.sv k) = _ from (kdel_v Sv.id _ S.sv k).symm]
        exact hmp8
      · exact (hS.sel (R := LO b S.node S.addr ms mc o8 o (tbl S.sv ++ S.ch.map hblk)) (by repeat constructor)).sub ((((List.Sublist.append (tbl_sub (dl_sub S.sv k)) ((List.filter_sublist ..).map hblk)).cons_cons _).cons_cons _).cons_cons _)
    · (try simp only [cx, ne_eq] at h1)
      try (exfalso; (first | omega | exact h1 trivial | contradiction | (first | omega | (simp at h1; done))); done)
      all_goals
      refine SatC.skip (SatE.thenC ?_)
      refine SatC.seq ?_
      refine SatC.seq ?_
      refine SatC.region ?_
      refine SatL.pu (RunV.move rfl) rfl ?_
      first | refine SatL.pu (RunV.nil_ptr rfl) rfl ?_ | refine SatL.pu (RunV.nil_func rfl) rfl ?_ | refine SatL.pu (RunV.nil_yield rfl) rfl ?_
      first | refine SatL.pu (RunV.fieldAddrL rfl rfl rfl) rfl ?_ | refine SatL.pu (RunV.fieldAddr rfl rfl rfl) rfl ?_
      refine SatL.pu (RunV.load1 hS rfl rfl (by repeat constructor) rfl) rfl ?_
      refine SatL.pu (RunV.move rfl) rfl ?_
      refine SatL.pu (RunV.cast (v' := .tuple #[.agg (svc S.node x).toArray, .bool true]) (RunV.lookup2 (keyL rfl) hS rfl rfl rfl rfl (by repeat constructor) hmS.is) (by rw [kget_v, hq]; rfl)) rfl ?_
      refine SatL.pu (RunV.move rfl) rfl ?_
      refine SatL.pu (RunV.extract rfl rfl) rfl ?_
      refine SatL.pu (RunV.extract rfl rfl) rfl ?_
      refine SatL.op rfl (OpW.alloc hS rfl rfl (by repeat constructor) ?_)
      clear hS
      intro b5 w2 _ hS
      refine SatL.op rfl (OpW.store hS rfl rfl (by repeat constructor) (by repeat constructor) (by repeat constructor) rfl (svc_one (htg x hxm).1.one) ?_)
      clear hS
      intro w3 hS
      refine SatL.pu (RunV.assign rfl) rfl ?_
      refine SatL.nil (SatE.thenC ?_)
      refine SatC.seq ?_
      refine SatC.weak (e' := [(0, _), (1, _), (4, _), (6, _)]) (by repeat constructor) ?_
      refine SatC.region ?_
      refine SatL.pu (RunV.move rfl) rfl ?_
      refine SatL.pu (RunV.not rfl) rfl ?_
      refine SatL.nil (SatE.thenC ?_)
      refine SatC.cond rfl (fun h2 => ?_) (fun h2 => ?_)
      · (try simp only [cx, ne_eq] at h2)
        try (exfalso; (first | omega | exact h2 trivial | contradiction | (first | omega | (simp at h2; done))); done)
        all_goals
        refine SatC.seq ?_
        refine SatC.region ?_
        refine SatL.pu (RunV.assign rfl) rfl ?_
        refine SatL.nil (SatE.thenC ?_)
        refine SatC.ret (SatE.then_ret ?_)
        refine SatE.ret1 rfl rfl ?_
        rw [List.take_of_length_le (by omega), fil_all hya] at hmo
        subst D
        refine ⟨rfl, LO b S.node S.addr ms mc o8 o (tbl (dl Sv.id S.sv k) ++ (S.ch.filter fun c => decide (¬ c.svc = k)).map hblk), ⟨Nat.le_trans (dl_sub _ _).length_le hs16, Nat.le_trans (List.filter_sublist ..).length_le hc16, dl_nodup hsu, ((List.filter_sublist ..).map _).nodup hcu, fun s hs => htg s ((dl_sub _ _).subset hs), fun c hc => hck c ((List.filter_sublist ..).subset hc), ms, mc, o8, o, ?_, hmo, rfl⟩, ?_⟩
        · show Mp str o8 (skv S.node (dl Sv.id S.sv k))
          rw [show skv S.node (dl Sv.id S.sv k) = _ from (kdel_v Sv.id _ S.sv k).symm]
          exact hmp8
        · exact (hS.sel (R := LO b S.node S.addr ms mc o8 o (tbl S.sv ++ S.ch.map hblk)) (by repeat constructor)).sub ((((List.Sublist.append (tbl_sub (dl_sub S.sv k)) ((List.filter_sublist ..).map hblk)).cons_cons _).cons_cons _).cons_cons _)
      · (try simp only [cx, ne_eq] at h2)
        try (exfalso; (first | omega | exact h2 trivial | contradiction | (first | omega | (simp at h2; done))); done)
        all_goals
        refine SatC.skip (SatE.thenC ?_)
        refine SatC.seq ?_
        refine SatC.region ?_
        refine SatL.pu (RunV.move rfl) rfl ?_
        first | refine SatL.pu (RunV.nil_ptr rfl) rfl ?_ | refine SatL.pu (RunV.nil_func rfl) rfl ?_ | refine SatL.pu (RunV.nil_yield rfl) rfl ?_
        first | refine SatL.pu (RunV.fieldAddrL rfl rfl rfl) rfl ?_ | refine SatL.pu (RunV.fieldAddr rfl rfl rfl) rfl ?_
        refine SatL.pu (RunV.load1 hS rfl rfl (by repeat constructor) rfl) rfl ?_
        refine SatL.pu (RunV.move rfl) rfl ?_
        refine SatL.op rfl (OpW.deleteM (keyL rfl) hS rfl rfl rfl hmS _ (fun o' => by repeat constructor) ?_)
        clear hS
        intro o8 w4 hmp8 hS
        refine SatL.nil (SatE.thenC ?_)
        refine SatC.seq ?_
        refine SatC.seq ?_
        refine SatC.region ?_
        refine SatL.pu (RunV.move rfl) rfl ?_
        first | refine SatL.pu (RunV.nil_ptr rfl) rfl ?_ | refine SatL.pu (RunV.nil_func rfl) rfl ?_ | refine SatL.pu (RunV.nil_yield rfl) rfl ?_
        first | refine SatL.pu (RunV.fieldAddrL rfl rfl rfl) rfl ?_ | refine SatL.pu (RunV.fieldAddr rfl rfl rfl) rfl ?_
        refine SatL.pu (RunV.load1 hS rfl rfl (by repeat constructor) rfl) rfl ?_
        refine SatL.op rfl (OpW.enter rfl rfl rfl (rfl) (idsC_any S.ch hc16 _ _ hmC (hS.ownT (A := [(mc, oC)]) (by repeat constructor))) ?_)
        rintro r5 w5 ⟨KB, hkl, h⟩
        replace hS := hS.callT (A := []) .nil h
        rw [hys] at hkl
        obtain ⟨vc, hv⟩ := hkl.slv
        rw [List.length_map] at hv
        first | refine SatL.pu (RunV.lenR (by assumption) rfl rfl) rfl ?_ | refine SatL.pu (RunV.lenS rfl rfl) rfl ?_
        refine SatL.pu (RunV.move rfl) rfl ?_
        refine SatL.nil (SatE.thenC ?_)
        refine SatC.block ?_
        refine SatC.loopK (G := Nat × Obj) (V := fun ⟨i, o⟩ => [(33, .int .i64 (i : Int))]) (Cn := [(0, _), (1, _), (4, _), (31, _), (32, _)]) (I := fun ⟨i, o⟩ w' => i ≤ ys.length ∧ Mp str o (ckv S.node (fil k (ys.take i) S.ch)) ∧ St w X (KB ++ LO b S.node S.addr ms mc o8 o D) w') (μ := fun ⟨i, o⟩ => ys.length - i) (0, oC) ?_ (by repeat constructor) ?_
        · exact ⟨Nat.zero_le _, by rw [List.take_zero, fil_nil]; exact hmC, hS.sel (by repeat constructor)⟩
        clear hS
        rintro ⟨i, o⟩ w6 ⟨hi, hmo, hS⟩
        refine SatC.weak (e' := [(0, _), (1, _), (4, _), (31, _), (32, _), (33, _)]) (by repeat constructor) ?_
        refine SatC.seq ?_
        refine SatC.region ?_
        refine SatL.pu (RunV.lss rfl rfl) rfl ?_
        refine SatL.nil (SatE.thenC ?_)
        refine SatC.seq ?_
        refine SatC.cond rfl (fun h3 => ?_) (fun h3 => ?_)
        · (try simp only [cx, ne_eq] at h3)
          try (exfalso; (first | omega | exact h3 trivial | contradiction | (first | omega | (simp at h3; done))); done)
          all_goals
          refine SatC.skip (SatE.thenC ?_)
          refine SatC.seq ?_
          refine SatC.block ?_
          refine SatC.seq ?_
          obtain ⟨y, hy⟩ : ∃ y, ys[i]? = some y := ⟨_, List.getElem?_eq_getElem (by omega)⟩
          obtain ⟨z, hgz, hzm, hzy⟩ := hyg y (List.mem_of_getElem? hy)
          have hgf := gt_fil (k := k) hcu hyn hy hzm hzy
          refine SatC.region ?_
          first | refine SatL.pu (RunV.indexR (by assumption) rfl rfl rfl (by omega) (by omega) rfl) rfl ?_ | refine SatL.pu (RunV.indexS rfl rfl rfl (by omega) (by omega) rfl) rfl ?_
          refine SatL.pu (RunV.loadR1g i 0 (Sl.rd hkl hS (by repeat constructor)) rfl rfl (by omega) (map_get hy) rfl) rfl ?_
          refine SatL.pu (RunV.assign rfl) rfl ?_
          refine SatL.nil (SatE.thenC ?_)
          refine SatC.seq ?_
          refine SatC.region ?_
          refine SatL.pu (RunV.move rfl) rfl ?_
          first | refine SatL.pu (RunV.nil_ptr rfl) rfl ?_ | refine SatL.pu (RunV.nil_func rfl) rfl ?_ | refine SatL.pu (RunV.nil_yield rfl) rfl ?_
          first | refine SatL.pu (RunV.fieldAddrL rfl rfl rfl) rfl ?_ | refine SatL.pu (RunV.fieldAddr rfl rfl rfl) rfl ?_
          refine SatL.pu (RunV.load1 hS rfl rfl (by repeat constructor) rfl) rfl ?_
          refine SatL.pu (RunV.move rfl) rfl ?_
          refine SatL.pu (RunV.cast (v' := .agg (chv S.node z).toArray) (RunV.lookup1 (keyL rfl) hS rfl rfl rfl rfl (by repeat constructor) hmo.is) (by rw [kget_v, hgf]; rfl)) rfl ?_
          refine SatL.pu (RunV.fieldN (cs := chv S.node z) (vs := chc S.node z) rfl rfl rfl (by repeat constructor)) rfl ?_
          refine SatL.pu (RunV.field1 rfl rfl rfl rfl) rfl ?_
          refine SatL.pu (RunV.move rfl) rfl ?_
          refine SatL.pu (RunV.seql rfl rfl) rfl ?_
          refine SatL.nil (SatE.thenC ?_)
          refine SatC.weak (e' := [(0, _), (1, _), (4, _), (8, _), (31, _), (32, _), (33, _), (46, _)]) (by repeat constructor) ?_
          refine SatC.cond rfl (fun h4 => ?_) (fun h4 => ?_)
          · (try simp only [cx, ne_eq] at h4)
            try (exfalso; (first | omega | exact h4 trivial | contradiction | (first | omega | (simp at h4; done))); done)
            all_goals
            refine SatC.region ?_
            refine SatL.pu (RunV.move rfl) rfl ?_
            first | refine SatL.pu (RunV.nil_ptr rfl) rfl ?_ | refine SatL.pu (RunV.nil_func rfl) rfl ?_ | refine SatL.pu (RunV.nil_yield rfl) rfl ?_
            first | refine SatL.pu (RunV.fieldAddrL rfl rfl rfl) rfl ?_ | refine SatL.pu (RunV.fieldAddr rfl rfl rfl) rfl ?_
            refine SatL.pu (RunV.load1 hS rfl rfl (by repeat constructor) rfl) rfl ?_
            refine SatL.pu (RunV.move rfl) rfl ?_
            refine SatL.op rfl (OpW.deleteM (keyL rfl) hS rfl rfl rfl hmo _ (fun o' => by repeat constructor) ?_)
            clear hS
            intro o9 w7 hmp9 hS
            refine SatL.nil (SatE.blk_normal (SatE.thenC ?_))
            refine SatC.region ?_
            refine SatL.pu (RunV.add rfl rfl (by first | exact wrapI64 (by omega) | rfl)) rfl ?_
            refine SatL.pu (RunV.move rfl) rfl ?_
            refine SatL.nil ?_
            refine SatE.again ((i + 1, o9)) ?_ (by first | omega | (dsimp only; omega)) (by repeat constructor)
            refine ⟨by omega, ?_, hS⟩
            rw [← fil_y hcu hy hzm hzy (by assumption), show ckv S.node (dl Ch.id (fil k (ys.take i) S.ch) y) = _ from (kdel_v Ch.id _ _ y).symm]
            exact hmp9
          · (try simp only [cx, ne_eq] at h4)
            try (exfalso; (first | omega | exact h4 trivial | contradiction | (first | omega | (simp at h4; done))); done)
            all_goals
            refine SatC.skip (SatE.blk_normal (SatE.thenC ?_))
            refine SatC.region ?_
            refine SatL.pu (RunV.add rfl rfl (by first | exact wrapI64 (by omega) | rfl)) rfl ?_
            refine SatL.pu (RunV.move rfl) rfl ?_
            refine SatL.nil ?_
            refine SatE.again ((i + 1, o)) ?_ (by first | omega | (dsimp only; omega)) (by repeat constructor)
            refine ⟨by omega, ?_, hS⟩
            rw [fil_n hcu hy hzm hzy (by assumption)]
            exact hmo
        · (try simp only [cx, ne_eq] at h3)
          try (exfalso; (first | omega | exact h3 trivial | contradiction | (first | omega | (simp at h3; done))); done)
          all_goals
          refine SatC.exit (SatE.then_exit (SatE.then_exit (SatE.blk_exit (SatE.thenC ?_))))
          refine SatC.seq ?_
          refine SatC.region ?_
          refine SatL.pu (RunV.assign rfl) rfl ?_
          refine SatL.nil (SatE.thenC ?_)
          refine SatC.ret ?_
          refine SatE.ret1 rfl rfl ?_
          rw [List.take_of_length_le (by omega), fil_all hya] at hmo
          subst D
          refine ⟨rfl, LO b S.node S.addr ms mc o8 o (tbl (dl Sv.id S.sv k) ++ (S.ch.filter fun c => decide (¬ c.svc = k)).map hblk), ⟨Nat.le_trans (dl_sub _ _).length_le hs16, Nat.le_trans (List.filter_sublist ..).length_le hc16, dl_nodup hsu, ((List.filter_sublist ..).map _).nodup hcu, fun s hs => htg s ((dl_sub _ _).subset hs), fun c hc => hck c ((List.filter_sublist ..).subset hc), ms, mc, o8, o, ?_, hmo, rfl⟩, ?_⟩
          · show Mp str o8 (skv S.node (dl Sv.id S.sv k))
            rw [show skv S.node (dl Sv.id S.sv k) = _ from (kdel_v Sv.id _ S.sv k).symm]
            exact hmp8
          · exact (hS.sel (R := LO b S.node S.addr ms mc o8 o (tbl S.sv ++ S.ch.map hblk)) (by repeat constructor)).sub ((((List.Sublist.append (tbl_sub (dl_sub S.sv k)) ((List.filter_sublist ..).map hblk)).cons_cons _).cons_cons _).cons_cons _)
end
end Go.Proofs.Ytbnkcagcfbpiiaa
