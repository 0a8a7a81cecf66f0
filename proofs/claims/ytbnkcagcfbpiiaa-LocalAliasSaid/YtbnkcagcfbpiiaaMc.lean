/- Remove. Tick. works. -/
import Derived.Test.YtbnkcagcfbpiiaaMb
set_option linter.unusedSimpArgs false
set_option linter.unusedVariables false
set_option maxRecDepth 100000
set_option maxHeartbeats 4000000
namespace Go.Proofs.Ytbnkcagcfbpiiaa
open Go.RowKit
theorem gt_of_mem {α : Type} {key : α → List UInt8} {l : List α} {x : α} (h : (l.map key).Nodup) (hx : x ∈ l) : gt key l (key x) = some x := by
  induction l with
  | nil => cases hx
  | cons y l ih =>
    rw [List.map_cons, List.nodup_cons] at h
    unfold gt
    rcases List.mem_cons.1 hx with rfl | hx
    · rw [if_pos rfl]
    · rw [if_neg (fun e => h.1 (by rw [← e]; exact List.mem_map_of_mem hx)), ih h.2 hx]
theorem key_inj {α : Type} {key : α → List UInt8} {l : List α} {x y : α} (h : (l.map key).Nodup) (hx : x ∈ l) (hy : y ∈ l) (e : key x = key y) : x = y := by
  have h1 := gt_of_mem h hx
  have h2 := gt_of_mem h hy
  rw [e, h2] at h1
  exact (Option.some.inj h1).symm
def fil (k : List UInt8) (zs : List (List UInt8)) (l : List Ch) : List Ch := l.filter fun c => !(decide (c.svc = k) && decide (c.id ∈ zs))
theorem fil_nil (k : List UInt8) (l : List Ch) : fil k [] l = l := by
  unfold fil
  rw [List.filter_eq_self]
  intro c _
  simp
theorem fil_all {k : List UInt8} {zs : List (List UInt8)} {l : List Ch} (h : ∀ c ∈ l, c.id ∈ zs) : fil k zs l = l.filter fun c => decide (¬ c.svc = k) := by
  unfold fil
  refine List.filter_congr fun c hc => ?_
  have := h c hc
  simp [this]
theorem fil_sub (k : List UInt8) (zs : List (List UInt8)) (l : List Ch) : (fil k zs l).Sublist l := List.filter_sublist ..
theorem fil_y {k y : List UInt8} {ys : List (List UInt8)} {l : List Ch} {x : Ch} {i : Nat} (hn : (l.map Ch.id).Nodup) (hy : ys[i]? = some y) (hx : x ∈ l) (hxy : x.id = y) (hs : x.svc = k) : dl Ch.id (fil k (ys.take i) l) y = fil k (ys.take (i + 1)) l := by
  rw [dl_filter (((fil_sub ..).map _).nodup hn)]
  unfold fil
  rw [List.filter_filter]
  refine List.filter_congr fun c hc => ?_
  rw [List.take_add_one, hy]
  simp only [Option.toList_some, List.mem_append, List.mem_singleton]
  by_cases e : c.id = y
  · have : c = x := key_inj hn hc hx (e.trans hxy.symm)
    subst this
    simp [e, hs]
  · simp [e]
theorem fil_n {k y : List UInt8} {ys : List (List UInt8)} {l : List Ch} {x : Ch} {i : Nat} (hn : (l.map Ch.id).Nodup) (hy : ys[i]? = some y) (hx : x ∈ l) (hxy : x.id = y) (hs : ¬ x.svc = k) : fil k (ys.take (i + 1)) l = fil k (ys.take i) l := by
  unfold fil
  refine List.filter_congr fun c hc => ?_
  rw [List.take_add_one, hy]
  simp only [Option.toList_some, List.mem_append, List.mem_singleton]
  by_cases e : c.id = y
  · have : c = x := key_inj hn hc hx (e.trans hxy.symm)
    subst this
    simp [hs]
  · simp [e]
theorem not_take {ys : List (List UInt8)} {y : List UInt8} {i : Nat} (hn : ys.Nodup) (hy : ys[i]? = some y) : y ∉ ys.take i := by
  intro h
  have hil := (List.getElem?_eq_some_iff.1 hy).1
  have hd : y ∈ ys.drop i := List.mem_of_getElem? (i := 0) (by rw [List.getElem?_drop]; exact hy)
  rw [← List.take_append_drop i ys] at hn
  exact (List.nodup_append.1 hn).2.2 y h y hd rfl
theorem gt_fil {k y : List UInt8} {ys : List (List UInt8)} {l : List Ch} {x : Ch} {i : Nat} (hn : (l.map Ch.id).Nodup) (hyn : ys.Nodup) (hy : ys[i]? = some y) (hx : x ∈ l) (hxy : x.id = y) : gt Ch.id (fil k (ys.take i) l) y = some x := by
  have hm : x ∈ fil k (ys.take i) l := by
    unfold fil
    refine List.mem_filter.2 ⟨hx, ?_⟩
    simp [hxy, not_take hyn hy]
  have := gt_of_mem (((fil_sub k (ys.take i) l).map _).nodup hn) hm
  rwa [hxy] at this
theorem tbl_sub {l l' : List Sv} (h : l.Sublist l') : (tbl l).Sublist (tbl l') := by
  induction h with
  | slnil => exact .slnil
  | cons a _ ih => exact ih.trans (List.sublist_append_right _ _)
  | cons_cons a _ ih => exact List.Sublist.append (List.Sublist.refl _) ih
theorem srt_nodup {l : List (List UInt8)} (h : l.Nodup) : (srt l).Nodup := (List.mergeSort_perm ..).nodup_iff.2 h
def aRem (S : Lc) (k : List UInt8) : Lc := if (gt Sv.id S.sv k).isSome = true then { S with sv := dl Sv.id S.sv k, ch := S.ch.filter fun c => decide (¬ c.svc = k) } else S
section
variable {b : Nat} {S : Lc} {L : List (Nat × Obj)} {w : World}
theorem rem_d (k : List UInt8) (h : Agt b S L) (hown : Own w L) :
    Ret Try.prog 25 #[.pointer (some ⟨b, 0, none⟩), str k] w fun u w' => u = .int .i64 (if (gt Sv.id S.sv k).isSome = true then 0 else 4) ∧ ∃ L', Agt b (aRem S k) L' ∧ St w (L.map Prod.fst) L' w' := by
  have hw := h
  obtain ⟨hs16, hc16, hsu, hcu, htg, hck, ms, mc, oS, oC, hmS, hmC, rfl⟩ := h
  have hS := St.init hown
  generalize hX : (LO b S.node S.addr ms mc oS oC (tbl S.sv ++ S.ch.map hblk)).map Prod.fst = X at hS ⊢
  unfold aRem
  cases hq : gt Sv.id S.sv k with
  | none =>
    generalize hD : tbl S.sv ++ S.ch.map hblk = D at hS hw
    refine Ret.enter Try.func25 Try.ntmps25 rfl rfl ?_
    simp only [argEnv, Nat.reduceAdd]
    refine SatC.seq ?_
    refine SatC.region ?_
    refine SatL.pu (RunV.assign rfl) rfl ?_
    refine SatL.nil (SatE.thenC ?_)
    refine SatC.seq ?_
    refine SatC.seq ?_
    refine SatC.region ?_
    refine SatL.pu (RunV.move rfl) rfl ?_
    refine SatL.op rfl (OpW.enter rfl rfl rfl (rfl) (lnone_any (hS.ownT (A := [(b, C 63 (lcc S.node S.addr ms mc))]) (by repeat constructor))) ?_)
    rintro r1 w1 ⟨rfl, h⟩
    replace hS := St.callN hS h
    refine SatL.nil (SatE.thenC ?_)
    refine SatC.cond rfl (fun h1 => ?_) (fun h1 => ?_)
    · (try simp only [cx, ne_eq] at h1)
      try (exfalso; (first | omega | exact h1 trivial | contradiction | (first | omega | (simp at h1; done))); done)
      all_goals
      refine SatC.seq ?_
      refine SatC.region ?_
      refine SatL.pu (RunV.assign rfl) rfl ?_
      refine SatL.nil (SatE.thenC ?_)
      refine SatC.ret (SatE.then_ret ?_)
      refine SatE.ret1 rfl rfl ?_
      exact ⟨rfl, _, hw, hS.sel (by repeat constructor)⟩
    · (try simp only [cx, ne_eq] at h1)
      try (exfalso; (first | omega | exact h1 trivial | contradiction | (first | omega | (simp at h1; done))); done)
      all_goals
      refine SatC.skip (SatE.thenC ?_)
      refine SatC.seq ?_
      refine SatC.seq ?_
      refine SatC.region ?_
      refine SatL.pu (RunV.move rfl) rfl ?_
      first | refine SatL.pu (RunV.nil_ptr rfl) rfl ?_ | refine SatL.pu (RunV.nil_func rfl) rfl ?_ | refine SatL.pu (RunV.nil_yield rfl) rfl ?_
      first | refine SatL.pu (RunV.fieldAddrL rfl rfl rfl) rfl ?_ | refine SatL.pu (RunV.fieldAddr rfl rfl rfl) rfl ?_
      refine SatL.pu (RunV.load1 hS rfl rfl (by repeat constructor) rfl) rfl ?_
      refine SatL.pu (RunV.move rfl) rfl ?_
      refine SatL.pu (RunV.cast (RunV.lookup2 (keyL rfl) hS rfl rfl rfl rfl (by repeat constructor) hmS.is) (by rw [kget_v, hq])) rfl ?_
      refine SatL.pu (RunV.move rfl) rfl ?_
      refine SatL.pu (RunV.extract rfl rfl) rfl ?_
      refine SatL.pu (RunV.extract rfl rfl) rfl ?_
      refine SatL.op rfl (OpW.alloc hS rfl rfl (by repeat constructor) ?_)
      clear hS
      intro b5 w2 _ hS
      refine SatL.op rfl (OpW.store hS rfl rfl (by repeat constructor) (by repeat constructor) (by repeat constructor) rfl rfl ?_)
      clear hS
      intro w3 hS
      refine SatL.pu (RunV.assign rfl) rfl ?_
      refine SatL.nil (SatE.thenC ?_)
      refine SatC.seq ?_
      refine SatC.weak (e' := [(0, _), (1, _), (4, _), (6, _)]) (by repeat constructor) ?_
      refine SatC.region ?_
      refine SatL.pu (RunV.move rfl) rfl ?_
      refine SatL.pu (RunV.not rfl) rfl ?_
      refine SatL.nil (SatE.thenC ?_)
      refine SatC.cond rfl (fun h2 => ?_) (fun h2 => ?_)
      · (try simp only [cx, ne_eq] at h2)
        try (exfalso; (first | omega | exact h2 trivial | contradiction | (first | omega | (simp at h2; done))); done)
        all_goals
        refine SatC.seq ?_
        refine SatC.region ?_
        refine SatL.pu (RunV.assign rfl) rfl ?_
        refine SatL.nil (SatE.thenC ?_)
        refine SatC.ret (SatE.then_ret ?_)
        refine SatE.ret1 rfl rfl ?_
        exact ⟨rfl, _, hw, hS.sel (by repeat constructor)⟩
      · (try simp only [cx, ne_eq] at h2)
        try (exfalso; (first | omega | exact h2 trivial | contradiction | (first | omega | (simp at h2; done))); done)
        all_goals
        refine SatC.skip (SatE.thenC ?_)
        refine SatC.seq ?_
        refine SatC.region ?_
        refine SatL.pu (RunV.move rfl) rfl ?_
        first | refine SatL.pu (RunV.nil_ptr rfl) rfl ?_ | refine SatL.pu (RunV.nil_func rfl) rfl ?_ | refine SatL.pu (RunV.nil_yield rfl) rfl ?_
        first | refine SatL.pu (RunV.fieldAddrL rfl rfl rfl) rfl ?_ | refine SatL.pu (RunV.fieldAddr rfl rfl rfl) rfl ?_
        refine SatL.pu (RunV.load1 hS rfl rfl (by repeat constructor) rfl) rfl ?_
        refine SatL.pu (RunV.move rfl) rfl ?_
        refine SatL.op rfl (OpW.delete (keyStr rfl) hS rfl rfl rfl (by assumption) _ (fun o' => by repeat constructor) ?_)
        clear hS
        intro o4 w4 ho4 hS
        refine SatL.nil (SatE.thenC ?_)
        refine SatC.seq ?_
        refine SatC.seq ?_
        refine SatC.region ?_
        refine SatL.pu (RunV.move rfl) rfl ?_
        first | refine SatL.pu (RunV.nil_ptr rfl) rfl ?_ | refine SatL.pu (RunV.nil_func rfl) rfl ?_ | refine SatL.pu (RunV.nil_yield rfl) rfl ?_
        first | refine SatL.pu (RunV.fieldAddrL rfl rfl rfl) rfl ?_ | refine SatL.pu (RunV.fieldAddr rfl rfl rfl) rfl ?_
        refine SatL.pu (RunV.load1 hS rfl rfl (by repeat constructor) rfl) rfl ?_
        -- STOP -- CALL 30
        done
  | some x =>
    generalize hD : tbl S.sv ++ S.ch.map hblk = D at hS hw
    have hxm := (gt_mem hq).1
    have hyl : (srt (S.ch.map Ch.id)).length = S.ch.length := by rw [srt_len, List.length_map]
    have hyg : ∀ y ∈ srt (S.ch.map Ch.id), ∃ x, gt Ch.id S.ch y = some x ∧ x ∈ S.ch ∧ x.id = y := fun y hy => gt_some (mem_srt.1 hy)
    have hyn := srt_nodup hcu
    have hya : ∀ c ∈ S.ch, c.id ∈ srt (S.ch.map Ch.id) := fun c hc => mem_srt.2 (List.mem_map_of_mem hc)
    generalize hys : srt (S.ch.map Ch.id) = ys at hyl hyg hyn hya
    refine Ret.enter Try.func25 Try.ntmps25 rfl rfl ?_
    simp only [argEnv, Nat.reduceAdd]
    refine SatC.seq ?_
    refine SatC.region ?_
    refine SatL.pu (RunV.assign rfl) rfl ?_
    refine SatL.nil (SatE.thenC ?_)
    refine SatC.seq ?_
    refine SatC.seq ?_
    refine SatC.region ?_
    refine SatL.pu (RunV.move rfl) rfl ?_
    refine SatL.op rfl (OpW.enter rfl rfl rfl (rfl) (lnone_any (hS.ownT (A := [(b, C 63 (lcc S.node S.addr ms mc))]) (by repeat constructor))) ?_)
    rintro r1 w1 ⟨rfl, h⟩
    replace hS := St.callN hS h
    refine SatL.nil (SatE.thenC ?_)
    refine SatC.cond rfl (fun h1 => ?_) (fun h1 => ?_)
    · (try simp only [cx, ne_eq] at h1)
      try (exfalso; (first | omega | exact h1 trivial | contradiction | (first | omega | (simp at h1; done))); done)
      all_goals
      refine SatC.seq ?_
      refine SatC.region ?_
      refine SatL.pu (RunV.assign rfl) rfl ?_
      refine SatL.nil (SatE.thenC ?_)
      refine SatC.ret (SatE.then_ret ?_)
      refine SatE.ret1 rfl rfl ?_
      rw [List.take_of_length_le (by omega), fil_all hya] at hmo
      subst D
      refine ⟨rfl, LO b S.node S.addr ms mc o8 o (tbl (dl Sv.id S.sv k) ++ (S.ch.filter fun c => decide (¬ c.svc = k)).map hblk), ⟨Nat.le_trans (dl_sub _ _).length_le hs16, Nat.le_trans (List.filter_sublist ..).length_le hc16, dl_nodup hsu, ((List.filter_sublist ..).map _).nodup hcu, fun s hs => htg s ((dl_sub _ _).subset hs), fun c hc => hck c ((List.filter_sublist ..).subset hc), ms, mc, o8, o, ?_, hmo, rfl⟩, ?_⟩
      · show Mp str o8 (skv S.node (dl Sv.id S.sv k))
        rw [show skv S.node (dl Sv.id S.sv k) = _ from (kdel_v Sv.id _ S.sv k).symm]
        exact hmp8
      · exact (hS.sel (R := LO b S.node S.addr ms mc o8 o (tbl S.sv ++ S.ch.map hblk)) (by repeat constructor)).sub ((((List.Sublist.append (tbl_sub (dl_sub S.sv k)) ((List.filter_sublist ..).map hblk)).cons_cons _).cons_cons _).cons_cons _)
    · (try simp only [cx, ne_eq] at h1)
      try (exfalso; (first | omega | exact h1 trivial | contradiction | (first | omega | (simp at h1; done))); done)
      all_goals
      refine SatC.skip (SatE.thenC ?_)
      refine SatC.seq ?_
      refine SatC.seq ?_
      refine SatC.region ?_
      refine SatL.pu (RunV.move rfl) rfl ?_
      first | refine SatL.pu (RunV.nil_ptr rfl) rfl ?_ | refine SatL.pu (RunV.nil_func rfl) rfl ?_ | refine SatL.pu (RunV.nil_yield rfl) rfl ?_
      first | refine SatL.pu (RunV.fieldAddrL rfl rfl rfl) rfl ?_ | refine SatL.pu (RunV.fieldAddr rfl rfl rfl) rfl ?_
      refine SatL.pu (RunV.load1 hS rfl rfl (by repeat constructor) rfl) rfl ?_
      refine SatL.pu (RunV.move rfl) rfl ?_
      refine SatL.pu (RunV.cast (v' := .tuple #[.agg (svc S.node x).toArray, .bool true]) (RunV.lookup2 (keyL rfl) hS rfl rfl rfl rfl (by repeat constructor) hmS.is) (by rw [kget_v, hq]; rfl)) rfl ?_
      refine SatL.pu (RunV.move rfl) rfl ?_
      refine SatL.pu (RunV.extract rfl rfl) rfl ?_
      refine SatL.pu (RunV.extract rfl rfl) rfl ?_
      refine SatL.op rfl (OpW.alloc hS rfl rfl (by repeat constructor) ?_)
      clear hS
      intro b5 w2 _ hS
      refine SatL.op rfl (OpW.store hS rfl rfl (by repeat constructor) (by repeat constructor) (by repeat constructor) rfl (svc_one (htg x hxm).1.one) ?_)
      clear hS
      intro w3 hS
      refine SatL.pu (RunV.assign rfl) rfl ?_
      refine SatL.nil (SatE.thenC ?_)
      refine SatC.seq ?_
      refine SatC.weak (e' := [(0, _), (1, _), (4, _), (6, _)]) (by repeat constructor) ?_
      refine SatC.region ?_
      refine SatL.pu (RunV.move rfl) rfl ?_
      refine SatL.pu (RunV.not rfl) rfl ?_
      refine SatL.nil (SatE.thenC ?_)
      refine SatC.cond rfl (fun h2 => ?_) (fun h2 => ?_)
      · (try simp only [cx, ne_eq] at h2)
        try (exfalso; (first | omega | exact h2 trivial | contradiction | (first | omega | (simp at h2; done))); done)
        all_goals
        refine SatC.seq ?_
        refine SatC.region ?_
        refine SatL.pu (RunV.assign rfl) rfl ?_
        refine SatL.nil (SatE.thenC ?_)
        refine SatC.ret (SatE.then_ret ?_)
        refine SatE.ret1 rfl rfl ?_
        rw [List.take_of_length_le (by omega), fil_all hya] at hmo
        subst D
        refine ⟨rfl, LO b S.node S.addr ms mc o8 o (tbl (dl Sv.id S.sv k) ++ (S.ch.filter fun c => decide (¬ c.svc = k)).map hblk), ⟨Nat.le_trans (dl_sub _ _).length_le hs16, Nat.le_trans (List.filter_sublist ..).length_le hc16, dl_nodup hsu, ((List.filter_sublist ..).map _).nodup hcu, fun s hs => htg s ((dl_sub _ _).subset hs), fun c hc => hck c ((List.filter_sublist ..).subset hc), ms, mc, o8, o, ?_, hmo, rfl⟩, ?_⟩
        · show Mp str o8 (skv S.node (dl Sv.id S.sv k))
          rw [show skv S.node (dl Sv.id S.sv k) = _ from (kdel_v Sv.id _ S.sv k).symm]
          exact hmp8
        · exact (hS.sel (R := LO b S.node S.addr ms mc o8 o (tbl S.sv ++ S.ch.map hblk)) (by repeat constructor)).sub ((((List.Sublist.append (tbl_sub (dl_sub S.sv k)) ((List.filter_sublist ..).map hblk)).cons_cons _).cons_cons _).cons_cons _)
      · (try simp only [cx, ne_eq] at h2)
        try (exfalso; (first | omega | exact h2 trivial | contradiction | (first | omega | (simp at h2; done))); done)
        all_goals
        refine SatC.skip (SatE.thenC ?_)
        refine SatC.seq ?_
        refine SatC.region ?_
        refine SatL.pu (RunV.move rfl) rfl ?_
        first | refine SatL.pu (RunV.nil_ptr rfl) rfl ?_ | refine SatL.pu (RunV.nil_func rfl) rfl ?_ | refine SatL.pu (RunV.nil_yield rfl) rfl ?_
        first | refine SatL.pu (RunV.fieldAddrL rfl rfl rfl) rfl ?_ | refine SatL.pu (RunV.fieldAddr rfl rfl rfl) rfl ?_
        refine SatL.pu (RunV.load1 hS rfl rfl (by repeat constructor) rfl) rfl ?_
        refine SatL.pu (RunV.move rfl) rfl ?_
        refine SatL.op rfl (OpW.deleteM (keyL rfl) hS rfl rfl rfl hmS _ (fun o' => by repeat constructor) ?_)
        clear hS
        intro o8 w4 hmp8 hS
        refine SatL.nil (SatE.thenC ?_)
        refine SatC.seq ?_
        refine SatC.seq ?_
        refine SatC.region ?_
        refine SatL.pu (RunV.move rfl) rfl ?_
        first | refine SatL.pu (RunV.nil_ptr rfl) rfl ?_ | refine SatL.pu (RunV.nil_func rfl) rfl ?_ | refine SatL.pu (RunV.nil_yield rfl) rfl ?_
        first | refine SatL.pu (RunV.fieldAddrL rfl rfl rfl) rfl ?_ | refine SatL.pu (RunV.fieldAddr rfl rfl rfl) rfl ?_
        refine SatL.pu (RunV.load1 hS rfl rfl (by repeat constructor) rfl) rfl ?_
        refine SatL.op rfl (OpW.enter rfl rfl rfl (rfl) (idsC_any S.ch hc16 _ _ hmC (hS.ownT (A := [(mc, oC)]) (by repeat constructor))) ?_)
        rintro r5 w5 ⟨KB, hkl, h⟩
        replace hS := hS.callT (A := []) .nil h
        rw [hys] at hkl
        obtain ⟨vc, hv⟩ := hkl.slv
        rw [List.length_map] at hv
        first | refine SatL.pu (RunV.lenR (by assumption) rfl rfl) rfl ?_ | refine SatL.pu (RunV.lenS rfl rfl) rfl ?_
        refine SatL.pu (RunV.move rfl) rfl ?_
        refine SatL.nil (SatE.thenC ?_)
        refine SatC.block ?_
        refine SatC.loopK (G := Nat × Obj) (V := fun ⟨i, o⟩ => [(33, .int .i64 (i : Int))]) (Cn := [(0, _), (1, _), (4, _), (31, _), (32, _)]) (I := fun ⟨i, o⟩ w' => i ≤ ys.length ∧ Mp str o (ckv S.node (fil k (ys.take i) S.ch)) ∧ St w X (KB ++ LO b S.node S.addr ms mc o8 o D) w') (μ := fun ⟨i, o⟩ => ys.length - i) (0, oC) ?_ (by repeat constructor) ?_
        · exact ⟨Nat.zero_le _, by rw [List.take_zero, fil_nil]; exact hmC, hS.sel (by repeat constructor)⟩
        clear hS
        rintro ⟨i, o⟩ w6 ⟨hi, hmo, hS⟩
        refine SatC.weak (e' := [(0, _), (1, _), (4, _), (31, _), (32, _), (33, _)]) (by repeat constructor) ?_
        refine SatC.seq ?_
        refine SatC.region ?_
        refine SatL.pu (RunV.lss rfl rfl) rfl ?_
        refine SatL.nil (SatE.thenC ?_)
        refine SatC.seq ?_
        refine SatC.cond rfl (fun h3 => ?_) (fun h3 => ?_)
        · (try simp only [cx, ne_eq] at h3)
          try (exfalso; (first | omega | exact h3 trivial | contradiction | (first | omega | (simp at h3; done))); done)
          all_goals
          refine SatC.skip (SatE.thenC ?_)
          refine SatC.seq ?_
          refine SatC.block ?_
          refine SatC.seq ?_
          obtain ⟨y, hy⟩ : ∃ y, ys[i]? = some y := ⟨_, List.getElem?_eq_getElem (by omega)⟩
          obtain ⟨z, hgz, hzm, hzy⟩ := hyg y (List.mem_of_getElem? hy)
          have hgf := gt_fil (k := k) hcu hyn hy hzm hzy
          refine SatC.region ?_
          first | refine SatL.pu (RunV.indexR (by assumption) rfl rfl rfl (by omega) (by omega) rfl) rfl ?_ | refine SatL.pu (RunV.indexS rfl rfl rfl (by omega) (by omega) rfl) rfl ?_
          refine SatL.pu (RunV.loadR1g i 0 (Sl.rd hkl hS (by repeat constructor)) rfl rfl (by omega) (map_get hy) rfl) rfl ?_
          refine SatL.pu (RunV.assign rfl) rfl ?_
          refine SatL.nil (SatE.thenC ?_)
          refine SatC.seq ?_
          refine SatC.region ?_
          refine SatL.pu (RunV.move rfl) rfl ?_
          first | refine SatL.pu (RunV.nil_ptr rfl) rfl ?_ | refine SatL.pu (RunV.nil_func rfl) rfl ?_ | refine SatL.pu (RunV.nil_yield rfl) rfl ?_
          first | refine SatL.pu (RunV.fieldAddrL rfl rfl rfl) rfl ?_ | refine SatL.pu (RunV.fieldAddr rfl rfl rfl) rfl ?_
          refine SatL.pu (RunV.load1 hS rfl rfl (by repeat constructor) rfl) rfl ?_
          refine SatL.pu (RunV.move rfl) rfl ?_
          refine SatL.pu (RunV.cast (v' := .agg (chv S.node z).toArray) (RunV.lookup1 (keyL rfl) hS rfl rfl rfl rfl (by repeat constructor) hmo.is) (by rw [kget_v, hgf]; rfl)) rfl ?_
          refine SatL.pu (RunV.fieldN (cs := chv S.node z) (vs := chc S.node z) rfl rfl rfl (by repeat constructor)) rfl ?_
          refine SatL.pu (RunV.field1 rfl rfl rfl rfl) rfl ?_
          refine SatL.pu (RunV.move rfl) rfl ?_
          refine SatL.pu (RunV.seql rfl rfl) rfl ?_
          refine SatL.nil (SatE.thenC ?_)
          refine SatC.weak (e' := [(0, _), (1, _), (4, _), (8, _), (31, _), (32, _), (33, _), (46, _)]) (by repeat constructor) ?_
          refine SatC.cond rfl (fun h4 => ?_) (fun h4 => ?_)
          · (try simp only [cx, ne_eq] at h4)
            try (exfalso; (first | omega | exact h4 trivial | contradiction | (first | omega | (simp at h4; done))); done)
            all_goals
            refine SatC.region ?_
            refine SatL.pu (RunV.move rfl) rfl ?_
            first | refine SatL.pu (RunV.nil_ptr rfl) rfl ?_ | refine SatL.pu (RunV.nil_func rfl) rfl ?_ | refine SatL.pu (RunV.nil_yield rfl) rfl ?_
            first | refine SatL.pu (RunV.fieldAddrL rfl rfl rfl) rfl ?_ | refine SatL.pu (RunV.fieldAddr rfl rfl rfl) rfl ?_
            refine SatL.pu (RunV.load1 hS rfl rfl (by repeat constructor) rfl) rfl ?_
            refine SatL.pu (RunV.move rfl) rfl ?_
            refine SatL.op rfl (OpW.deleteM (keyL rfl) hS rfl rfl rfl hmo _ (fun o' => by repeat constructor) ?_)
            clear hS
            intro o9 w7 hmp9 hS
            refine SatL.nil (SatE.blk_normal (SatE.thenC ?_))
            refine SatC.region ?_
            refine SatL.pu (RunV.add rfl rfl (by first | exact wrapI64 (by omega) | rfl)) rfl ?_
            refine SatL.pu (RunV.move rfl) rfl ?_
            refine SatL.nil ?_
            refine SatE.again ((i + 1, o9)) ?_ (by first | omega | (dsimp only; omega)) (by repeat constructor)
            refine ⟨by omega, ?_, hS⟩
            rw [← fil_y hcu hy hzm hzy (by assumption), show ckv S.node (dl Ch.id (fil k (ys.take i) S.ch) y) = _ from (kdel_v Ch.id _ _ y).symm]
            exact hmp9
          · (try simp only [cx, ne_eq] at h4)
            try (exfalso; (first | omega | exact h4 trivial | contradiction | (first | omega | (simp at h4; done))); done)
            all_goals
            refine SatC.skip (SatE.blk_normal (SatE.thenC ?_))
            refine SatC.region ?_
            refine SatL.pu (RunV.add rfl rfl (by first | exact wrapI64 (by omega) | rfl)) rfl ?_
            refine SatL.pu (RunV.move rfl) rfl ?_
            refine SatL.nil ?_
            refine SatE.again ((i + 1, o)) ?_ (by first | omega | (dsimp only; omega)) (by repeat constructor)
            refine ⟨by omega, ?_, hS⟩
            rw [fil_n hcu hy hzm hzy (by assumption)]
            exact hmo
        · (try simp only [cx, ne_eq] at h3)
          try (exfalso; (first | omega | exact h3 trivial | contradiction | (first | omega | (simp at h3; done))); done)
          all_goals
          refine SatC.exit (SatE.then_exit (SatE.then_exit (SatE.blk_exit (SatE.thenC ?_))))
          refine SatC.seq ?_
          refine SatC.region ?_
          refine SatL.pu (RunV.assign rfl) rfl ?_
          refine SatL.nil (SatE.thenC ?_)
          refine SatC.ret ?_
          refine SatE.ret1 rfl rfl ?_
          rw [List.take_of_length_le (by omega), fil_all hya] at hmo
          subst D
          refine ⟨rfl, LO b S.node S.addr ms mc o8 o (tbl (dl Sv.id S.sv k) ++ (S.ch.filter fun c => decide (¬ c.svc = k)).map hblk), ⟨Nat.le_trans (dl_sub _ _).length_le hs16, Nat.le_trans (List.filter_sublist ..).length_le hc16, dl_nodup hsu, ((List.filter_sublist ..).map _).nodup hcu, fun s hs => htg s ((dl_sub _ _).subset hs), fun c hc => hck c ((List.filter_sublist ..).subset hc), ms, mc, o8, o, ?_, hmo, rfl⟩, ?_⟩
          · show Mp str o8 (skv S.node (dl Sv.id S.sv k))
            rw [show skv S.node (dl Sv.id S.sv k) = _ from (kdel_v Sv.id _ S.sv k).symm]
            exact hmp8
          · exact (hS.sel (R := LO b S.node S.addr ms mc o8 o (tbl S.sv ++ S.ch.map hblk)) (by repeat constructor)).sub ((((List.Sublist.append (tbl_sub (dl_sub S.sv k)) ((List.filter_sublist ..).map hblk)).cons_cons _).cons_cons _).cons_cons _)
end
end Go.Proofs.Ytbnkcagcfbpiiaa
set_option linter.unusedSimpArgs false
set_option linter.unusedVariables false
set_option maxRecDepth 100000
set_option maxHeartbeats 8000000
namespace Go.Proofs.Ytbnkcagcfbpiiaa
open Go.RowKit
def upd1 (g : Ch → Ck) (zs : List (List UInt8)) (l : List Ch) : List Ch := l.map fun c => if c.id ∈ zs then { c with h := g c } else c
def updA (g : Ch → Ck) (l : List Ch) : List Ch := l.map fun c => { c with h := g c }
theorem upd1_nil (g : Ch → Ck) (l : List Ch) : upd1 g [] l = l := by
  unfold upd1
  conv => rhs; rw [← List.map_id l]
  exact List.map_congr_left fun c _ => by simp
theorem upd1_all {g : Ch → Ck} {zs : List (List UInt8)} {l : List Ch} (h : ∀ c ∈ l, c.id ∈ zs) : upd1 g zs l = updA g l := List.map_congr_left fun c hc => by rw [if_pos (h c hc)]
theorem upd1_at {g : Ch → Ck} {ys : List (List UInt8)} {y : List UInt8} {l : List Ch} {x : Ch} {i : Nat} (hn : (l.map Ch.id).Nodup) (hyn : ys.Nodup) (hy : ys[i]? = some y) (hx : gt Ch.id l y = some x) : ∃ A D, upd1 g (ys.take i) l = A ++ x :: D ∧ upd1 g (ys.take (i + 1)) l = A ++ { x with h := g x } :: D := by
  obtain ⟨A, D, rfl, h1, h2, h3⟩ := gt_split hx hn
  refine ⟨upd1 g (ys.take i) A, upd1 g (ys.take i) D, ?_, ?_⟩
  · unfold upd1
    rw [List.map_append, List.map_cons, if_neg (by rw [h1]; exact not_take hyn hy)]
  · have e : ∀ l' : List Ch, (∀ c ∈ l', ¬ c.id = y) → upd1 g (ys.take (i + 1)) l' = upd1 g (ys.take i) l' := fun l' hl => List.map_congr_left fun c hc => by
      rw [List.take_add_one, hy]
      simp [hl c hc]
    rw [← e A h2, ← e D h3]
    unfold upd1
    rw [List.map_append, List.map_cons, if_pos (by rw [List.take_add_one, hy, h1]; simp)]
theorem upd1_kv (n : Int) (g : Ch → Ck) (zs : List (List UInt8)) (l : List Ch) : ckv n (upd1 g zs l) = ckv n l := by
  unfold upd1
  simp only [ckv, kvs, List.map_map]
  refine List.map_congr_left fun c _ => ?_
  simp only [Function.comp]
  split <;> rfl
theorem updA_kv (n : Int) (g : Ch → Ck) (l : List Ch) : ckv n (updA g l) = ckv n l := by
  unfold updA
  simp only [ckv, kvs, List.map_map]
  exact List.map_congr_left fun c _ => rfl
theorem updA_ids (g : Ch → Ck) (l : List Ch) : (updA g l).map Ch.id = l.map Ch.id := by
  unfold updA
  rw [List.map_map]
  exact List.map_congr_left fun c _ => rfl
theorem upd1_ids (g : Ch → Ck) (zs : List (List UInt8)) (l : List Ch) : (upd1 g zs l).map Ch.id = l.map Ch.id := by
  unfold upd1
  rw [List.map_map]
  refine List.map_congr_left fun c _ => ?_
  simp only [Function.comp]
  split <;> rfl
def fol1 (l : List Ch) (c : Ch) : Ck := if isAl c = true then folC c.h (wrst (fun c => !isAl c) c.h.p.of l) else c.h
theorem fol1_p (l : List Ch) (c : Ch) : (fol1 l c).p = c.h.p := by
  unfold fol1
  split
  · exact folC_p _ _
  · rfl
theorem wrst_fol (l0 : List Ch) (zs : List (List UInt8)) (sv : List UInt8) (l : List Ch) : wrst (fun c => !isAl c) sv (upd1 (fol1 l0) zs l) = wrst (fun c => !isAl c) sv l := by
  unfold upd1
  induction l with
  | nil => rfl
  | cons c l ih =>
    rw [List.map_cons]
    simp only [wrst]
    rw [ih]
    split
    · have e : isAl { c with h := fol1 l0 c } = isAl c := by unfold isAl; rw [fol1_p]
      rw [e]
      by_cases ha : isAl c = true
      · simp [ha]
      · have : fol1 l0 c = c.h := if_neg ha
        rw [this]
    · rfl
def tk1 (c : Ch) : Ck := tickC c.h
/-- The checks behind a tick's first two rounds. -/
def ch2 (l : List Ch) : List Ch := updA (fol1 (updA tk1 l)) (updA tk1 l)
def gone1 (q : Lc × List (List UInt8)) (id : List UInt8) : Lc × List (List UInt8) :=
  if (q.1.ch.any fun c => decide (c.svc = id) && over c.h) = true then (aRem q.1 id, q.2 ++ [id]) else q
def aTick (S : Lc) : Lc × List (List UInt8) := (srt (S.sv.map Sv.id)).foldl gone1 ({ S with ch := ch2 S.ch }, [])
theorem gone1_y {S : Lc} {g : List (List UInt8)} {id : List UInt8} {c : Ch} (hc : c ∈ S.ch) (h1 : c.svc = id) (h2 : over c.h = true) : gone1 (S, g) id = (aRem S id, g ++ [id]) := if_pos (List.any_eq_true.2 ⟨c, hc, by simp [h1, h2]⟩)
theorem gone1_n {S : Lc} {g : List (List UInt8)} {id : List UInt8} (h : ∀ c ∈ S.ch, ¬ (c.svc = id ∧ over c.h = true)) : gone1 (S, g) id = (S, g) := if_neg fun hn => by
  obtain ⟨c, hc, h1⟩ := List.any_eq_true.1 hn
  simp only [Bool.and_eq_true, decide_eq_true_eq] at h1
  exact h c hc h1
section
variable {b : Nat} {S : Lc} {L : List (Nat × Obj)} {w : World}
theorem tick_d (hbd : ∀ c ∈ S.ch, Bd 1000000 c.h) (h : Agt b S L) (hown : Own w L) :
    Ret Try.prog 9 #[.pointer (some ⟨b, 0, none⟩)] w fun u w' => ∃ GB L', Sl 9 1 u ((aTick S).2.map rs) GB ∧ Agt b (aTick S).1 L' ∧ St w (L.map Prod.fst) (GB ++ L') w' := by
  obtain ⟨hs16, hc16, hsu, hcu, htg, hck, ms, mc, oS, oC, hmS, hmC, rfl⟩ := h
  have hS := St.init hown
  generalize hX : (LO b S.node S.addr ms mc oS oC (tbl S.sv ++ S.ch.map hblk)).map Prod.fst = X at hS ⊢
  have hyl : (srt (S.ch.map Ch.id)).length = S.ch.length := by rw [srt_len, List.length_map]
  have hyg : ∀ y ∈ srt (S.ch.map Ch.id), ∃ x, gt Ch.id S.ch y = some x ∧ x ∈ S.ch ∧ x.id = y := fun y hy => gt_some (mem_srt.1 hy)
  have hyn := srt_nodup hcu
  have hya : ∀ c ∈ S.ch, c.id ∈ srt (S.ch.map Ch.id) := fun c hc => mem_srt.2 (List.mem_map_of_mem hc)
  generalize hys : srt (S.ch.map Ch.id) = ys at hyl hyg hyn hya
  generalize hT : tbl S.sv = T at hS
  generalize hR : aTick S = R
  refine Ret.enter Try.func9 Try.ntmps9 rfl rfl ?_
  simp only [argEnv, Nat.reduceAdd]
  refine SatC.seq ?_
  refine SatC.region ?_
  refine SatL.pu (RunV.assign rfl) rfl ?_
  refine SatL.nil (SatE.thenC ?_)
  refine SatC.seq ?_
  refine SatC.seq ?_
  refine SatC.region ?_
  refine SatL.pu (RunV.move rfl) rfl ?_
  refine SatL.op rfl (OpW.enter rfl rfl rfl (rfl) (lnone_any (hS.ownT (A := [(b, C 63 (lcc S.node S.addr ms mc))]) (by repeat constructor))) ?_)
  rintro r1 w1 ⟨rfl, h⟩
  replace hS := St.callN hS h
  refine SatL.nil (SatE.thenC ?_)
  refine SatC.cond rfl (fun h1 => ?_) (fun h1 => ?_)
  · (try simp only [cx, ne_eq] at h1)
    try (exfalso; (first | omega | exact h1 trivial | contradiction | (first | omega | (simp at h1; done))); done)
    all_goals
    refine SatC.seq ?_
    refine SatC.region ?_
    refine SatL.pu (RunV.assign rfl) rfl ?_
    refine SatL.nil (SatE.thenC ?_)
    refine SatC.ret (SatE.then_ret ?_)
    refine SatE.ret1 rfl rfl ?_
    rw [List.drop_of_length_le (by omega)] at hfo
    subst hfo
    exact ⟨GB, L2, hsg, hAg, hS.sel (by repeat constructor)⟩
  · (try simp only [cx, ne_eq] at h1)
    try (exfalso; (first | omega | exact h1 trivial | contradiction | (first | omega | (simp at h1; done))); done)
    all_goals
    refine SatC.skip (SatE.thenC ?_)
    refine SatC.seq ?_
    refine SatC.seq ?_
    refine SatC.region ?_
    refine SatL.pu (RunV.move rfl) rfl ?_
    first | refine SatL.pu (RunV.nil_ptr rfl) rfl ?_ | refine SatL.pu (RunV.nil_func rfl) rfl ?_ | refine SatL.pu (RunV.nil_yield rfl) rfl ?_
    first | refine SatL.pu (RunV.fieldAddrL rfl rfl rfl) rfl ?_ | refine SatL.pu (RunV.fieldAddr rfl rfl rfl) rfl ?_
    refine SatL.pu (RunV.load1 hS rfl rfl (by repeat constructor) rfl) rfl ?_
    refine SatL.op rfl (OpW.enter rfl rfl rfl (rfl) (idsC_any S.ch hc16 _ _ hmC (hS.ownT (A := [(mc, oC)]) (by repeat constructor))) ?_)
    rintro r2 w2 ⟨KB, hkl, h⟩
    replace hS := hS.callT (A := []) .nil h
    rw [hys] at hkl
    obtain ⟨vc, hv⟩ := hkl.slv
    rw [List.length_map] at hv
    first | refine SatL.pu (RunV.lenR (by assumption) rfl rfl) rfl ?_ | refine SatL.pu (RunV.lenS rfl rfl) rfl ?_
    refine SatL.pu (RunV.move rfl) rfl ?_
    refine SatL.nil (SatE.thenC ?_)
    refine SatC.block ?_
    refine SatC.loopK (G := Nat) (V := fun i => [(22, .int .i64 (i : Int))]) (Cn := [(0, _), (2, _), (20, _), (21, _)]) (I := fun i w' => i ≤ ys.length ∧ St w X (KB ++ LO b S.node S.addr ms mc oS oC (T ++ (upd1 tk1 (ys.take i) S.ch).map hblk)) w') (μ := fun i => ys.length - i) 0 ?_ (by repeat constructor) ?_
    · exact ⟨Nat.zero_le _, by rw [List.take_zero, upd1_nil]; exact hS⟩
    clear hS
    rintro i w3 ⟨hi, hS⟩
    refine SatC.weak (e' := [(0, _), (2, _), (20, _), (21, _), (22, _)]) (by repeat constructor) ?_
    refine SatC.seq ?_
    refine SatC.region ?_
    refine SatL.pu (RunV.lss rfl rfl) rfl ?_
    refine SatL.nil (SatE.thenC ?_)
    refine SatC.seq ?_
    refine SatC.cond rfl (fun h2 => ?_) (fun h2 => ?_)
    · (try simp only [cx, ne_eq] at h2)
      try (exfalso; (first | omega | exact h2 trivial | contradiction | (first | omega | (simp at h2; done))); done)
      all_goals
      refine SatC.skip (SatE.thenC ?_)
      refine SatC.seq ?_
      refine SatC.block ?_
      refine SatC.seq ?_
      obtain ⟨y, hy⟩ : ∃ y, ys[i]? = some y := ⟨_, List.getElem?_eq_getElem (by omega)⟩
      obtain ⟨x, hgx, hxm, hxy⟩ := hyg y (List.mem_of_getElem? hy)
      obtain ⟨A, D, hl1, hl2⟩ := upd1_at (g := tk1) hcu hyn hy hgx
      rw [hl1, List.map_append, List.map_cons] at hS
      replace hS := hS.perm (List.perm_append_comm.trans (List.Perm.append_right KB mid_perm))
      generalize hE : T ++ (A.map hblk ++ D.map hblk) = E at hS
      unfold hblk at hS
      refine SatC.region ?_
      first | refine SatL.pu (RunV.indexR (by assumption) rfl rfl rfl (by omega) (by omega) rfl) rfl ?_ | refine SatL.pu (RunV.indexS rfl rfl rfl (by omega) (by omega) rfl) rfl ?_
      first | refine SatL.pu (RunV.loadR1z (RdC.st (by assumption) hS List.not_mem_nil) rfl rfl (by first | assumption | exact map_get (by assumption)) rfl) rfl ?_ | refine SatL.pu (RunV.loadR1z (Sl.rd (by assumption) hS (by repeat constructor)) rfl rfl (by first | assumption | exact map_get (by assumption)) rfl) rfl ?_
      refine SatL.pu (RunV.assign rfl) rfl ?_
      refine SatL.nil (SatE.thenC ?_)
      refine SatC.region ?_
      refine SatL.pu (RunV.move rfl) rfl ?_
      first | refine SatL.pu (RunV.nil_ptr rfl) rfl ?_ | refine SatL.pu (RunV.nil_func rfl) rfl ?_ | refine SatL.pu (RunV.nil_yield rfl) rfl ?_
      first | refine SatL.pu (RunV.fieldAddrL rfl rfl rfl) rfl ?_ | refine SatL.pu (RunV.fieldAddr rfl rfl rfl) rfl ?_
      refine SatL.pu (RunV.load1 hS rfl rfl (by repeat constructor) rfl) rfl ?_
      refine SatL.pu (RunV.move rfl) rfl ?_
      refine SatL.pu (RunV.cast (v' := .agg (chv S.node x).toArray) (RunV.lookup1 (keyL rfl) hS rfl rfl rfl rfl (by repeat constructor) hmC.is) (by rw [kget_v, hgx]; rfl)) rfl ?_
      refine SatL.pu (RunV.field1 rfl rfl rfl rfl) rfl ?_
      refine SatL.op rfl (OpW.enter rfl rfl rfl (rfl) (tick_any (hS.ownT (A := [(x.hb, C 108 (hc (fv x.h) x.h))]) (by repeat constructor)) (hck x hxm) (hbd x hxm)) ?_)
      rintro r4 w4 ⟨rfl, h⟩
      replace hS := hS.callT (A := [(x.hb, C 108 (hc (fv x.h) x.h))]) (by repeat constructor) h
      rw [fv_p (tickC_p x.h).symm] at hS
      refine SatL.nil (SatE.blk_normal (SatE.thenC ?_))
      refine SatC.weak (e' := [(0, _), (2, _), (20, _), (21, _), (22, _)]) (by repeat constructor) ?_
      refine SatC.region ?_
      refine SatL.pu (RunV.add rfl rfl (by first | exact wrapI64 (by omega) | rfl)) rfl ?_
      refine SatL.pu (RunV.move rfl) rfl ?_
      refine SatL.nil ?_
      refine SatE.again (i + 1) ?_ (by first | omega | (dsimp only; omega)) (by repeat constructor)
      refine ⟨by omega, ?_⟩
      subst E
      rw [hl2, List.map_append, List.map_cons]
      exact ((hS.sel (R := (hblk { x with h := tk1 x } :: LO b S.node S.addr ms mc oS oC (T ++ (A.map hblk ++ D.map hblk))) ++ KB) (by repeat constructor)).perm (List.Perm.append_right KB mid_perm.symm)).perm List.perm_append_comm
    · (try simp only [cx, ne_eq] at h2)
      try (exfalso; (first | omega | exact h2 trivial | contradiction | (first | omega | (simp at h2; done))); done)
      all_goals
      refine SatC.exit (SatE.then_exit (SatE.then_exit (SatE.blk_exit (SatE.thenC ?_))))
      refine SatC.seq ?_
      refine SatC.seq ?_
      rw [List.take_of_length_le (by omega), upd1_all hya] at hS
      have hm1 : Mp str oC (ckv S.node (updA tk1 S.ch)) := by rw [updA_kv]; exact hmC
      have hcu1 : ((updA tk1 S.ch).map Ch.id).Nodup := by rw [updA_ids]; exact hcu
      have hln1 : (updA tk1 S.ch).length = S.ch.length := List.length_map ..
      have hyg1 : ∀ y ∈ ys, ∃ x, gt Ch.id (updA tk1 S.ch) y = some x ∧ x ∈ updA tk1 S.ch ∧ x.id = y := fun y hy => gt_some (by
        rw [updA_ids]
        obtain ⟨x, _, hxm, rfl⟩ := hyg y hy
        exact List.mem_map_of_mem hxm)
      have hck1 : ∀ c ∈ updA tk1 S.ch, ¬ c.h.p.kind = 0 := fun c hc => by
        obtain ⟨d, hd, rfl⟩ := List.mem_map.1 hc
        show ¬ (tickC d.h).p.kind = 0
        rw [tickC_p]
        exact hck d hd
      have hya1 : ∀ c ∈ updA tk1 S.ch, c.id ∈ ys := fun c hc => by
        obtain ⟨d, hd, rfl⟩ := List.mem_map.1 hc
        exact hya d hd
      have hR2 : (srt (S.sv.map Sv.id)).foldl gone1 ({ S with ch := updA (fol1 (updA tk1 S.ch)) (updA tk1 S.ch) }, []) = R := hR
      clear hR
      generalize updA tk1 S.ch = C1 at hS hm1 hcu1 hln1 hyg1 hck1 hya1 hR2
      refine SatC.region ?_
      refine SatL.pu (RunV.move rfl) rfl ?_
      first | refine SatL.pu (RunV.nil_ptr rfl) rfl ?_ | refine SatL.pu (RunV.nil_func rfl) rfl ?_ | refine SatL.pu (RunV.nil_yield rfl) rfl ?_
      first | refine SatL.pu (RunV.fieldAddrL rfl rfl rfl) rfl ?_ | refine SatL.pu (RunV.fieldAddr rfl rfl rfl) rfl ?_
      refine SatL.pu (RunV.load1 hS rfl rfl (by repeat constructor) rfl) rfl ?_
      refine SatL.op rfl (OpW.enter rfl rfl rfl (rfl) (idsC_any S.ch hc16 _ _ hmC (hS.ownT (A := [(mc, oC)]) (by repeat constructor))) ?_)
      rintro r4 w4 ⟨KC, hkl2, h⟩
      replace hS := hS.callT (A := []) .nil h
      rw [hys] at hkl2
      obtain ⟨vc2, hv2⟩ := hkl2.slv
      rw [List.length_map] at hv2
      first | refine SatL.pu (RunV.lenR (by assumption) rfl rfl) rfl ?_ | refine SatL.pu (RunV.lenS rfl rfl) rfl ?_
      refine SatL.pu (RunV.move rfl) rfl ?_
      refine SatL.nil (SatE.thenC ?_)
      refine SatC.block ?_
      refine SatC.loopK (G := Nat) (V := fun i => [(41, .int .i64 (i : Int))]) (Cn := [(0, _), (2, _), (39, _), (40, _)]) (I := fun i w' => i ≤ ys.length ∧ St w X (KC ++ LO b S.node S.addr ms mc oS oC (T ++ (upd1 (fol1 C1) (ys.take i) C1).map hblk)) w') (μ := fun i => ys.length - i) 0 ?_ (by repeat constructor) ?_
      · exact ⟨Nat.zero_le _, by rw [List.take_zero, upd1_nil]; exact hS.sel (by repeat constructor)⟩
      clear hS
      rintro i w5 ⟨hi, hS⟩
      refine SatC.weak (e' := [(0, _), (2, _), (39, _), (40, _), (41, _)]) (by repeat constructor) ?_
      refine SatC.seq ?_
      refine SatC.region ?_
      refine SatL.pu (RunV.lss rfl rfl) rfl ?_
      refine SatL.nil (SatE.thenC ?_)
      refine SatC.seq ?_
      refine SatC.cond rfl (fun h3 => ?_) (fun h3 => ?_)
      · (try simp only [cx, ne_eq] at h3)
        try (exfalso; (first | omega | exact h3 trivial | contradiction | (first | omega | (simp at h3; done))); done)
        all_goals
        refine SatC.skip (SatE.thenC ?_)
        refine SatC.seq ?_
        refine SatC.block ?_
        refine SatC.seq ?_
        obtain ⟨y, hy⟩ : ∃ y, ys[i]? = some y := ⟨_, List.getElem?_eq_getElem (by omega)⟩
        obtain ⟨x, hgx, hxm, hxy⟩ := hyg1 y (List.mem_of_getElem? hy)
        obtain ⟨A, D, hl1, hl2⟩ := upd1_at (g := fol1 C1) hcu1 hyn hy hgx
        have hgl := hgx
        rw [hl1, List.map_append, List.map_cons] at hS
        have hkx := hck1 x hxm
        have hml : Mp str oC (ckv S.node (A ++ x :: D)) := by rw [← hl1, upd1_kv]; exact hm1
        have hAg : Agt b ⟨S.node, S.addr, S.sv, A ++ x :: D⟩ (LO b S.node S.addr ms mc oS oC (T ++ (A.map hblk ++ hblk x :: D.map hblk))) := by
          refine ⟨hs16, ?_, hsu, ?_, htg, fun c hc => ?_, ms, mc, oS, oC, hmS, hml, ?_⟩
          · show (A ++ x :: D).length ≤ 16
            rw [← hl1]; unfold upd1; rw [List.length_map, hln1]; exact hc16
          · show ((A ++ x :: D).map Ch.id).Nodup
            rw [← hl1, upd1_ids]; exact hcu1
          · replace hc : c ∈ A ++ x :: D := hc
            rw [← hl1] at hc
            obtain ⟨d, hd, rfl⟩ := List.mem_map.1 hc
            split
            · rw [fol1_p]; exact hck1 d hd
            · exact hck1 d hd
          · subst T
            simp
        have hwr : wrst (fun c => !isAl c) x.h.p.of (A ++ x :: D) = wrst (fun c => !isAl c) x.h.p.of C1 := by rw [← hl1, wrst_fol]
        have hEp : ∀ w', St w X (KC ++ LO b S.node S.addr ms mc oS oC (T ++ (A.map hblk ++ hblk x :: D.map hblk))) w' → St w X ((x.hb, C 108 (hc (fv x.h) x.h)) :: (LO b S.node S.addr ms mc oS oC (T ++ (A.map hblk ++ D.map hblk)) ++ KC)) w' := fun w' hS => hS.perm (List.perm_append_comm.trans (List.Perm.append_right KC mid_perm))
        have hxE : hblk x ∈ T ++ (A.map hblk ++ hblk x :: D.map hblk) := by simp
        have hsame : fol1 C1 x = x.h → A ++ { x with h := fol1 C1 x } :: D = A ++ x :: D := fun h => by rw [h]
        have hmA : ∀ c ∈ A ++ x :: D, ¬ c.h.p.kind = 0 := hAg.ck
        generalize hE : T ++ (A.map hblk ++ hblk x :: D.map hblk) = E at hS hAg hEp hxE
        refine SatC.region ?_
        first | refine SatL.pu (RunV.indexR (by assumption) rfl rfl rfl (by omega) (by omega) rfl) rfl ?_ | refine SatL.pu (RunV.indexS rfl rfl rfl (by omega) (by omega) rfl) rfl ?_
        first | refine SatL.pu (RunV.loadR1z (RdC.st (by assumption) hS List.not_mem_nil) rfl rfl (by first | assumption | exact map_get (by assumption)) rfl) rfl ?_ | refine SatL.pu (RunV.loadR1z (Sl.rd (by assumption) hS (by repeat constructor)) rfl rfl (by first | assumption | exact map_get (by assumption)) rfl) rfl ?_
        refine SatL.pu (RunV.assign rfl) rfl ?_
        refine SatL.nil (SatE.thenC ?_)
        refine SatC.seq ?_
        refine SatC.region ?_
        refine SatL.pu (RunV.move rfl) rfl ?_
        first | refine SatL.pu (RunV.nil_ptr rfl) rfl ?_ | refine SatL.pu (RunV.nil_func rfl) rfl ?_ | refine SatL.pu (RunV.nil_yield rfl) rfl ?_
        first | refine SatL.pu (RunV.fieldAddrL rfl rfl rfl) rfl ?_ | refine SatL.pu (RunV.fieldAddr rfl rfl rfl) rfl ?_
        refine SatL.pu (RunV.load1 hS rfl rfl (by repeat constructor) rfl) rfl ?_
        refine SatL.pu (RunV.move rfl) rfl ?_
        refine SatL.pu (RunV.cast (v' := .agg (chv S.node x).toArray) (RunV.lookup1 (keyL rfl) hS rfl rfl rfl rfl (by repeat constructor) hm1.is) (by rw [kget_v, hgx]; rfl)) rfl ?_
        refine SatL.op rfl (OpW.alloc hS rfl rfl (by repeat constructor) ?_)
        clear hS
        intro b7 w6 _ hS
        refine SatL.op rfl (OpW.store hS rfl rfl (by repeat constructor) (by repeat constructor) (by repeat constructor) rfl rfl ?_)
        clear hS
        intro w7 hS
        refine SatL.nil (SatE.thenC ?_)
        refine SatC.seq ?_
        refine SatC.region ?_
        refine SatL.pu (RunV.loadN hS rfl rfl (by repeat constructor) (by repeat constructor)) rfl ?_
        refine SatL.op rfl (OpW.enter rfl rfl rfl (rfl) (alias_any S.node x _ hkx (own1 hS (by simp [hxE]))) ?_)
        rintro r8 w8 ⟨rfl, h⟩
        replace hS := St.callN hS h
        refine SatL.nil (SatE.thenC ?_)
        refine SatC.cond rfl (fun h4 => ?_) (fun h4 => ?_)
        · (try simp only [cx, ne_eq] at h4)
          try (exfalso; (first | omega | exact h4 trivial | contradiction | (first | omega | (simp at h4; done))); done)
          all_goals
          refine SatC.weak (e' := [(0, _), (2, _), (7, _), (39, _), (40, _), (41, _)]) (by repeat constructor) ?_
          refine SatC.drawnT 8 hS (hS) (by kernel_rfl) ?_
          clear hS
          intro w9 hh hS hD
          first | refine SatD.tkp 0 rfl [1] hD (fun _ hw => RunV.fieldAddrL rfl rfl rfl) ?_ | refine SatD.tkp 0 rfl [1] hD (fun _ hw => RunV.fieldAddr rfl rfl rfl) ?_
          refine SatD.tk 1 rfl hD (fun _ hw => RunV.load1 hw rfl rfl (by repeat constructor) rfl) ?_
          refine SatD.tkp 2 rfl [7] hD (fun _ hw => RunV.move rfl) ?_
          first | refine SatD.tkp 3 rfl [7, 5, 4] hD (fun _ hw => RunV.fieldAddrL rfl rfl rfl) ?_ | refine SatD.tkp 3 rfl [7, 5, 4] hD (fun _ hw => RunV.fieldAddr rfl rfl rfl) ?_
          refine SatD.tkp 4 rfl [7, 5] hD (fun _ hw => RunV.load1 hw rfl rfl (by repeat constructor) rfl) ?_
          refine SatD.ef 5 rfl (OpW.enter rfl rfl rfl (rfl) (plan_any (c := x.h) (own1 (p := hblk x) hS (by simp [hxE])) hkx) ?_)
          rintro r10 w10 ⟨rfl, h⟩
          replace hS := St.callN hS h
          refine keepS (hS.sel (by repeat constructor)) (fun hD => ?_)
          refine SatD.tkp 6 rfl [7] hD (fun _ hw => RunV.field1 rfl rfl rfl rfl) ?_
          refine SatD.ef 7 rfl (OpW.enter rfl rfl rfl (rfl) (worst_d (S := ⟨S.node, S.addr, S.sv, A ++ x :: D⟩) (fun c => !isAl c) x.h.p.of (by kernel_rfl) (fun c hc w ho => yesT_any S.node c w (hmA c hc) ho) hAg (hS.ownT (A := LO b S.node S.addr ms mc oS oC E) (by repeat constructor))) ?_)
          rintro r11 w11 ⟨rfl, h⟩
          replace hS := St.callN hS h
          refine keepS (hS.sel (by repeat constructor)) (fun hD => ?_)
          refine SatD.effF (by kernel_rfl) rfl rfl (OpW.enter rfl rfl rfl (rfl) (fol_any (c := x.h) (f := fv x.h) _ (own1 (p := hblk x) hS (by simp [hxE])) hkx) ?_)
          rintro r12 w12 ⟨rfl, h⟩
          replace hS := St.callR (A := [(x.hb, C 108 (hc (fv x.h) x.h))]) (hEp _ (hS.sel (by repeat constructor))) (by repeat constructor) h
          rw [fv_p (folC_p x.h (wrst (fun c => !isAl c) x.h.p.of (A ++ x :: D))).symm] at hS
          refine SatD.done 0 (by kernel_rfl) (SatE.blk_normal (SatE.thenC ?_))
          clear hD
          refine SatC.region ?_
          refine SatL.pu (RunV.add rfl rfl (by first | exact wrapI64 (by omega) | rfl)) rfl ?_
          refine SatL.pu (RunV.move rfl) rfl ?_
          refine SatL.nil ?_
          refine SatE.again (i + 1) ?_ (by first | omega | (dsimp only; omega)) (by repeat constructor)
          refine ⟨by omega, ?_⟩
          have e : fol1 C1 x = folC x.h (wrst (fun c => !isAl c) x.h.p.of (A ++ x :: D)) := by rw [hwr]; exact if_pos (by assumption)
          rw [hl2, List.map_append, List.map_cons, e]
          refine St.perm (L := hblk { x with h := folC x.h (wrst (fun c => !isAl c) x.h.p.of (A ++ x :: D)) } :: (LO b S.node S.addr ms mc oS oC (T ++ (A.map hblk ++ D.map hblk)) ++ KC)) ?_ ((List.Perm.append_right KC mid_perm.symm).trans List.perm_append_comm)
          exact hS
        · (try simp only [cx, ne_eq] at h4)
          try (exfalso; (first | omega | exact h4 trivial | contradiction | (first | omega | (simp at h4; done))); done)
          all_goals
          refine SatC.skip (SatE.blk_normal (SatE.thenC ?_))
          refine SatC.weak (e' := [(0, _), (2, _), (39, _), (40, _), (41, _)]) (by repeat constructor) ?_
          refine SatC.region ?_
          refine SatL.pu (RunV.add rfl rfl (by first | exact wrapI64 (by omega) | rfl)) rfl ?_
          refine SatL.pu (RunV.move rfl) rfl ?_
          refine SatL.nil ?_
          refine SatE.again (i + 1) ?_ (by first | omega | (dsimp only; omega)) (by repeat constructor)
          refine ⟨by omega, ?_⟩
          rw [hl2, hsame (if_neg (by simp_all)), List.map_append, List.map_cons]
          subst E
          exact hS.sel (by repeat constructor)
      · (try simp only [cx, ne_eq] at h3)
        try (exfalso; (first | omega | exact h3 trivial | contradiction | (first | omega | (simp at h3; done))); done)
        all_goals
        refine SatC.exit (SatE.then_exit (SatE.then_exit (SatE.blk_exit (SatE.thenC ?_))))
        refine SatC.seq ?_
        rw [List.take_of_length_le (by omega), upd1_all hya1] at hS
        have hA2 : Agt b { S with ch := updA (fol1 C1) C1 } (LO b S.node S.addr ms mc oS oC (T ++ (updA (fol1 C1) C1).map hblk)) := by
          refine ⟨hs16, ?_, hsu, ?_, htg, fun c hc => ?_, ms, mc, oS, oC, hmS, ?_, ?_⟩
          · show (updA (fol1 C1) C1).length ≤ 16
            unfold updA; rw [List.length_map, hln1]; exact hc16
          · show ((updA (fol1 C1) C1).map Ch.id).Nodup
            rw [updA_ids]; exact hcu1
          · obtain ⟨d, hd, rfl⟩ := List.mem_map.1 hc
            show ¬ (fol1 C1 d).p.kind = 0
            rw [fol1_p]; exact hck1 d hd
          · show Mp str oC (ckv S.node (updA (fol1 C1) C1))
            rw [updA_kv]; exact hm1
          · subst T; rfl
        generalize T ++ (updA (fol1 C1) C1).map hblk = E2 at hS hA2
        have hzl : (srt (S.sv.map Sv.id)).length = S.sv.length := by rw [srt_len, List.length_map]
        generalize hzs : srt (S.sv.map Sv.id) = zs at hR2 hzl
        refine SatC.region ?_
        refine SatL.pu (RunV.assign rfl) rfl ?_
        refine SatL.nil (SatE.thenC ?_)
        refine SatC.seq ?_
        refine SatC.seq ?_
        refine SatC.region ?_
        refine SatL.pu (RunV.move rfl) rfl ?_
        first | refine SatL.pu (RunV.nil_ptr rfl) rfl ?_ | refine SatL.pu (RunV.nil_func rfl) rfl ?_ | refine SatL.pu (RunV.nil_yield rfl) rfl ?_
        first | refine SatL.pu (RunV.fieldAddrL rfl rfl rfl) rfl ?_ | refine SatL.pu (RunV.fieldAddr rfl rfl rfl) rfl ?_
        refine SatL.pu (RunV.load1 hS rfl rfl (by repeat constructor) rfl) rfl ?_
        refine SatL.op rfl (OpW.enter rfl rfl rfl (rfl) (idsS_any S.sv hs16 _ _ hmS (hS.ownT (A := [(ms, oS)]) (by repeat constructor))) ?_)
        rintro r6 w6 ⟨KZ, hkz, h⟩
        replace hS := hS.callT (A := []) .nil h
        rw [hzs] at hkz
        obtain ⟨vz, hvz⟩ := hkz.slv
        rw [List.length_map] at hvz
        first | refine SatL.pu (RunV.lenR (by assumption) rfl rfl) rfl ?_ | refine SatL.pu (RunV.lenS rfl rfl) rfl ?_
        refine SatL.pu (RunV.move rfl) rfl ?_
        refine SatL.nil (SatE.thenC ?_)
        refine SatC.block ?_
        refine SatC.loopK (G := Nat × Lc × List (List UInt8) × Value × List (Nat × Obj) × List (Nat × Obj)) (V := fun ⟨i, S2, gl, gv, GB, L2⟩ => [(69, .int .i64 (i : Int)), (8, gv)]) (Cn := [(0, _), (2, _), (67, _), (68, _)]) (I := fun ⟨i, S2, gl, gv, GB, L2⟩ w' => i ≤ zs.length ∧ gl.length ≤ i ∧ Sl 9 1 gv (gl.map rs) GB ∧ Agt b S2 L2 ∧ (zs.drop i).foldl gone1 (S2, gl) = R ∧ St w X (GB ++ (KZ ++ L2)) w') (μ := fun ⟨i, S2, gl, gv, GB, L2⟩ => zs.length - i) (0, { S with ch := updA (fol1 C1) C1 }, [], .slice none 0 0, [], LO b S.node S.addr ms mc oS oC E2) ?_ (by repeat constructor) ?_
        · exact ⟨Nat.zero_le _, Nat.le_refl _, .nil, hA2, hR2, hS.sel (by repeat constructor)⟩
        clear hS
        rintro ⟨i, S2, gl, gv, GB, L2⟩ w7 ⟨hi, hgl, hsg, hAg, hfo, hS⟩
        refine SatC.weak (e' := [(0, _), (2, _), (8, _), (67, _), (68, _), (69, _)]) (by repeat constructor) ?_
        refine SatC.seq ?_
        refine SatC.region ?_
        refine SatL.pu (RunV.lss rfl rfl) rfl ?_
        refine SatL.nil (SatE.thenC ?_)
        refine SatC.seq ?_
        refine SatC.cond rfl (fun h4 => ?_) (fun h4 => ?_)
        · (try simp only [cx, ne_eq] at h4)
          try (exfalso; (first | omega | exact h4 trivial | contradiction | (first | omega | (simp at h4; done))); done)
          all_goals
          refine SatC.skip (SatE.thenC ?_)
          refine SatC.seq ?_
          refine SatC.block ?_
          refine SatC.seq ?_
          obtain ⟨y, hy⟩ : ∃ y, zs[i]? = some y := ⟨_, List.getElem?_eq_getElem (by omega)⟩
          rw [List.drop_eq_getElem_cons (by omega : i < zs.length), List.foldl_cons, show zs[i] = y from by rw [List.getElem?_eq_getElem (by omega)] at hy; exact Option.some.inj hy] at hfo
          have hw2 := hAg
          obtain ⟨hs162, hc162, hsu2, hcu2, htg2, hck2, ms2, mc2, oS2, oC2, hmS2, hmC2, rfl⟩ := hAg
          have hcD : ∀ c ∈ S2.ch, hblk c ∈ tbl S2.sv ++ S2.ch.map hblk := fun c hc => List.mem_append_right _ (List.mem_map_of_mem hc)
          generalize (tbl S2.sv ++ S2.ch.map hblk) = D2 at hS hw2 hcD
          have hjl : (srt (S2.ch.map Ch.id)).length = S2.ch.length := by rw [srt_len, List.length_map]
          have hjg : ∀ y ∈ srt (S2.ch.map Ch.id), ∃ x, gt Ch.id S2.ch y = some x ∧ x ∈ S2.ch ∧ x.id = y := fun y hy => gt_some (mem_srt.1 hy)
          have hja : ∀ c ∈ S2.ch, c.id ∈ srt (S2.ch.map Ch.id) := fun c hc => mem_srt.2 (List.mem_map_of_mem hc)
          generalize hjs : srt (S2.ch.map Ch.id) = js at hjl hjg hja
          refine SatC.region ?_
          first | refine SatL.pu (RunV.indexR (by assumption) rfl rfl rfl (by omega) (by omega) rfl) rfl ?_ | refine SatL.pu (RunV.indexS rfl rfl rfl (by omega) (by omega) rfl) rfl ?_
          refine SatL.pu (RunV.loadR1g i 0 (Sl.rd hkz hS (by repeat constructor)) rfl rfl (by omega) (map_get hy) rfl) rfl ?_
          refine SatL.pu (RunV.assign rfl) rfl ?_
          refine SatL.nil (SatE.thenC ?_)
          refine SatC.seq ?_
          refine SatC.region ?_
          refine SatL.pu (RunV.move rfl) rfl ?_
          first | refine SatL.pu (RunV.nil_ptr rfl) rfl ?_ | refine SatL.pu (RunV.nil_func rfl) rfl ?_ | refine SatL.pu (RunV.nil_yield rfl) rfl ?_
          first | refine SatL.pu (RunV.fieldAddrL rfl rfl rfl) rfl ?_ | refine SatL.pu (RunV.fieldAddr rfl rfl rfl) rfl ?_
          refine SatL.pu (RunV.load1 hS rfl rfl (by repeat constructor) rfl) rfl ?_
          refine SatL.op rfl (OpW.enter rfl rfl rfl (rfl) (idsC_any S2.ch hc162 _ _ hmC2 (hS.ownT (A := [(mc2, oC2)]) (by repeat constructor))) ?_)
          rintro r8 w8 ⟨KJ, hkj, h⟩
          replace hS := hS.callT (A := []) .nil h
          rw [hjs] at hkj
          obtain ⟨vj, hvj⟩ := hkj.slv
          rw [List.length_map] at hvj
          first | refine SatL.pu (RunV.lenR (by assumption) rfl rfl) rfl ?_ | refine SatL.pu (RunV.lenS rfl rfl) rfl ?_
          refine SatL.pu (RunV.move rfl) rfl ?_
          refine SatL.nil (SatE.thenC ?_)
          refine SatC.block ?_
          refine SatC.loopK (G := Nat) (V := fun j => [(79, .int .i64 (j : Int))]) (Cn := [(0, _), (2, _), (10, _), (67, _), (68, _), (69, _), (77, _), (78, _), (8, _)]) (I := fun j w' => j ≤ js.length ∧ (∀ c ∈ S2.ch, c.id ∈ js.take j → ¬ (c.svc = y ∧ over c.h = true)) ∧ St w X (KJ ++ (GB ++ (KZ ++ LO b S2.node S2.addr ms2 mc2 oS2 oC2 D2))) w') (μ := fun j => js.length - j) 0 ?_ (by repeat constructor) ?_
          · exact ⟨Nat.zero_le _, fun c _ h => by simp at h, hS⟩
          clear hS
          rintro j w9 ⟨hj, hno, hS⟩
          refine SatC.weak (e' := [(0, _), (2, _), (8, _), (10, _), (67, _), (68, _), (69, _), (77, _), (78, _), (79, _)]) (by repeat constructor) ?_
          refine SatC.seq ?_
          refine SatC.region ?_
          refine SatL.pu (RunV.lss rfl rfl) rfl ?_
          refine SatL.nil (SatE.thenC ?_)
          refine SatC.seq ?_
          refine SatC.cond rfl (fun h5 => ?_) (fun h5 => ?_)
          · (try simp only [cx, ne_eq] at h5)
            try (exfalso; (first | omega | exact h5 trivial | contradiction | (first | omega | (simp at h5; done))); done)
            all_goals
            refine SatC.skip (SatE.thenC ?_)
            refine SatC.seq ?_
            refine SatC.block ?_
            refine SatC.seq ?_
            obtain ⟨q, hq⟩ : ∃ q, js[j]? = some q := ⟨_, List.getElem?_eq_getElem (by omega)⟩
            obtain ⟨z, hgz, hzm, hzy⟩ := hjg q (List.mem_of_getElem? hq)
            have hnx : ¬ (z.svc = y ∧ over z.h = true) → ∀ c ∈ S2.ch, c.id ∈ js.take (j + 1) → ¬ (c.svc = y ∧ over c.h = true) := fun hn c hc hm => by
              rw [List.take_add_one, hq] at hm
              rcases List.mem_append.1 hm with hm | hm
              · exact hno c hc hm
              · simp only [Option.toList_some, List.mem_singleton] at hm
                rw [key_inj hcu2 hc hzm (hm.trans hzy.symm)]
                exact hn
            refine SatC.region ?_
            first | refine SatL.pu (RunV.indexR (by assumption) rfl rfl rfl (by omega) (by omega) rfl) rfl ?_ | refine SatL.pu (RunV.indexS rfl rfl rfl (by omega) (by omega) rfl) rfl ?_
            refine SatL.pu (RunV.loadR1g j 0 (Sl.rd hkj hS (by repeat constructor)) rfl rfl (by omega) (map_get hq) rfl) rfl ?_
            refine SatL.pu (RunV.assign rfl) rfl ?_
            refine SatL.nil (SatE.thenC ?_)
            refine SatC.seq ?_
            refine SatC.region ?_
            refine SatL.pu (RunV.move rfl) rfl ?_
            first | refine SatL.pu (RunV.nil_ptr rfl) rfl ?_ | refine SatL.pu (RunV.nil_func rfl) rfl ?_ | refine SatL.pu (RunV.nil_yield rfl) rfl ?_
            first | refine SatL.pu (RunV.fieldAddrL rfl rfl rfl) rfl ?_ | refine SatL.pu (RunV.fieldAddr rfl rfl rfl) rfl ?_
            refine SatL.pu (RunV.load1 hS rfl rfl (by repeat constructor) rfl) rfl ?_
            refine SatL.pu (RunV.move rfl) rfl ?_
            refine SatL.pu (RunV.cast (v' := .agg (chv S2.node z).toArray) (RunV.lookup1 (keyL rfl) hS rfl rfl rfl rfl (by repeat constructor) hmC2.is) (by rw [kget_v, hgz]; rfl)) rfl ?_
            refine SatL.op rfl (OpW.alloc hS rfl rfl (by repeat constructor) ?_)
            clear hS
            intro b13 w10 _ hS
            refine SatL.op rfl (OpW.store hS rfl rfl (by repeat constructor) (by repeat constructor) (by repeat constructor) rfl rfl ?_)
            clear hS
            intro w11 hS
            refine SatL.nil (SatE.thenC ?_)
            refine SatC.seq ?_
            refine SatC.region ?_
            first | refine SatL.pu (RunV.fieldAddrL rfl rfl rfl) rfl ?_ | refine SatL.pu (RunV.fieldAddr rfl rfl rfl) rfl ?_
            first | refine SatL.pu (RunV.fieldAddrL rfl rfl rfl) rfl ?_ | refine SatL.pu (RunV.fieldAddr rfl rfl rfl) rfl ?_
            refine SatL.pu (RunV.load1 hS rfl rfl (by repeat constructor) rfl) rfl ?_
            refine SatL.pu (RunV.move rfl) rfl ?_
            refine SatL.pu (RunV.seql rfl rfl) rfl ?_
            refine SatL.pu (RunV.move rfl) rfl ?_
            refine SatL.guard rfl rfl rfl (fun h6 => ?_) (fun h6 => ?_)
            · (try simp only [cx, ne_eq] at h6)
              try (exfalso; (first | omega | exact h6 trivial | contradiction | (first | omega | (simp at h6; done))); done)
              all_goals
              first | refine SatL.pu (RunV.fieldAddrL rfl rfl rfl) rfl ?_ | refine SatL.pu (RunV.fieldAddr rfl rfl rfl) rfl ?_
              refine SatL.guard_y rfl rfl ?_
              refine SatL.pu (RunV.load1 hS rfl rfl (by repeat constructor) rfl) rfl ?_
              refine SatL.guard_y rfl rfl ?_
              refine SatL.op rfl (OpW.enter rfl rfl rfl (rfl) (over_any (c := z.h) (own1 (p := hblk z) hS (by simp [hcD z hzm])) (hck2 z hzm)) ?_)
              rintro r12 w12 ⟨rfl, h⟩
              replace hS := St.callN hS h
              refine SatL.pu (RunV.pick_t rfl rfl) rfl ?_
              refine SatL.nil (SatE.thenC ?_)
              refine SatC.weak (e' := [(0, _), (2, _), (8, _), (10, _), (67, _), (68, _), (69, _), (77, _), (78, _), (79, _), (98, _)]) (by repeat constructor) ?_
              refine SatC.cond rfl (fun h7 => ?_) (fun h7 => ?_)
              · (try simp only [cx, ne_eq] at h7)
                try (exfalso; (first | omega | exact h7 trivial | contradiction | (first | omega | (simp at h7; done))); done)
                all_goals
                refine SatC.seq ?_
                refine SatC.region ?_
                refine SatL.pu (RunV.move rfl) rfl ?_
                refine SatL.pu (RunV.move rfl) rfl ?_
                refine SatL.op rfl (OpW.enter rfl rfl rfl (rfl) (rem_d y hw2 (hS.ownT (A := LO b S2.node S2.addr ms2 mc2 oS2 oC2 D2) (by repeat constructor))) ?_)
                rintro r13 w13 ⟨rfl, L3, hL3, h⟩
                replace hS := hS.callT (A := LO b S2.node S2.addr ms2 mc2 oS2 oC2 D2) (by repeat constructor) h
                refine SatL.nil (SatE.thenC ?_)
                refine SatC.seq ?_
                refine SatC.region ?_
                refine SatL.pu (RunV.move rfl) rfl ?_
                refine SatL.pu (RunV.move rfl) rfl ?_
                refine SatL.op rfl (OpW.buildSlice1 hS rfl rfl rfl rfl rfl (by repeat constructor) rfl rfl rfl ?_)
                clear hS
                intro b104 w14 _ hS
                refine SatL.op rfl (OpW.append1 hsg hS (by repeat constructor) rfl rfl (by repeat constructor) rfl rfl rfl rfl rfl rfl rfl rfl (by rw [List.length_map]; omega) rfl ?_)
                clear hS
                intro v105 B105 w15 hsl105 hS
                refine SatL.pu (RunV.assign rfl) rfl ?_
                refine SatL.nil (SatE.thenC ?_)
                refine SatC.exit (SatE.blk_other rfl (SatE.then_exit (SatE.then_exit (SatE.blk_exit (SatE.blk_normal (SatE.thenC ?_))))))
                refine SatC.weak (e' := [(0, _), (2, _), (8, _), (67, _), (68, _), (69, _)]) (by repeat constructor) ?_
                refine SatC.region ?_
                refine SatL.pu (RunV.add rfl rfl (by first | exact wrapI64 (by omega) | rfl)) rfl ?_
                refine SatL.pu (RunV.move rfl) rfl ?_
                refine SatL.nil ?_
                refine SatE.again ((i + 1, aRem S2 y, gl ++ [y], v105, B105, L3)) ?_ (by first | omega | (dsimp only; omega)) (by repeat constructor)
                refine ⟨by omega, by rw [List.length_append, List.length_singleton]; omega, by rw [List.map_append]; exact hsl105, hL3, ?_, hS.sel (by repeat constructor)⟩
                rw [gone1_y hzm (by assumption) (by assumption)] at hfo
                exact hfo
              · (try simp only [cx, ne_eq] at h7)
                try (exfalso; (first | omega | exact h7 trivial | contradiction | (first | omega | (simp at h7; done))); done)
                all_goals
                refine SatC.skip (SatE.blk_normal (SatE.thenC ?_))
                refine SatC.region ?_
                refine SatL.pu (RunV.add rfl rfl (by first | exact wrapI64 (by omega) | rfl)) rfl ?_
                refine SatL.pu (RunV.move rfl) rfl ?_
                refine SatL.nil ?_
                refine SatE.again (j + 1) ?_ (by first | omega | (dsimp only; omega)) (by repeat constructor)
                refine ⟨by omega, hnx (fun h => ?_), hS.sel (by repeat constructor)⟩
                have ha := h.1
                have hb := h.2
                clear hS
                simp_all
            · (try simp only [cx, ne_eq] at h6)
              try (exfalso; (first | omega | exact h6 trivial | contradiction | (first | omega | (simp at h6; done))); done)
              all_goals
              refine SatL.guard_n rfl rfl rfl rfl ?_
              refine SatL.guard_n rfl rfl rfl rfl ?_
              refine SatL.pu (RunV.pick_f rfl rfl) rfl ?_
              refine SatL.nil (SatE.thenC ?_)
              refine SatC.weak (e' := [(0, _), (2, _), (8, _), (10, _), (67, _), (68, _), (69, _), (77, _), (78, _), (79, _), (98, _)]) (by repeat constructor) ?_
              refine SatC.cond_f rfl ?_
              refine SatC.skip (SatE.blk_normal (SatE.thenC ?_))
              refine SatC.region ?_
              refine SatL.pu (RunV.add rfl rfl (by first | exact wrapI64 (by omega) | rfl)) rfl ?_
              refine SatL.pu (RunV.move rfl) rfl ?_
              refine SatL.nil ?_
              refine SatE.again (j + 1) ?_ (by first | omega | (dsimp only; omega)) (by repeat constructor)
              refine ⟨by omega, hnx (fun h => ?_), hS.sel (by repeat constructor)⟩
              have ha := h.1
              have hb := h.2
              clear hS
              simp_all
          · (try simp only [cx, ne_eq] at h5)
            try (exfalso; (first | omega | exact h5 trivial | contradiction | (first | omega | (simp at h5; done))); done)
            all_goals
            refine SatC.exit (SatE.then_exit (SatE.then_exit (SatE.blk_exit (SatE.blk_normal (SatE.thenC ?_)))))
            refine SatC.region ?_
            refine SatL.pu (RunV.add rfl rfl (by first | exact wrapI64 (by omega) | rfl)) rfl ?_
            refine SatL.pu (RunV.move rfl) rfl ?_
            refine SatL.nil ?_
            refine SatE.again ((i + 1, S2, gl, gv, GB, LO b S2.node S2.addr ms2 mc2 oS2 oC2 D2)) ?_ (by first | omega | (dsimp only; omega)) (by repeat constructor)
            refine ⟨by omega, by omega, hsg, hw2, ?_, hS.sel (by repeat constructor)⟩
            rw [List.take_of_length_le (by omega)] at hno
            rw [gone1_n (fun c hc => hno c hc (hja c hc))] at hfo
            exact hfo
        · (try simp only [cx, ne_eq] at h4)
          try (exfalso; (first | omega | exact h4 trivial | contradiction | (first | omega | (simp at h4; done))); done)
          all_goals
          refine SatC.exit (SatE.then_exit (SatE.then_exit (SatE.blk_exit (SatE.thenC ?_))))
          refine SatC.seq ?_
          refine SatC.region ?_
          refine SatL.pu (RunV.move rfl) rfl ?_
          refine SatL.pu (RunV.assign rfl) rfl ?_
          refine SatL.nil (SatE.thenC ?_)
          refine SatC.ret ?_
          refine SatE.ret1 rfl rfl ?_
          rw [List.drop_of_length_le (by omega)] at hfo
          subst hfo
          exact ⟨GB, L2, hsg, hAg, hS.sel (by repeat constructor)⟩
end
end Go.Proofs.Ytbnkcagcfbpiiaa
set_option linter.unusedSimpArgs false
set_option linter.unusedVariables false
set_option maxRecDepth 100000
set_option maxHeartbeats 4000000
namespace Go.Proofs.Ytbnkcagcfbpiiaa
open Go.RowKit
section
variable {b : Nat} {S : Lc} {L : List (Nat × Obj)} {w : World}
theorem add_ok (sn port mk ix : Int) (id name : List UInt8) (tags : List (List UInt8)) (v : Value) (he : addE S id name tags port = 0) (hra : RdA w v 1 (tags.map rs) (L.map Prod.fst)) (hv1 : v.oneCell' = true) (h : Agt b S L) (hown : Own w L) :
    Ret Try.prog 24 #[.pointer (some ⟨b, 0, none⟩), .agg #[.int .i64 sn, str id, str name, v, .int .i64 port, .int .u64 mk, .int .u64 ix]] w fun u w' => u = .int .i64 0 ∧ ∃ tv B L', Agt b (aAdd S ⟨id, name, tags, port, tv, B⟩) L' ∧ St w (L.map Prod.fst) L' w' :=
  (add_d sn port mk ix id name tags v hra hv1 h hown).mono fun u w' ⟨h1, S', L', h2, _, h3, h4⟩ => by
    obtain ⟨tv, B, rfl⟩ := h2 he
    exact ⟨by rw [h1, he], tv, B, L', h3, h4⟩
theorem addc_ok (cn st mk ix : Int) (id sv note : List UInt8) (p : Pl) (hp : Pok p) (he : addCE S id sv note p = 0) (hnl : note.length ≤ 9223372036854775807) (h : Agt b S L) (hown : Own w L) :
    Ret Try.prog 16 #[.pointer (some ⟨b, 0, none⟩), .agg #[.int .i64 cn, str id, str sv, str note, .int .i64 st, .int .u64 mk, .int .u64 ix], .agg (plc p).toArray] w fun u w' => u = .int .i64 0 ∧ ∃ hb L', Agt b (aAddC S ⟨id, sv, note, hb, ck0 p⟩) L' ∧ St w (L.map Prod.fst) L' w' :=
  (addc_yes cn st mk ix id sv note p hp hnl h hown).mono fun u w' ⟨h1, S', L', h2, _, h3, h4⟩ => by
    obtain ⟨hb, rfl⟩ := h2 he
    exact ⟨by rw [h1, he], hb, L', h3, h4⟩
end
theorem addCE_0 {S : Lc} {id sv note : List UInt8} {p : Pl} (h1 : okN id = true) (h2 : okN sv = true) (h3 : note.length ≤ 32) (h4 : ¬ gt Sv.id S.sv sv = none) (h5 : Pok p) (h6 : ¬ (gt Ch.id S.ch id = none ∧ 16 ≤ S.ch.length)) : addCE S id sv note p = 0 := by
  unfold addCE
  rw [if_neg (fun h => h ⟨h1, .inr h2⟩), if_neg (by omega), if_neg (fun h => h4 h.2), if_neg (fun h => h h5), if_neg h6]
@[reducible] def wS (tv : Value) (B : List (Nat × Obj)) : Sv := ⟨[119, 101, 98, 45, 49], [119, 101, 98], [], 0, tv, B⟩
@[reducible] def wC (hb : Nat) : Ch := ⟨[99], [119, 101, 98, 45, 49], [], hb, ck0 ⟨1, 2, 0, 0, [], 0⟩⟩
@[reducible] def wL (tv : Value) (B : List (Nat × Obj)) (hb : Nat) : Lc := aAddC (aAdd ⟨2, [120], [], []⟩ (wS tv B)) (wC hb)
theorem health_two {b hb : Nat} {tv : Value} {B L : List (Nat × Obj)} {w : World} (h : Agt b (wL tv B hb) L) (hown : Own w L) : Ret Try.prog 22 #[.pointer (some ⟨b, 0, none⟩), str [119, 101, 98, 45, 49]] w fun u w' => u = .int .i64 2 ∧ St w [] [] w' :=
  (health_d [119, 101, 98, 45, 49] h hown).mono fun u w' ⟨h1, h2⟩ => ⟨by
    rw [h1]
    congr 1, h2⟩
theorem services_one {b hb : Nat} {tv : Value} {B L : List (Nat × Obj)} {w : World} (h : Agt b (wL tv B hb) L) (hown : Own w L) : Ret Try.prog 8 #[.pointer (some ⟨b, 0, none⟩)] w fun u w' => ∃ r AB, Sl 30 7 u [svc 2 r] AB ∧ St w [] AB w' :=
  (services_d h hown).mono fun u w' ⟨R, AB, h1, h2, h3, h4⟩ => by
    have hl := congrArg List.length h1
    rw [List.length_map, List.length_map] at hl
    have e : (ordS (wL tv B hb).sv).length = 1 := by
      show ((srt [[119, 101, 98, 45, 49]]).filterMap _).length = 1
      rw [show srt [[119, 101, 98, 45, 49]] = [[119, 101, 98, 45, 49]] from by simp [srt]]
      rfl
    rw [e] at hl
    obtain ⟨r, rfl⟩ := List.length_eq_one_iff.1 hl
    exact ⟨r, AB, h2, h4.sub (List.sublist_append_left _ _)⟩
def web1 : List UInt8 := [119, 101, 98, 45, 49]
theorem w_ok : okN [119, 101, 98, 45, 49] = true ∧ okN [119, 101, 98] = true ∧ okN [99] = true ∧ tagN [] = true := by decide +kernel
theorem w_pok : Pok ⟨1, 2, 0, 0, [], 0⟩ := by decide
theorem works_any (w : World) : Ret Try.prog 12 #[] w fun u w' => u = .bool true ∧ St w [] [] w' := by
  have hS := St.init0 w
  refine Ret.enter Try.func12 Try.ntmps12 rfl rfl ?_
  simp only [argEnv, Nat.reduceAdd]
  refine SatC.seq ?_
  refine SatC.region ?_
  refine SatL.pu (RunV.assign rfl) rfl ?_
  refine SatL.nil (SatE.thenC ?_)
  refine SatC.seq ?_
  refine SatC.region ?_
  refine SatL.op rfl (OpW.enter rfl rfl rfl (rfl) (lnew_any 2 [120] _ (by decide) (by decide)) ?_)
  rintro r1 w1 ⟨b, L1, rfl, hA1, h⟩
  replace hS := hS.callT (A := []) .nil h
  refine SatL.pu (RunV.move rfl) rfl ?_
  refine SatL.pu (RunV.extract rfl rfl) rfl ?_
  refine SatL.pu (RunV.extract rfl rfl) rfl ?_
  refine SatL.pu (RunV.assign rfl) rfl ?_
  refine SatL.pu (RunV.assign rfl) rfl ?_
  refine SatL.nil (SatE.thenC ?_)
  refine SatC.seq ?_
  refine SatC.region ?_
  refine SatL.pu (RunV.move rfl) rfl ?_
  refine SatL.pu (RunV.build rfl (by simp [go_sem]; try rfl)) rfl ?_
  refine SatL.op rfl (OpW.enter rfl rfl rfl (rfl) (add_ok 0 0 0 0 [119, 101, 98, 45, 49] [119, 101, 98] [] (.slice none 0 0) (addE_0 (by decide) ⟨w_ok.1, w_ok.2.1, w_ok.2.2.2⟩ (by decide)) (RdA.nil _ 1 L1 (hS.ownT (A := L1) (by repeat constructor))) rfl hA1 (hS.ownT (A := L1) (by repeat constructor))) ?_)
  rintro r2 w2 ⟨rfl, tv, B, L2, hA2, h⟩
  replace hS := hS.callT (A := L1) (by repeat constructor) h
  refine SatL.pu (RunV.assign rfl) rfl ?_
  refine SatL.nil (SatE.thenC ?_)
  refine SatC.seq ?_
  refine SatC.region ?_
  refine SatL.pu (RunV.move rfl) rfl ?_
  refine SatL.pu (RunV.build rfl (by simp [go_sem]; try rfl)) rfl ?_
  refine SatL.pu (RunV.build rfl (by simp [go_sem]; try rfl)) rfl ?_
  refine SatL.op rfl (OpW.enter rfl rfl rfl (rfl) (addc_ok 0 0 0 0 [99] [119, 101, 98, 45, 49] [] ⟨1, 2, 0, 0, [], 0⟩ w_pok (addCE_0 w_ok.2.2.1 w_ok.1 (by decide) (by simp [aAdd, pt, gt]) w_pok (by simp [aAdd, gt])) (by decide) hA2 (hS.ownT (A := L2) (by repeat constructor))) ?_)
  rintro r3 w3 ⟨rfl, hb, L3, hA3, h⟩
  replace hS := hS.callT (A := L2) (by repeat constructor) h
  refine SatL.pu (RunV.assign rfl) rfl ?_
  refine SatL.nil (SatE.thenC ?_)
  refine SatC.seq ?_
  refine SatC.region ?_
  refine SatL.pu (RunV.move rfl) rfl ?_
  refine SatL.pu (RunV.eql rfl rfl) rfl ?_
  refine SatL.pu (RunV.move rfl) rfl ?_
  refine SatL.guard rfl rfl rfl (fun h1 => ?_) (fun h1 => ?_)
  · (try simp only [cx, ne_eq] at h1)
    try (exfalso; (first | omega | exact h1 trivial | contradiction | (simp at h1; done)); done)
    all_goals
    refine SatL.pu (RunV.move rfl) rfl ?_
    refine SatL.guard_y rfl rfl ?_
    refine SatL.pu (RunV.eql rfl rfl) rfl ?_
    refine SatL.pu (RunV.pick_t rfl rfl) rfl ?_
    refine SatL.pu (RunV.move rfl) rfl ?_
    refine SatL.guard rfl rfl rfl (fun h2 => ?_) (fun h2 => ?_)
    · (try simp only [cx, ne_eq] at h2)
      try (exfalso; (first | omega | exact h2 trivial | contradiction | (simp at h2; done)); done)
      all_goals
      refine SatL.pu (RunV.move rfl) rfl ?_
      refine SatL.guard_y rfl rfl ?_
      refine SatL.pu (RunV.eql rfl rfl) rfl ?_
      refine SatL.pu (RunV.pick_t rfl rfl) rfl ?_
      refine SatL.pu (RunV.move rfl) rfl ?_
      refine SatL.guard rfl rfl rfl (fun h3 => ?_) (fun h3 => ?_)
      · (try simp only [cx, ne_eq] at h3)
        try (exfalso; (first | omega | exact h3 trivial | contradiction | (simp at h3; done)); done)
        all_goals
        refine SatL.pu (RunV.move rfl) rfl ?_
        refine SatL.guard_y rfl rfl ?_
        refine SatL.op rfl (OpW.enter rfl rfl rfl (rfl) (health_two hA3 (hS.ownT (A := L3) (by repeat constructor))) ?_)
        rintro r4 w4 ⟨rfl, h⟩
        replace hS := St.callN hS h
        refine SatL.guard_y rfl rfl ?_
        refine SatL.pu (RunV.eql rfl rfl) rfl ?_
        refine SatL.pu (RunV.pick_t rfl rfl) rfl ?_
        refine SatL.pu (RunV.move rfl) rfl ?_
        refine SatL.guard rfl rfl rfl (fun h4 => ?_) (fun h4 => ?_)
        · (try simp only [cx, ne_eq] at h4)
          try (exfalso; (first | omega | exact h4 trivial | contradiction | (simp at h4; done)); done)
          all_goals
          refine SatL.pu (RunV.move rfl) rfl ?_
          refine SatL.guard_y rfl rfl ?_
          refine SatL.op rfl (OpW.enter rfl rfl rfl (rfl) (services_one hA3 (hS.ownT (A := L3) (by repeat constructor))) ?_)
          rintro r5 w5 ⟨r, AR, hsl, h⟩
          replace hS := hS.callT (A := []) .nil h
          obtain ⟨vc, hv⟩ := hsl.slv
          rw [List.length_singleton] at hv
          refine SatL.guard_y rfl rfl ?_
          first | refine SatL.pu (RunV.lenR (by assumption) rfl rfl) rfl ?_ | refine SatL.pu (RunV.lenS rfl rfl) rfl ?_
          refine SatL.guard_y rfl rfl ?_
          refine SatL.pu (RunV.eql rfl rfl) rfl ?_
          refine SatL.pu (RunV.pick_t rfl rfl) rfl ?_
          refine SatL.pu (RunV.move rfl) rfl ?_
          refine SatL.guard rfl rfl rfl (fun h5 => ?_) (fun h5 => ?_)
          · (try simp only [cx, ne_eq] at h5)
            try (exfalso; (first | omega | exact h5 trivial | contradiction | (simp at h5; done)); done)
            all_goals
            refine SatL.pu (RunV.move rfl) rfl ?_
            refine SatL.guard_y rfl rfl ?_
            refine SatL.op rfl (OpW.enter rfl rfl rfl (rfl) (services_one hA3 (hS.ownT (A := L3) (by repeat constructor))) ?_)
            rintro r6 w6 ⟨r2, AR2, hsl2, h⟩
            replace hS := hS.callT (A := []) .nil h
            obtain ⟨vc2, hv2⟩ := hsl2.slv
            rw [List.length_singleton] at hv2
            refine SatL.guard_y rfl rfl ?_
            first | refine SatL.pu (RunV.indexR (by assumption) rfl rfl rfl (by omega) (by omega) rfl) rfl ?_ | refine SatL.pu (RunV.indexS rfl rfl rfl (by omega) (by omega) rfl) rfl ?_
            refine SatL.guard_y rfl rfl ?_
            first | refine SatL.pu (RunV.fieldAddrL rfl rfl rfl) rfl ?_ | refine SatL.pu (RunV.fieldAddr rfl rfl rfl) rfl ?_
            refine SatL.guard_y rfl rfl ?_
            refine SatL.pu (RunV.loadR1g 0 0 (Sl.rd hsl2 hS (by repeat constructor)) rfl rfl (by omega) rfl rfl) rfl ?_
            refine SatL.guard_y rfl rfl ?_
            refine SatL.pu (RunV.eql rfl rfl) rfl ?_
            refine SatL.pu (RunV.pick_t rfl rfl) rfl ?_
            refine SatL.pu (RunV.assign rfl) rfl ?_
            refine SatL.nil (SatE.thenC ?_)
            refine SatC.ret ?_
            refine SatE.ret1 rfl rfl ?_
            exact ⟨rfl, hS.sel (by repeat constructor)⟩
          · (try simp only [cx, ne_eq] at h5)
            try (exfalso; (first | omega | exact h5 trivial | contradiction | (simp at h5; done)); done)
            all_goals
            refine SatL.guard_n rfl rfl rfl rfl ?_
            refine SatL.guard_n rfl rfl rfl rfl ?_
            refine SatL.guard_n rfl rfl rfl rfl ?_
            refine SatL.guard_n rfl rfl rfl rfl ?_
            refine SatL.guard_n rfl rfl rfl rfl ?_
            refine SatL.pu (RunV.pick_f rfl rfl) rfl ?_
            refine SatL.pu (RunV.assign rfl) rfl ?_
            refine SatL.nil (SatE.thenC ?_)
            refine SatC.ret ?_
            refine SatE.ret1 rfl rfl ?_
            exact ⟨rfl, hS.sel (by repeat constructor)⟩
        · (try simp only [cx, ne_eq] at h4)
          try (exfalso; (first | omega | exact h4 trivial | contradiction | (simp at h4; done)); done)
          all_goals
          refine SatL.guard_n rfl rfl rfl rfl ?_
          refine SatL.guard_n rfl rfl rfl rfl ?_
          refine SatL.guard_n rfl rfl rfl rfl ?_
          refine SatL.pu (RunV.pick_f rfl rfl) rfl ?_
          refine SatL.pu (RunV.move rfl) rfl ?_
          refine SatL.guard_n rfl rfl rfl rfl ?_
          refine SatL.guard_n rfl rfl rfl rfl ?_
          refine SatL.guard_n rfl rfl rfl rfl ?_
          refine SatL.guard_n rfl rfl rfl rfl ?_
          refine SatL.guard_n rfl rfl rfl rfl ?_
          refine SatL.guard_n rfl rfl rfl rfl ?_
          refine SatL.pu (RunV.pick_f rfl rfl) rfl ?_
          refine SatL.pu (RunV.assign rfl) rfl ?_
          refine SatL.nil (SatE.thenC ?_)
          refine SatC.ret ?_
          refine SatE.ret1 rfl rfl ?_
          exact ⟨rfl, hS.sel (by repeat constructor)⟩
      · (try simp only [cx, ne_eq] at h3)
        try (exfalso; (first | omega | exact h3 trivial | contradiction | (simp at h3; done)); done)
        all_goals
        refine SatL.guard_n rfl rfl rfl rfl ?_
        refine SatL.guard_n rfl rfl rfl rfl ?_
        refine SatL.pu (RunV.pick_f rfl rfl) rfl ?_
        refine SatL.pu (RunV.move rfl) rfl ?_
        refine SatL.guard_n rfl rfl rfl rfl ?_
        refine SatL.guard_n rfl rfl rfl rfl ?_
        refine SatL.guard_n rfl rfl rfl rfl ?_
        refine SatL.guard_n rfl rfl rfl rfl ?_
        refine SatL.pu (RunV.pick_f rfl rfl) rfl ?_
        refine SatL.pu (RunV.move rfl) rfl ?_
        refine SatL.guard_n rfl rfl rfl rfl ?_
        refine SatL.guard_n rfl rfl rfl rfl ?_
        refine SatL.guard_n rfl rfl rfl rfl ?_
        refine SatL.guard_n rfl rfl rfl rfl ?_
        refine SatL.guard_n rfl rfl rfl rfl ?_
        refine SatL.guard_n rfl rfl rfl rfl ?_
        refine SatL.pu (RunV.pick_f rfl rfl) rfl ?_
        refine SatL.pu (RunV.assign rfl) rfl ?_
        refine SatL.nil (SatE.thenC ?_)
        refine SatC.ret ?_
        refine SatE.ret1 rfl rfl ?_
        exact ⟨rfl, hS.sel (by repeat constructor)⟩
    · (try simp only [cx, ne_eq] at h2)
      try (exfalso; (first | omega | exact h2 trivial | contradiction | (simp at h2; done)); done)
      all_goals
      refine SatL.guard_n rfl rfl rfl rfl ?_
      refine SatL.pu (RunV.pick_f rfl rfl) rfl ?_
      refine SatL.pu (RunV.move rfl) rfl ?_
      refine SatL.guard_n rfl rfl rfl rfl ?_
      refine SatL.guard_n rfl rfl rfl rfl ?_
      refine SatL.guard_n rfl rfl rfl rfl ?_
      refine SatL.pu (RunV.pick_f rfl rfl) rfl ?_
      refine SatL.pu (RunV.move rfl) rfl ?_
      refine SatL.guard_n rfl rfl rfl rfl ?_
      refine SatL.guard_n rfl rfl rfl rfl ?_
      refine SatL.guard_n rfl rfl rfl rfl ?_
      refine SatL.guard_n rfl rfl rfl rfl ?_
      refine SatL.pu (RunV.pick_f rfl rfl) rfl ?_
      refine SatL.pu (RunV.move rfl) rfl ?_
      refine SatL.guard_n rfl rfl rfl rfl ?_
      refine SatL.guard_n rfl rfl rfl rfl ?_
      refine SatL.guard_n rfl rfl rfl rfl ?_
      refine SatL.guard_n rfl rfl rfl rfl ?_
      refine SatL.guard_n rfl rfl rfl rfl ?_
      refine SatL.guard_n rfl rfl rfl rfl ?_
      refine SatL.pu (RunV.pick_f rfl rfl) rfl ?_
      refine SatL.pu (RunV.assign rfl) rfl ?_
      refine SatL.nil (SatE.thenC ?_)
      refine SatC.ret ?_
      refine SatE.ret1 rfl rfl ?_
      exact ⟨rfl, hS.sel (by repeat constructor)⟩
  · (try simp only [cx, ne_eq] at h1)
    try (exfalso; (first | omega | exact h1 trivial | contradiction | (simp at h1; done)); done)
    all_goals
    refine SatL.guard_n rfl rfl rfl rfl ?_
    refine SatL.pu (RunV.pick_f rfl rfl) rfl ?_
    refine SatL.pu (RunV.move rfl) rfl ?_
    refine SatL.guard_n rfl rfl rfl rfl ?_
    refine SatL.guard_n rfl rfl rfl rfl ?_
    refine SatL.pu (RunV.pick_f rfl rfl) rfl ?_
    refine SatL.pu (RunV.move rfl) rfl ?_
    refine SatL.guard_n rfl rfl rfl rfl ?_
    refine SatL.guard_n rfl rfl rfl rfl ?_
    refine SatL.guard_n rfl rfl rfl rfl ?_
    refine SatL.pu (RunV.pick_f rfl rfl) rfl ?_
    refine SatL.pu (RunV.move rfl) rfl ?_
    refine SatL.guard_n rfl rfl rfl rfl ?_
    refine SatL.guard_n rfl rfl rfl rfl ?_
    refine SatL.guard_n rfl rfl rfl rfl ?_
    refine SatL.guard_n rfl rfl rfl rfl ?_
    refine SatL.pu (RunV.pick_f rfl rfl) rfl ?_
    refine SatL.pu (RunV.move rfl) rfl ?_
    refine SatL.guard_n rfl rfl rfl rfl ?_
    refine SatL.guard_n rfl rfl rfl rfl ?_
    refine SatL.guard_n rfl rfl rfl rfl ?_
    refine SatL.guard_n rfl rfl rfl rfl ?_
    refine SatL.guard_n rfl rfl rfl rfl ?_
    refine SatL.guard_n rfl rfl rfl rfl ?_
    refine SatL.pu (RunV.pick_f rfl rfl) rfl ?_
    refine SatL.pu (RunV.assign rfl) rfl ?_
    refine SatL.nil (SatE.thenC ?_)
    refine SatC.ret ?_
    refine SatE.ret1 rfl rfl ?_
    exact ⟨rfl, hS.sel (by repeat constructor)⟩
end Go.Proofs.Ytbnkcagcfbpiiaa
