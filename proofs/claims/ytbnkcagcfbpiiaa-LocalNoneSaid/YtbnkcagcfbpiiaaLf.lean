/- worst, Health. -/
import Derived.Test.YtbnkcagcfbpiiaaLe
set_option linter.unusedSimpArgs false
set_option linter.unusedVariables false
set_option maxRecDepth 100000
set_option maxHeartbeats 4000000
namespace Go.Proofs.Ytbnkcagcfbpiiaa
open Go.RowKit
/-- The greatest status of a service's checks and the node's, of which a question says yes. -/
def wrst (yes : Ch → Bool) (sv : List UInt8) : List Ch → Int
  | [] => 0
  | c :: l => if (c.svc = [] ∨ c.svc = sv) ∧ yes c = true then max (stat c.h) (wrst yes sv l) else wrst yes sv l
theorem wrst_nn (yes : Ch → Bool) (sv : List UInt8) (l : List Ch) : 0 ≤ wrst yes sv l := by
  induction l with
  | nil => exact Int.le_refl _
  | cons c l ih => unfold wrst; split <;> omega
theorem wrst_perm {yes : Ch → Bool} {sv : List UInt8} {l l' : List Ch} (h : l.Perm l') : wrst yes sv l = wrst yes sv l' := by
  induction h with
  | nil => rfl
  | cons x _ ih => unfold wrst; rw [ih]
  | swap x y l => simp only [wrst]; split <;> split <;> omega
  | trans _ _ h1 h2 => exact h1.trans h2
theorem wrst_y {yes : Ch → Bool} {sv : List UInt8} {c : Ch} {l : List Ch} (h : (c.svc = [] ∨ c.svc = sv) ∧ yes c = true) : wrst yes sv (c :: l) = max (stat c.h) (wrst yes sv l) := if_pos h
theorem wrst_n {yes : Ch → Bool} {sv : List UInt8} {c : Ch} {l : List Ch} (h : ¬ ((c.svc = [] ∨ c.svc = sv) ∧ yes c = true)) : wrst yes sv (c :: l) = wrst yes sv l := if_neg h
theorem own1 {w0 w : World} {X : List Nat} {L : List (Nat × Obj)} {p : Nat × Obj} (hS : St w0 X L w) (h : p ∈ L) : Own w [p] := ⟨fun q hq => by rw [List.mem_singleton.1 hq]; exact hS.own p h, by simp⟩
theorem kv_get {n : Int} {lf : List Ch} {i : Nat} {p : List UInt8 × Value} (h : (ckv n lf)[i]? = some p) : ∃ c, lf[i]? = some c ∧ p = (c.id, .agg (chv n c).toArray) := by
  simp only [ckv, kvs, List.getElem?_map, Option.map_eq_some_iff] at h
  obtain ⟨c, h1, rfl⟩ := h
  exact ⟨c, h1, rfl⟩
theorem kv_erase {n : Int} {lf : List Ch} {i : Nat} : (ckv n lf).eraseIdx i = ckv n (lf.eraseIdx i) := by
  simp only [ckv, kvs, List.eraseIdx_eq_take_drop_succ, List.map_append, List.map_take, List.map_drop]
def isAl (c : Ch) : Bool := decide (c.h.p.kind = 3)
theorem alias_any (n : Int) (c : Ch) (w : World) (hk : ¬ c.h.p.kind = 0) (hown : Own w [hblk c]) : Ret Try.prog 32 #[.agg (chv n c).toArray] w fun v w' => v = .bool (isAl c) ∧ St w [] [] w' := by
  unfold hblk at hown
  have hS := St.init hown
  simp only [List.map_cons, List.map_nil] at hS
  have hro : ∀ {L w'}, St w [c.hb] (L ++ [(c.hb, C 108 (hc (fv c.h) c.h))]) w' → St w [] L w' := fun h => St.roL hown (by simpa only [List.map_cons, List.map_nil] using h.perm List.perm_append_comm) .here
  refine Ret.enter Try.func32 Try.ntmps32 rfl rfl ?_
  simp only [argEnv, Nat.reduceAdd]
  refine SatC.seq ?_
  refine SatC.region ?_
  refine SatL.op rfl (OpW.box hS rfl rfl (by repeat constructor) ?_)
  clear hS
  intro b1 w1 _ hS
  refine SatL.pu (RunV.assign rfl) rfl ?_
  refine SatL.nil (SatE.thenC ?_)
  refine SatC.seq ?_
  refine SatC.region ?_
  first | refine SatL.pu (RunV.fieldAddrL rfl rfl rfl) rfl ?_ | refine SatL.pu (RunV.fieldAddr rfl rfl rfl) rfl ?_
  refine SatL.pu (RunV.load1 hS rfl rfl (by repeat constructor) rfl) rfl ?_
  refine SatL.op rfl (OpW.enter rfl rfl rfl (rfl) (plan_any (hS.ownT (A := [(c.hb, C 108 (hc (fv c.h) c.h))]) (by repeat constructor)) hk) ?_)
  rintro r2 w2 ⟨rfl, h⟩
  replace hS := St.callN hS h
  refine SatL.pu (RunV.field1 rfl rfl rfl rfl) rfl ?_
  refine SatL.pu (RunV.eql rfl rfl) rfl ?_
  refine SatL.pu (RunV.assign rfl) rfl ?_
  refine SatL.nil (SatE.thenC ?_)
  refine SatC.ret ?_
  refine SatE.ret1 rfl rfl ?_
  exact ⟨rfl, hro (L := []) (hS.sel (by repeat constructor))⟩
theorem yesH_any (n : Int) (c : Ch) (w : World) : Ret Try.prog 57 #[.agg (chv n c).toArray] w fun v w' => v = .bool true ∧ St w [] [] w' := by
  have hS := St.init0 w
  refine Ret.enter Try.func57 Try.ntmps57 rfl rfl ?_
  simp only [argEnv, Nat.reduceAdd]
  refine SatC.seq ?_
  refine SatC.region ?_
  refine SatL.op rfl (OpW.box hS rfl rfl (by repeat constructor) ?_)
  clear hS
  intro b1 w1 _ hS
  refine SatL.pu (RunV.assign rfl) rfl ?_
  refine SatL.nil (SatE.thenC ?_)
  refine SatC.seq ?_
  refine SatC.region ?_
  refine SatL.pu (RunV.assign rfl) rfl ?_
  refine SatL.nil (SatE.thenC ?_)
  refine SatC.ret ?_
  refine SatE.ret1 rfl rfl ?_
  exact ⟨rfl, hS.sub (List.nil_sublist _)⟩
theorem yesT_any (n : Int) (c : Ch) (w : World) (hk : ¬ c.h.p.kind = 0) (hown : Own w [hblk c]) : Ret Try.prog 36 #[.agg (chv n c).toArray] w fun v w' => v = .bool (!isAl c) ∧ St w [] [] w' := by
  have hS := St.init hown
  have hro : ∀ {L w'}, St w [c.hb] (L ++ [hblk c]) w' → St w [] L w' := fun h => St.roL hown (h.perm List.perm_append_comm) .here
  simp only [List.map_cons, List.map_nil] at hS
  refine Ret.enter Try.func36 Try.ntmps36 rfl rfl ?_
  simp only [argEnv, Nat.reduceAdd]
  refine SatC.seq ?_
  refine SatC.region ?_
  refine SatL.op rfl (OpW.box hS rfl rfl (by repeat constructor) ?_)
  clear hS
  intro b1 w1 _ hS
  refine SatL.pu (RunV.assign rfl) rfl ?_
  refine SatL.nil (SatE.thenC ?_)
  refine SatC.seq ?_
  refine SatC.region ?_
  refine SatL.pu (RunV.loadN hS rfl rfl (by repeat constructor) (by repeat constructor)) rfl ?_
  refine SatL.op rfl (OpW.enter rfl rfl rfl (rfl) (alias_any n c _ hk (hS.ownT (A := [hblk c]) (by repeat constructor))) ?_)
  rintro r2 w2 ⟨rfl, h⟩
  replace hS := St.callN hS h
  refine SatL.pu (RunV.not rfl) rfl ?_
  refine SatL.pu (RunV.assign rfl) rfl ?_
  refine SatL.nil (SatE.thenC ?_)
  refine SatC.ret ?_
  refine SatE.ret1 rfl rfl ?_
  exact ⟨rfl, hro (L := []) (hS.sel (by repeat constructor))⟩
section
variable {b : Nat} {S : Lc} {L : List (Nat × Obj)} {w : World}
theorem worst_d {f : FuncId} (yes : Ch → Bool) (sv : List UInt8) (hf : enters Try.prog f = true) (hy : ∀ c ∈ S.ch, ∀ w, Own w [hblk c] → Ret Try.prog f #[.agg (chv S.node c).toArray] w fun v w' => v = .bool (yes c) ∧ St w [] [] w') (h : Agt b S L) (hown : Own w L) :
    Ret Try.prog 34 #[.pointer (some ⟨b, 0, none⟩), str sv, .func (.func f) #[] #[]] w fun u w' => u = .int .i64 (wrst yes sv S.ch) ∧ St w [] [] w' := by
  obtain ⟨hs16, hc16, hsu, hcu, htg, hck, ms, mc, oS, oC, hmS, hmC, rfl⟩ := h
  have hS := St.init hown
  have hcD : ∀ c ∈ S.ch, hblk c ∈ tbl S.sv ++ S.ch.map hblk := fun c hc => List.mem_append_right _ (List.mem_map_of_mem hc)
  generalize (tbl S.sv ++ S.ch.map hblk) = D at hS hown hcD
  generalize hX : (LO b S.node S.addr ms mc oS oC D).map Prod.fst = X at hS
  have hro : ∀ {L w'}, St w X (L ++ LO b S.node S.addr ms mc oS oC D) w' → St w [] L w' := fun h => St.roL hown (by rw [hX]; exact h.perm List.perm_append_comm) .here
  have hnn := wrst_nn yes sv S.ch
  refine Ret.enter Try.func34 Try.ntmps34 rfl rfl ?_
  simp only [argEnv, Nat.reduceAdd]
  refine SatC.seq ?_
  refine SatC.region ?_
  refine SatL.pu (RunV.assign rfl) rfl ?_
  refine SatL.nil (SatE.thenC ?_)
  refine SatC.seq ?_
  refine SatC.region ?_
  refine SatL.pu (RunV.assign rfl) rfl ?_
  refine SatL.nil (SatE.thenC ?_)
  refine SatC.seq ?_
  refine SatC.seq ?_
  refine SatC.region ?_
  refine SatL.pu (RunV.move rfl) rfl ?_
  first | refine SatL.pu (RunV.nil_ptr rfl) rfl ?_ | refine SatL.pu (RunV.nil_func rfl) rfl ?_ | refine SatL.pu (RunV.nil_yield rfl) rfl ?_
  first | refine SatL.pu (RunV.fieldAddrL rfl rfl rfl) rfl ?_ | refine SatL.pu (RunV.fieldAddr rfl rfl rfl) rfl ?_
  refine SatL.pu (RunV.load1 hS rfl rfl (by repeat constructor) rfl) rfl ?_
  refine SatL.op rfl (OpW.rangeM hS rfl rfl (by repeat constructor) hmC rfl ?_)
  clear hS
  intro b14 ro14 w1 _ hit hS
  refine SatL.nil (SatE.thenC ?_)
  refine SatC.block ?_
  refine SatC.loopK (G := List Ch × Int × Obj × Option (List UInt8 × Value)) (V := fun ⟨lf, wv, ro, cur⟩ => [(7, .int .i64 wv)]) (Cn := [(1, _), (2, _), (6, _), (14, _)]) (I := fun ⟨lf, wv, ro, cur⟩ w' => It str mc ro oC (ckv S.node lf) cur ∧ (∀ c ∈ lf, c ∈ S.ch) ∧ 0 ≤ wv ∧ max wv (wrst yes sv lf) = wrst yes sv S.ch ∧ St w X ((b14, ro) :: LO b S.node S.addr ms mc oS oC D) w') (μ := fun ⟨lf, wv, ro, cur⟩ => lf.length) (S.ch, 0, ro14, none) ?_ (by repeat constructor) ?_
  · exact ⟨hit, fun c h => h, by omega, by omega, hS⟩
  clear hS
  rintro ⟨lf, wv, ro, cur⟩ w2 ⟨hit, hsub, hw0, hmx, hS⟩
  refine SatC.weak (e' := [(1, _), (2, _), (6, _), (7, _), (14, _)]) (by repeat constructor) ?_
  refine SatC.seq ?_
  refine SatC.region ?_
  refine SatL.op rfl (OpW.nextM hS rfl (by repeat constructor) hit _ (fun ro' => by repeat constructor) rfl ?_ ?_)
  · skip
    intro hnil
    refine SatL.pu (RunV.extract rfl rfl) rfl ?_
    refine SatL.nil (SatE.thenC ?_)
    refine SatC.seq ?_
    refine SatC.cond_f rfl ?_
    refine SatC.exit (SatE.then_exit (SatE.then_exit (SatE.blk_exit (SatE.thenC ?_))))
    refine SatC.seq ?_
    refine SatC.region ?_
    refine SatL.pu (RunV.move rfl) rfl ?_
    refine SatL.pu (RunV.assign rfl) rfl ?_
    refine SatL.nil (SatE.thenC ?_)
    refine SatC.ret ?_
    refine SatE.ret1 rfl rfl ?_
    obtain rfl : lf = [] := by simpa [ckv, kvs] using hnil
    refine ⟨congrArg _ ?_, hro (L := []) (hS.sel (by repeat constructor))⟩
    rw [wrst] at hmx
    omega
  · skip
    clear hS
    intro i15 p15 ro15 w3 hget hit2 hS
    obtain ⟨c, hgc, rfl⟩ := kv_get hget
    rw [kv_erase] at hit2
    refine SatL.pu (RunV.extract rfl rfl) rfl ?_
    refine SatL.nil (SatE.thenC ?_)
    refine SatC.seq ?_
    refine SatC.cond_t rfl ?_
    refine SatC.skip (SatE.thenC ?_)
    refine SatC.block ?_
    refine SatC.seq ?_
    refine SatC.region ?_
    refine SatL.pu (RunV.entryM hS rfl (by repeat constructor) (by repeat constructor) hit2) rfl ?_
    refine SatL.pu (RunV.extract rfl rfl) rfl ?_
    refine SatL.op rfl (OpW.alloc hS rfl rfl (by repeat constructor) ?_)
    clear hS
    intro b9 w4 _ hS
    refine SatL.op rfl (OpW.store hS rfl rfl (by repeat constructor) (by repeat constructor) (by repeat constructor) rfl rfl ?_)
    clear hS
    intro w5 hS
    refine SatL.nil (SatE.thenC ?_)
    refine SatC.seq ?_
    have hcm := hsub c (List.mem_of_getElem? hgc)
    have hpm := erase_perm hgc
    have hpl := hpm.length_eq
    rw [List.length_cons] at hpl
    rw [wrst_perm hpm] at hmx
    have hsub2 : ∀ d ∈ lf.eraseIdx i15, d ∈ S.ch := fun d hd => hsub d ((List.eraseIdx_sublist ..).subset hd)
    refine SatC.region ?_
    first | refine SatL.pu (RunV.fieldAddrL rfl rfl rfl) rfl ?_ | refine SatL.pu (RunV.fieldAddr rfl rfl rfl) rfl ?_
    first | refine SatL.pu (RunV.fieldAddrL rfl rfl rfl) rfl ?_ | refine SatL.pu (RunV.fieldAddr rfl rfl rfl) rfl ?_
    refine SatL.pu (RunV.load1 hS rfl rfl (by repeat constructor) rfl) rfl ?_
    refine SatL.pu (RunV.seql rfl rfl) rfl ?_
    refine SatL.pu (RunV.move rfl) rfl ?_
    refine SatL.guard rfl rfl rfl (fun h1 => ?_) (fun h1 => ?_)
    · (try simp only [cx, ne_eq] at h1)
      try (exfalso; (first | omega | exact h1 trivial | contradiction | (first | omega | (simp at h1; done))); done)
      all_goals
      first | refine SatL.pu (RunV.fieldAddrL rfl rfl rfl) rfl ?_ | refine SatL.pu (RunV.fieldAddr rfl rfl rfl) rfl ?_
      refine SatL.guard_y rfl rfl ?_
      first | refine SatL.pu (RunV.fieldAddrL rfl rfl rfl) rfl ?_ | refine SatL.pu (RunV.fieldAddr rfl rfl rfl) rfl ?_
      refine SatL.guard_y rfl rfl ?_
      refine SatL.pu (RunV.load1 hS rfl rfl (by repeat constructor) rfl) rfl ?_
      refine SatL.guard_y rfl rfl ?_
      refine SatL.pu (RunV.move rfl) rfl ?_
      refine SatL.guard_y rfl rfl ?_
      refine SatL.pu (RunV.seql rfl rfl) rfl ?_
      refine SatL.pu (RunV.pick_f rfl rfl) rfl ?_
      refine SatL.pu (RunV.move rfl) rfl ?_
      refine SatL.guard rfl rfl rfl (fun h2 => ?_) (fun h2 => ?_)
      · (try simp only [cx, ne_eq] at h2)
        try (exfalso; (first | omega | exact h2 trivial | contradiction | (first | omega | (simp at h2; done))); done)
        all_goals
        refine SatL.pu (RunV.move rfl) rfl ?_
        refine SatL.guard_y rfl rfl ?_
        refine SatL.pu (RunV.loadN hS rfl rfl (by repeat constructor) (by repeat constructor)) rfl ?_
        refine SatL.guard_y rfl rfl ?_
        refine SatL.op rfl (OpW.enter rfl rfl rfl (hf) (hy c hcm _ (own1 hS (by simp [hcD c hcm]))) ?_)
        rintro r6 w6 ⟨rfl, h⟩
        replace hS := St.callN hS h
        refine SatL.pu (RunV.pick_t rfl rfl) rfl ?_
        refine SatL.nil (SatE.thenC ?_)
        refine SatC.weak (e' := [(1, _), (2, _), (6, _), (7, _), (9, _), (14, _), (34, _)]) (by repeat constructor) ?_
        refine SatC.cond rfl (fun h3 => ?_) (fun h3 => ?_)
        · (try simp only [cx, ne_eq] at h3)
          try (exfalso; (first | omega | exact h3 trivial | contradiction | (first | omega | (simp at h3; done))); done)
          all_goals
          refine SatC.region ?_
          refine SatL.pu (RunV.move rfl) rfl ?_
          first | refine SatL.pu (RunV.fieldAddrL rfl rfl rfl) rfl ?_ | refine SatL.pu (RunV.fieldAddr rfl rfl rfl) rfl ?_
          refine SatL.pu (RunV.load1 hS rfl rfl (by repeat constructor) rfl) rfl ?_
          refine SatL.op rfl (OpW.enter rfl rfl rfl (rfl) (stat_any (c := c.h) (own1 (p := hblk c) hS (by simp [hcD c hcm])) (hck c hcm)) ?_)
          rintro r7 w7 ⟨rfl, h⟩
          replace hS := St.callN hS h
          refine SatL.pu (RunV.max2 rfl rfl) rfl ?_
          refine SatL.pu (RunV.assign rfl) rfl ?_
          refine SatL.nil (SatE.blk_normal ?_)
          by_cases hd : (c.svc = [] ∨ c.svc = sv) ∧ yes c = true
          · rw [wrst_y hd] at hmx
            first
            | (exfalso; clear hS hit hit2 hro; simp_all; done)
            | exact SatE.again (lf.eraseIdx i15, max wv (stat c.h), ro15, some (c.id, .agg (chv S.node c).toArray)) ⟨hit2, hsub2, by omega, by omega, hS.sel (by repeat constructor)⟩ (by dsimp only; omega) (by repeat constructor)
          · rw [wrst_n hd] at hmx
            first
            | (exfalso; clear hS hit hit2 hro; simp_all; done)
            | exact SatE.again (lf.eraseIdx i15, wv, ro15, some (c.id, .agg (chv S.node c).toArray)) ⟨hit2, hsub2, by omega, by omega, hS.sel (by repeat constructor)⟩ (by dsimp only; omega) (by repeat constructor)
        · (try simp only [cx, ne_eq] at h3)
          try (exfalso; (first | omega | exact h3 trivial | contradiction | (first | omega | (simp at h3; done))); done)
          all_goals
          refine SatC.skip (SatE.blk_normal ?_)
          by_cases hd : (c.svc = [] ∨ c.svc = sv) ∧ yes c = true
          · rw [wrst_y hd] at hmx
            first
            | (exfalso; clear hS hit hit2 hro; simp_all; done)
            | exact SatE.again (lf.eraseIdx i15, max wv (stat c.h), ro15, some (c.id, .agg (chv S.node c).toArray)) ⟨hit2, hsub2, by omega, by omega, hS.sel (by repeat constructor)⟩ (by dsimp only; omega) (by repeat constructor)
          · rw [wrst_n hd] at hmx
            first
            | (exfalso; clear hS hit hit2 hro; simp_all; done)
            | exact SatE.again (lf.eraseIdx i15, wv, ro15, some (c.id, .agg (chv S.node c).toArray)) ⟨hit2, hsub2, by omega, by omega, hS.sel (by repeat constructor)⟩ (by dsimp only; omega) (by repeat constructor)
      · (try simp only [cx, ne_eq] at h2)
        try (exfalso; (first | omega | exact h2 trivial | contradiction | (first | omega | (simp at h2; done))); done)
        all_goals
        refine SatL.guard_n rfl rfl rfl rfl ?_
        refine SatL.guard_n rfl rfl rfl rfl ?_
        refine SatL.pu (RunV.pick_f rfl rfl) rfl ?_
        refine SatL.nil (SatE.thenC ?_)
        refine SatC.weak (e' := [(1, _), (2, _), (6, _), (7, _), (9, _), (14, _), (34, _)]) (by repeat constructor) ?_
        refine SatC.cond_f rfl ?_
        refine SatC.skip (SatE.blk_normal ?_)
        by_cases hd : (c.svc = [] ∨ c.svc = sv) ∧ yes c = true
        · rw [wrst_y hd] at hmx
          first
          | (exfalso; clear hS hit hit2 hro; simp_all; done)
          | exact SatE.again (lf.eraseIdx i15, max wv (stat c.h), ro15, some (c.id, .agg (chv S.node c).toArray)) ⟨hit2, hsub2, by omega, by omega, hS.sel (by repeat constructor)⟩ (by dsimp only; omega) (by repeat constructor)
        · rw [wrst_n hd] at hmx
          first
          | (exfalso; clear hS hit hit2 hro; simp_all; done)
          | exact SatE.again (lf.eraseIdx i15, wv, ro15, some (c.id, .agg (chv S.node c).toArray)) ⟨hit2, hsub2, by omega, by omega, hS.sel (by repeat constructor)⟩ (by dsimp only; omega) (by repeat constructor)
    · (try simp only [cx, ne_eq] at h1)
      try (exfalso; (first | omega | exact h1 trivial | contradiction | (first | omega | (simp at h1; done))); done)
      all_goals
      refine SatL.guard_n rfl rfl rfl rfl ?_
      refine SatL.guard_n rfl rfl rfl rfl ?_
      refine SatL.guard_n rfl rfl rfl rfl ?_
      refine SatL.guard_n rfl rfl rfl rfl ?_
      refine SatL.pu (RunV.pick_t rfl rfl) rfl ?_
      refine SatL.pu (RunV.move rfl) rfl ?_
      refine SatL.guard_y rfl rfl ?_
      refine SatL.pu (RunV.move rfl) rfl ?_
      refine SatL.guard_y rfl rfl ?_
      refine SatL.pu (RunV.loadN hS rfl rfl (by repeat constructor) (by repeat constructor)) rfl ?_
      refine SatL.guard_y rfl rfl ?_
      refine SatL.op rfl (OpW.enter rfl rfl rfl (hf) (hy c hcm _ (own1 hS (by simp [hcD c hcm]))) ?_)
      rintro r6 w6 ⟨rfl, h⟩
      replace hS := St.callN hS h
      refine SatL.pu (RunV.pick_t rfl rfl) rfl ?_
      refine SatL.nil (SatE.thenC ?_)
      refine SatC.weak (e' := [(1, _), (2, _), (6, _), (7, _), (9, _), (14, _), (34, _)]) (by repeat constructor) ?_
      refine SatC.cond rfl (fun h2 => ?_) (fun h2 => ?_)
      · (try simp only [cx, ne_eq] at h2)
        try (exfalso; (first | omega | exact h2 trivial | contradiction | (first | omega | (simp at h2; done))); done)
        all_goals
        refine SatC.region ?_
        refine SatL.pu (RunV.move rfl) rfl ?_
        first | refine SatL.pu (RunV.fieldAddrL rfl rfl rfl) rfl ?_ | refine SatL.pu (RunV.fieldAddr rfl rfl rfl) rfl ?_
        refine SatL.pu (RunV.load1 hS rfl rfl (by repeat constructor) rfl) rfl ?_
        refine SatL.op rfl (OpW.enter rfl rfl rfl (rfl) (stat_any (c := c.h) (own1 (p := hblk c) hS (by simp [hcD c hcm])) (hck c hcm)) ?_)
        rintro r7 w7 ⟨rfl, h⟩
        replace hS := St.callN hS h
        refine SatL.pu (RunV.max2 rfl rfl) rfl ?_
        refine SatL.pu (RunV.assign rfl) rfl ?_
        refine SatL.nil (SatE.blk_normal ?_)
        by_cases hd : (c.svc = [] ∨ c.svc = sv) ∧ yes c = true
        · rw [wrst_y hd] at hmx
          first
          | (exfalso; clear hS hit hit2 hro; simp_all; done)
          | exact SatE.again (lf.eraseIdx i15, max wv (stat c.h), ro15, some (c.id, .agg (chv S.node c).toArray)) ⟨hit2, hsub2, by omega, by omega, hS.sel (by repeat constructor)⟩ (by dsimp only; omega) (by repeat constructor)
        · rw [wrst_n hd] at hmx
          first
          | (exfalso; clear hS hit hit2 hro; simp_all; done)
          | exact SatE.again (lf.eraseIdx i15, wv, ro15, some (c.id, .agg (chv S.node c).toArray)) ⟨hit2, hsub2, by omega, by omega, hS.sel (by repeat constructor)⟩ (by dsimp only; omega) (by repeat constructor)
      · (try simp only [cx, ne_eq] at h2)
        try (exfalso; (first | omega | exact h2 trivial | contradiction | (first | omega | (simp at h2; done))); done)
        all_goals
        refine SatC.skip (SatE.blk_normal ?_)
        by_cases hd : (c.svc = [] ∨ c.svc = sv) ∧ yes c = true
        · rw [wrst_y hd] at hmx
          first
          | (exfalso; clear hS hit hit2 hro; simp_all; done)
          | exact SatE.again (lf.eraseIdx i15, max wv (stat c.h), ro15, some (c.id, .agg (chv S.node c).toArray)) ⟨hit2, hsub2, by omega, by omega, hS.sel (by repeat constructor)⟩ (by dsimp only; omega) (by repeat constructor)
        · rw [wrst_n hd] at hmx
          first
          | (exfalso; clear hS hit hit2 hro; simp_all; done)
          | exact SatE.again (lf.eraseIdx i15, wv, ro15, some (c.id, .agg (chv S.node c).toArray)) ⟨hit2, hsub2, by omega, by omega, hS.sel (by repeat constructor)⟩ (by dsimp only; omega) (by repeat constructor)
theorem health_d (sv : List UInt8) (h : Agt b S L) (hown : Own w L) :
    Ret Try.prog 22 #[.pointer (some ⟨b, 0, none⟩), str sv] w fun u w' => u = .int .i64 (wrst (fun _ => true) sv S.ch) ∧ St w [] [] w' := by
  have hw := h
  obtain ⟨hs16, hc16, hsu, hcu, htg, hck, ms, mc, oS, oC, hmS, hmC, rfl⟩ := h
  have hS := St.init hown
  generalize (tbl S.sv ++ S.ch.map hblk) = D at hS hown hw
  generalize hX : (LO b S.node S.addr ms mc oS oC D).map Prod.fst = X at hS
  have hro : ∀ {L w'}, St w X (L ++ LO b S.node S.addr ms mc oS oC D) w' → St w [] L w' := fun h => St.roL hown (by rw [hX]; exact h.perm List.perm_append_comm) .here
  refine Ret.enter Try.func22 Try.ntmps22 rfl rfl ?_
  simp only [argEnv, Nat.reduceAdd]
  refine SatC.seq ?_
  refine SatC.region ?_
  refine SatL.pu (RunV.assign rfl) rfl ?_
  refine SatL.nil (SatE.thenC ?_)
  refine SatC.seq ?_
  refine SatC.seq ?_
  refine SatC.region ?_
  refine SatL.pu (RunV.move rfl) rfl ?_
  refine SatL.op rfl (OpW.enter rfl rfl rfl (rfl) (lnone_any (hS.ownT (A := [(b, C 63 (lcc S.node S.addr ms mc))]) (by repeat constructor))) ?_)
  rintro r1 w1 ⟨rfl, h⟩
  replace hS := St.callN hS h
  refine SatL.nil (SatE.thenC ?_)
  refine SatC.cond rfl (fun h1 => ?_) (fun h1 => ?_)
  · (try simp only [cx, ne_eq] at h1)
    try (exfalso; (first | omega | exact h1 trivial | contradiction | (first | omega | (simp at h1; done))); done)
    all_goals
    refine SatC.seq ?_
    refine SatC.region ?_
    refine SatL.pu (RunV.assign rfl) rfl ?_
    refine SatL.nil (SatE.thenC ?_)
    refine SatC.ret (SatE.then_ret ?_)
    refine SatE.ret1 rfl rfl ?_
    exact ⟨rfl, hro (L := []) (hS.sel (by repeat constructor))⟩
  · (try simp only [cx, ne_eq] at h1)
    try (exfalso; (first | omega | exact h1 trivial | contradiction | (first | omega | (simp at h1; done))); done)
    all_goals
    refine SatC.skip (SatE.thenC ?_)
    refine SatC.seq ?_
    refine SatC.region ?_
    refine SatL.pu (RunV.move rfl) rfl ?_
    refine SatL.pu (RunV.move rfl) rfl ?_
    refine SatL.op rfl (OpW.enter rfl rfl rfl (rfl) (worst_d (fun _ => true) sv (by kernel_rfl) (fun c _ w _ => yesH_any S.node c w) hw hS.toOwn) ?_)
    rintro r2 w2 ⟨rfl, h⟩
    replace hS := St.callN hS h
    refine SatL.pu (RunV.assign rfl) rfl ?_
    refine SatL.nil (SatE.thenC ?_)
    refine SatC.ret ?_
    refine SatE.ret1 rfl rfl ?_
    exact ⟨rfl, hro (L := []) (hS.sel (by repeat constructor))⟩
end
end Go.Proofs.Ytbnkcagcfbpiiaa
