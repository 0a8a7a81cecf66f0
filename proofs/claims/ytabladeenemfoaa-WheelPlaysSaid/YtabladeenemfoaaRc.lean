/- The law's own helpers: same, many, looks. -/
import Derived.Test.YtabladeenemfoaaRs
set_option linter.unusedSimpArgs false
set_option linter.unusedVariables false
set_option maxRecDepth 100000
set_option maxHeartbeats 4000000
namespace Go.Proofs.Ytabladeenemfoaa
open Go.RowKit
theorem wrap_u64 (n : Int) : ∃ m, IntKind.u64.wrap n = m ∧ 0 ≤ m ∧ m ≤ 18446744073709551615 := by
  refine ⟨_, rfl, ?_⟩
  simp [IntKind.wrap, IntKind.bits, IntKind.signed]
  omega
theorem many_any (n : Int) (w : World) : Ret Try.prog 15 #[.int .i64 n] w fun u w' => (∃ q : Nat, u = .int .i64 (q : Int) ∧ q < 300 ∧ (q : Int) = IntKind.u64.wrap n % 300) ∧ St w [] [] w' := by
  have hS := St.init0 w
  obtain ⟨m, hm, hm0, hm1⟩ := wrap_u64 n
  rw [hm]
  refine Ret.enter Try.func15 Try.ntmps15 rfl rfl ?_
  simp only [argEnv, Nat.reduceAdd]
  refine SatC.seq ?_
  refine SatC.region ?_
  refine SatL.pu (RunV.assign rfl) rfl ?_
  refine SatL.nil (SatE.thenC ?_)
  refine SatC.seq ?_
  refine SatC.region ?_
  refine SatL.pu (RunV.move rfl) rfl ?_
  refine SatL.pu (RunV.conv rfl rfl rfl hm) rfl ?_
  refine SatL.pu (RunV.remP rfl rfl hm0 (by decide)) rfl ?_
  refine SatL.pu (RunV.conv rfl rfl rfl (wrapI64 (by omega))) rfl ?_
  refine SatL.pu (RunV.assign rfl) rfl ?_
  refine SatL.nil (SatE.thenC ?_)
  refine SatC.ret ?_
  refine SatE.ret1 rfl rfl ?_
  exact ⟨⟨(m % 300).toNat, by rw [Int.toNat_of_nonneg (by omega)], by omega, by omega⟩, hS⟩
theorem same_any {u v : Value} {xs : List Int} {A B : List (Nat × Obj)} {w : World} (hx : Sl 3 1 u (xs.map ri) A) (hy : Sl 3 1 v (xs.map ri) B) (hl : xs.length ≤ 1000) (hown : Own w (A ++ B)) : Ret Try.prog 16 #[u, v] w fun r w' => r = .bool true ∧ St w [] [] w' := by
  have hS := St.init hown
  obtain ⟨xc, hxv⟩ := hx.slv
  obtain ⟨yc, hyv⟩ := hy.slv
  rw [List.length_map] at hxv hyv
  generalize hX : (A ++ B).map Prod.fst = X at hS
  have hro : ∀ {L w'}, St w X (L ++ (A ++ B)) w' → St w [] L w' := fun h => St.roL hown (by rw [hX]; exact h.perm List.perm_append_comm) .here
  refine Ret.enter Try.func16 Try.ntmps16 rfl rfl ?_
  simp only [argEnv, Nat.reduceAdd]
  refine SatC.seq ?_
  refine SatC.region ?_
  refine SatL.pu (RunV.assign rfl) rfl ?_
  refine SatL.nil (SatE.thenC ?_)
  refine SatC.seq ?_
  refine SatC.seq ?_
  refine SatC.region ?_
  refine SatL.pu (RunV.move rfl) rfl ?_
  first | refine SatL.pu (RunV.lenR (by assumption) rfl rfl) rfl ?_ | refine SatL.pu (RunV.lenS rfl rfl) rfl ?_
  refine SatL.pu (RunV.move rfl) rfl ?_
  first | refine SatL.pu (RunV.lenR (by assumption) rfl rfl) rfl ?_ | refine SatL.pu (RunV.lenS rfl rfl) rfl ?_
  refine SatL.pu (RunV.neq rfl rfl) rfl ?_
  refine SatL.nil (SatE.thenC ?_)
  refine SatC.cond rfl (fun h1 => ?_) (fun h1 => ?_)
  · (try simp only [cx, ne_eq] at h1)
    try (exfalso; (first | omega | exact h1 trivial | contradiction | (first | omega | (simp at h1; done))); done)
    all_goals
    refine SatC.seq ?_
    refine SatC.region ?_
    refine SatL.pu (RunV.assign rfl) rfl ?_
    refine SatL.nil (SatE.thenC ?_)
    refine SatC.ret (SatE.then_ret ?_)
    refine SatE.ret1 rfl rfl ?_
    exact ⟨rfl, hro (L := []) hS⟩
  · (try simp only [cx, ne_eq] at h1)
    try (exfalso; (first | omega | exact h1 trivial | contradiction | (first | omega | (simp at h1; done))); done)
    all_goals
    refine SatC.skip (SatE.thenC ?_)
    refine SatC.seq ?_
    refine SatC.seq ?_
    refine SatC.region ?_
    refine SatL.pu (RunV.assign rfl) rfl ?_
    refine SatL.nil (SatE.thenC ?_)
    refine SatC.block ?_
    refine SatC.loopK (G := Nat) (V := fun k => [(5, .int .i64 (k : Int))]) (Cn := [(0, _), (1, _), (4, _)]) (I := fun k w' => k ≤ xs.length ∧ St w X (A ++ B) w') (μ := fun k => xs.length - k) 0 ?_ (by repeat constructor) ?_
    · exact ⟨by omega, hS⟩
    clear hS
    rintro k w1 ⟨hk, hS⟩
    refine SatC.weak (e' := [(0, _), (1, _), (4, _), (5, _)]) (by repeat constructor) ?_
    refine SatC.seq ?_
    refine SatC.seq ?_
    refine SatC.region ?_
    refine SatL.pu (RunV.move rfl) rfl ?_
    refine SatL.pu (RunV.move rfl) rfl ?_
    first | refine SatL.pu (RunV.lenR (by assumption) rfl rfl) rfl ?_ | refine SatL.pu (RunV.lenS rfl rfl) rfl ?_
    refine SatL.pu (RunV.lss rfl rfl) rfl ?_
    refine SatL.nil (SatE.thenC ?_)
    refine SatC.cond rfl (fun h2 => ?_) (fun h2 => ?_)
    · (try simp only [cx, ne_eq] at h2)
      try (exfalso; (first | omega | exact h2 trivial | contradiction | (first | omega | (simp at h2; done))); done)
      all_goals
      refine SatC.skip (SatE.thenC ?_)
      refine SatC.seq ?_
      refine SatC.block ?_
      refine SatC.seq ?_
      obtain ⟨y, hyy⟩ := get_some xs k (by omega)
      refine SatC.drawnT 9 hS (hS.sel (R := A ++ B) (by repeat constructor)) (by kernel_rfl) ?_
      clear hS
      intro w2 hh hS hD
      refine SatD.tk 0 rfl hD (fun _ hw => RunV.move rfl) ?_
      refine SatD.tk 1 rfl hD (fun _ hw => RunV.move rfl) ?_
      first | refine SatD.tk 2 rfl hD (fun _ hw => RunV.indexR (by assumption) rfl rfl rfl (by omega) (by omega) rfl) ?_ | refine SatD.tk 2 rfl hD (fun _ hw => RunV.indexS rfl rfl rfl (by omega) (by omega) rfl) ?_
      refine SatD.tk 3 rfl hD (fun _ hw => RunV.loadR1g k 0 (Sl.rd hx hw (by repeat constructor)) rfl rfl (by omega) (map_get hyy) rfl) ?_
      refine SatD.tk 4 rfl hD (fun _ hw => RunV.move rfl) ?_
      refine SatD.tk 5 rfl hD (fun _ hw => RunV.move rfl) ?_
      first | refine SatD.tk 6 rfl hD (fun _ hw => RunV.indexR (by assumption) rfl rfl rfl (by omega) (by omega) rfl) ?_ | refine SatD.tk 6 rfl hD (fun _ hw => RunV.indexS rfl rfl rfl (by omega) (by omega) rfl) ?_
      refine SatD.tk 7 rfl hD (fun _ hw => RunV.loadR1g k 0 (Sl.rd hy hw (by repeat constructor)) rfl rfl (by omega) (map_get hyy) rfl) ?_
      refine SatD.tk 8 rfl hD (fun _ hw => RunV.neq rfl rfl) ?_
      refine SatD.done 0 (by kernel_rfl) (SatE.thenC ?_)
      clear hD
      refine SatC.weak (e' := [(0, _), (1, _), (4, _), (5, _), (25, _)]) (by repeat constructor) ?_
      refine SatC.cond rfl (fun h3 => ?_) (fun h3 => ?_)
      · (try simp only [cx, ne_eq] at h3)
        try (exfalso; (first | omega | exact h3 trivial | contradiction | (first | omega | (simp at h3; done))); done)
        all_goals
        refine SatC.seq ?_
        refine SatC.region ?_
        refine SatL.pu (RunV.assign rfl) rfl ?_
        refine SatL.nil (SatE.thenC ?_)
        refine SatC.ret (SatE.blk_ret (SatE.then_ret (SatE.then_ret (SatE.blk_ret (SatE.then_ret ?_)))))
        refine SatE.ret1 rfl rfl ?_
        exact ⟨rfl, hro (L := []) hS⟩
      · (try simp only [cx, ne_eq] at h3)
        try (exfalso; (first | omega | exact h3 trivial | contradiction | (first | omega | (simp at h3; done))); done)
        all_goals
        refine SatC.skip (SatE.blk_normal (SatE.thenC ?_))
        refine SatC.region ?_
        refine SatL.pu (RunV.move rfl) rfl ?_
        refine SatL.pu (RunV.add rfl rfl (by first | exact wrapI64 (by omega) | rfl)) rfl ?_
        refine SatL.pu (RunV.assign rfl) rfl ?_
        refine SatL.nil ?_
        refine SatE.again (k + 1) ?_ (by first | omega | (dsimp only; omega)) (by repeat constructor)
        exact ⟨by omega, hS⟩
    · (try simp only [cx, ne_eq] at h2)
      try (exfalso; (first | omega | exact h2 trivial | contradiction | (first | omega | (simp at h2; done))); done)
      all_goals
      refine SatC.exit (SatE.then_exit (SatE.then_exit (SatE.blk_exit (SatE.thenC ?_))))
      refine SatC.seq ?_
      refine SatC.region ?_
      refine SatL.pu (RunV.assign rfl) rfl ?_
      refine SatL.nil (SatE.thenC ?_)
      refine SatC.ret ?_
      refine SatE.ret1 rfl rfl ?_
      exact ⟨rfl, hro (L := []) hS⟩
section
variable {b m rb : Nat} {W : Wl} {L : List (Nat × Obj)} {v : Value} {B : List (Nat × Obj)} {l : List (Int × Nat)} {w : World}
theorem looks_any (id : Int) (hn : W.now ≤ 1000000) (hk : Wk b m W L) (hrel : Rel W l) (hsl : Sl 64 2 v (l.map pw) B) (hown : Own w (L ++ RO rb W.now v B)) :
    Ret Try.prog 18 #[.pointer (some ⟨b, 0, none⟩), .pointer (some ⟨rb, 0, none⟩), .int .i64 id] w fun r w' => r = .bool true ∧ St w [] [] w' := by
  have hS := St.init hown
  have hll := hrel.len
  have hfew := hk.few
  have hdue : DueB 1100000000 W.ts := fun t ht => Nat.le_trans (inv_due hk.inv t ht) (by omega)
  have hld := hrel.due hk.inv hn
  obtain ⟨vc, hv⟩ := hsl.slv
  rw [List.length_map] at hv
  generalize hX : (L ++ RO rb W.now v B).map Prod.fst = X at hS
  have hro : ∀ {L' w'}, St w X (L' ++ (L ++ RO rb W.now v B)) w' → St w [] L' w' := fun h => St.roL hown (by rw [hX]; exact h.perm List.perm_append_comm) .here
  have hL := hrel.left hk.inv id
  have hN := hrel.next hk.inv
  have hil : (srt (idsW W)).length = l.length := by rw [hrel.ids, List.length_map]
  refine Ret.enter Try.func18 Try.ntmps18 rfl rfl ?_
  simp only [argEnv, Nat.reduceAdd]
  refine SatC.seq ?_
  refine SatC.region ?_
  refine SatL.pu (RunV.assign rfl) rfl ?_
  refine SatL.nil (SatE.thenC ?_)
  refine SatC.seq ?_
  refine SatC.region ?_
  refine SatL.pu (RunV.move rfl) rfl ?_
  refine SatL.pu (RunV.move rfl) rfl ?_
  refine SatL.op rfl (OpW.enter rfl rfl rfl (rfl) (left_d id (by omega) hdue hk.whl (hS.ownT (A := L) (by repeat constructor))) ?_)
  rintro r1 w1 ⟨rfl, h⟩
  replace hS := St.callN hS h
  refine SatL.pu (RunV.move rfl) rfl ?_
  refine SatL.pu (RunV.extract rfl rfl) rfl ?_
  refine SatL.pu (RunV.extract rfl rfl) rfl ?_
  refine SatL.pu (RunV.assign rfl) rfl ?_
  refine SatL.pu (RunV.assign rfl) rfl ?_
  refine SatL.nil (SatE.thenC ?_)
  refine SatC.seq ?_
  refine SatC.region ?_
  refine SatL.pu (RunV.move rfl) rfl ?_
  refine SatL.pu (RunV.move rfl) rfl ?_
  refine SatL.op rfl (OpW.enter rfl rfl rfl (rfl) (rleft_any id hsl (by omega) (by omega) hld (hS.ownT (A := RO rb W.now v B) (by repeat constructor))) ?_)
  rintro r2 w2 ⟨rfl, h⟩
  replace hS := St.callN hS h
  rw [hL.1, hL.2]
  refine SatL.pu (RunV.move rfl) rfl ?_
  refine SatL.pu (RunV.extract rfl rfl) rfl ?_
  refine SatL.pu (RunV.extract rfl rfl) rfl ?_
  refine SatL.pu (RunV.assign rfl) rfl ?_
  refine SatL.pu (RunV.assign rfl) rfl ?_
  refine SatL.nil (SatE.thenC ?_)
  refine SatC.seq ?_
  refine SatC.weak (e' := [(0, _), (1, _), (6, _), (7, _), (8, _), (9, _), (10, _)]) (by repeat constructor) ?_
  refine SatC.region ?_
  refine SatL.pu (RunV.move rfl) rfl ?_
  refine SatL.op rfl (OpW.enter rfl rfl rfl (rfl) (next_d (by omega) hdue (by omega) hk.whl (hS.ownT (A := L) (by repeat constructor))) ?_)
  rintro r3 w3 ⟨rfl, h⟩
  replace hS := St.callN hS h
  refine SatL.pu (RunV.move rfl) rfl ?_
  refine SatL.pu (RunV.extract rfl rfl) rfl ?_
  refine SatL.pu (RunV.extract rfl rfl) rfl ?_
  refine SatL.pu (RunV.assign rfl) rfl ?_
  refine SatL.pu (RunV.assign rfl) rfl ?_
  refine SatL.nil (SatE.thenC ?_)
  refine SatC.seq ?_
  refine SatC.region ?_
  refine SatL.pu (RunV.move rfl) rfl ?_
  refine SatL.op rfl (OpW.enter rfl rfl rfl (rfl) (rnext_any hsl (by omega) (by omega) hld (hS.ownT (A := RO rb W.now v B) (by repeat constructor))) ?_)
  rintro r4 w4 ⟨rfl, h⟩
  replace hS := St.callN hS h
  rw [hN]
  refine SatL.pu (RunV.move rfl) rfl ?_
  refine SatL.pu (RunV.extract rfl rfl) rfl ?_
  refine SatL.pu (RunV.extract rfl rfl) rfl ?_
  refine SatL.pu (RunV.assign rfl) rfl ?_
  refine SatL.pu (RunV.assign rfl) rfl ?_
  refine SatL.nil (SatE.thenC ?_)
  refine SatC.seq ?_
  refine SatC.region ?_
  refine SatL.pu (RunV.move rfl) rfl ?_
  refine SatL.op rfl (OpW.enter rfl rfl rfl (rfl) (ids_d (by omega) hk.whl (hS.ownT (A := L) (by repeat constructor))) ?_)
  rintro r5 w5 ⟨AB, hia, h⟩
  replace hS := hS.callT (A := []) .nil h
  obtain ⟨ic, hiv⟩ := hia.slv
  rw [List.length_map, hil] at hiv
  refine SatL.pu (RunV.assign rfl) rfl ?_
  refine SatL.nil (SatE.thenC ?_)
  refine SatC.seq ?_
  refine SatC.seq ?_
  refine SatC.weak (e' := [(0, _), (1, _), (6, _), (7, _), (8, _), (9, _), (10, _), (11, _), (12, _), (13, _), (14, _), (15, _)]) (by repeat constructor) ?_
  refine SatC.region ?_
  refine SatL.pu (RunV.move rfl) rfl ?_
  first | refine SatL.pu (RunV.lenR (by assumption) rfl rfl) rfl ?_ | refine SatL.pu (RunV.lenS rfl rfl) rfl ?_
  refine SatL.pu (RunV.move rfl) rfl ?_
  first | refine SatL.pu (RunV.nil_ptr rfl) rfl ?_ | refine SatL.pu (RunV.nil_func rfl) rfl ?_ | refine SatL.pu (RunV.nil_yield rfl) rfl ?_
  first | refine SatL.pu (RunV.fieldAddrL rfl rfl rfl) rfl ?_ | refine SatL.pu (RunV.fieldAddr rfl rfl rfl) rfl ?_
  refine SatL.pu (RunV.load1 hS rfl rfl (by repeat constructor) rfl) rfl ?_
  first | refine SatL.pu (RunV.lenR (by assumption) rfl rfl) rfl ?_ | refine SatL.pu (RunV.lenS rfl rfl) rfl ?_
  refine SatL.pu (RunV.neq rfl rfl) rfl ?_
  refine SatL.nil (SatE.thenC ?_)
  refine SatC.cond rfl (fun h1 => ?_) (fun h1 => ?_)
  · (try simp only [cx, ne_eq] at h1)
    try (exfalso; (first | omega | exact h1 trivial | contradiction | (first | omega | exact absurd rfl h1 | (simp at h1; done) | (exact absurd (by simp) h1))); done)
    all_goals
    refine SatC.seq ?_
    refine SatC.weak (e' := [(6, _)]) (by repeat constructor) ?_
    refine SatC.region ?_
    refine SatL.pu (RunV.assign rfl) rfl ?_
    refine SatL.nil (SatE.thenC ?_)
    refine SatC.ret (SatE.then_ret ?_)
    refine SatE.ret1 rfl rfl ?_
    exact ⟨by first | rfl | simp, hro (L' := []) (hS.sel (by repeat constructor))⟩
  · (try simp only [cx, ne_eq] at h1)
    try (exfalso; (first | omega | exact h1 trivial | contradiction | (first | omega | exact absurd rfl h1 | (simp at h1; done) | (exact absurd (by simp) h1))); done)
    all_goals
    refine SatC.skip (SatE.thenC ?_)
    refine SatC.seq ?_
    refine SatC.seq ?_
    refine SatC.region ?_
    refine SatL.pu (RunV.assign rfl) rfl ?_
    refine SatL.nil (SatE.thenC ?_)
    refine SatC.block ?_
    refine SatC.loopK (G := Nat) (V := fun k => [(16, .int .i64 (k : Int))]) (Cn := [(0, _), (1, _), (7, _), (8, _), (9, _), (10, _), (11, _), (12, _), (13, _), (14, _), (15, _), (6, _)]) (I := fun k w' => k ≤ l.length ∧ St w X (AB ++ (L ++ RO rb W.now v B)) w') (μ := fun k => l.length - k) 0 ?_ (by repeat constructor) ?_
    · exact ⟨by omega, hS.sel (by repeat constructor)⟩
    clear hS
    rintro k w6 ⟨hkl, hS⟩
    refine SatC.weak (e' := [(0, _), (1, _), (6, _), (7, _), (8, _), (9, _), (10, _), (11, _), (12, _), (13, _), (14, _), (15, _), (16, _)]) (by repeat constructor) ?_
    refine SatC.seq ?_
    refine SatC.seq ?_
    refine SatC.region ?_
    refine SatL.pu (RunV.move rfl) rfl ?_
    refine SatL.pu (RunV.move rfl) rfl ?_
    first | refine SatL.pu (RunV.lenR (by assumption) rfl rfl) rfl ?_ | refine SatL.pu (RunV.lenS rfl rfl) rfl ?_
    refine SatL.pu (RunV.lss rfl rfl) rfl ?_
    refine SatL.nil (SatE.thenC ?_)
    refine SatC.cond rfl (fun h2 => ?_) (fun h2 => ?_)
    · (try simp only [cx, ne_eq] at h2)
      try (exfalso; (first | omega | exact h2 trivial | contradiction | (first | omega | exact absurd rfl h2 | (simp at h2; done) | (exact absurd (by simp) h2))); done)
      all_goals
      refine SatC.skip (SatE.thenC ?_)
      refine SatC.seq ?_
      refine SatC.block ?_
      refine SatC.seq ?_
      obtain ⟨y, hy⟩ := get_some l k (by omega)
      have hyi : (srt (idsW W))[k]? = some y.1 := by rw [hrel.ids, List.getElem?_map, hy]; rfl
      refine SatC.drawnT 13 hS (hS.sel (R := AB ++ RO rb W.now v B) (by repeat constructor)) (by kernel_rfl) ?_
      clear hS
      intro w7 hh hS hD
      refine SatD.tk 0 rfl hD (fun _ hw => RunV.move rfl) ?_
      refine SatD.tk 1 rfl hD (fun _ hw => RunV.move rfl) ?_
      first | refine SatD.tk 2 rfl hD (fun _ hw => RunV.indexR (by assumption) rfl rfl rfl (by omega) (by omega) rfl) ?_ | refine SatD.tk 2 rfl hD (fun _ hw => RunV.indexS rfl rfl rfl (by omega) (by omega) rfl) ?_
      refine SatD.tk 3 rfl hD (fun _ hw => RunV.loadR1g k 0 (Sl.rd hia hw (by repeat constructor)) rfl rfl (by omega) (map_get hyi) rfl) ?_
      refine SatD.tk 4 rfl hD (fun _ hw => RunV.move rfl) ?_
      first | refine SatD.tk 5 rfl hD (fun _ hw => RunV.nil_ptr rfl) ?_ | refine SatD.tk 5 rfl hD (fun _ hw => RunV.nil_func rfl) ?_ | refine SatD.tk 5 rfl hD (fun _ hw => RunV.nil_yield rfl) ?_
      first | refine SatD.tk 6 rfl hD (fun _ hw => RunV.fieldAddrL rfl rfl rfl) ?_ | refine SatD.tk 6 rfl hD (fun _ hw => RunV.fieldAddr rfl rfl rfl) ?_
      refine SatD.tk 7 rfl hD (fun _ hw => RunV.load1 hw rfl rfl (by repeat constructor) rfl) ?_
      refine SatD.tk 8 rfl hD (fun _ hw => RunV.move rfl) ?_
      first | refine SatD.tk 9 rfl hD (fun _ hw => RunV.indexR (by assumption) rfl rfl rfl (by omega) (by omega) rfl) ?_ | refine SatD.tk 9 rfl hD (fun _ hw => RunV.indexS rfl rfl rfl (by omega) (by omega) rfl) ?_
      first | refine SatD.tk 10 rfl hD (fun _ hw => RunV.fieldAddrL rfl rfl rfl) ?_ | refine SatD.tk 10 rfl hD (fun _ hw => RunV.fieldAddr rfl rfl rfl) ?_
      refine SatD.tk 11 rfl hD (fun _ hw => RunV.loadR1g k 0 (Sl.rd hsl hw (by repeat constructor)) rfl rfl (by omega) (map_get hy) rfl) ?_
      refine SatD.tk 12 rfl hD (fun _ hw => RunV.neq rfl rfl) ?_
      refine SatD.done 0 (by kernel_rfl) (SatE.thenC ?_)
      clear hD
      refine SatC.weak (e' := [(0, _), (1, _), (6, _), (7, _), (8, _), (9, _), (10, _), (11, _), (12, _), (13, _), (14, _), (15, _), (16, _), (67, _)]) (by repeat constructor) ?_
      refine SatC.cond rfl (fun h3 => ?_) (fun h3 => ?_)
      · (try simp only [cx, ne_eq] at h3)
        try (exfalso; (first | omega | exact h3 trivial | contradiction | (first | omega | exact absurd rfl h3 | (simp at h3; done) | (exact absurd (by simp) h3))); done)
        all_goals
        refine SatC.seq ?_
        refine SatC.region ?_
        refine SatL.pu (RunV.assign rfl) rfl ?_
        refine SatL.nil (SatE.thenC ?_)
        refine SatC.ret (SatE.blk_ret (SatE.then_ret (SatE.then_ret (SatE.blk_ret (SatE.then_ret ?_)))))
        refine SatE.ret1 rfl rfl ?_
        exact ⟨by first | rfl | simp, hro (L' := []) (hS.sel (by repeat constructor))⟩
      · (try simp only [cx, ne_eq] at h3)
        try (exfalso; (first | omega | exact h3 trivial | contradiction | (first | omega | exact absurd rfl h3 | (simp at h3; done) | (exact absurd (by simp) h3))); done)
        all_goals
        refine SatC.skip (SatE.blk_normal (SatE.thenC ?_))
        refine SatC.region ?_
        refine SatL.pu (RunV.move rfl) rfl ?_
        refine SatL.pu (RunV.add rfl rfl (by first | exact wrapI64 (by omega) | rfl)) rfl ?_
        refine SatL.pu (RunV.assign rfl) rfl ?_
        refine SatL.nil ?_
        refine SatE.again (k + 1) ?_ (by first | omega | (dsimp only; omega)) (by repeat constructor)
        exact ⟨by omega, hS.sel (by repeat constructor)⟩
    · (try simp only [cx, ne_eq] at h2)
      try (exfalso; (first | omega | exact h2 trivial | contradiction | (first | omega | exact absurd rfl h2 | (simp at h2; done) | (exact absurd (by simp) h2))); done)
      all_goals
      refine SatC.exit (SatE.then_exit (SatE.then_exit (SatE.blk_exit (SatE.thenC ?_))))
      refine SatC.seq ?_
      refine SatC.drawnT 28 hS (hS) (by kernel_rfl) ?_
      clear hS
      intro w7 hh hS hD
      refine SatD.tk 0 rfl hD (fun _ hw => RunV.move rfl) ?_
      refine SatD.tk 1 rfl hD (fun _ hw => RunV.move rfl) ?_
      refine SatD.tk 2 rfl hD (fun _ hw => RunV.eql rfl rfl) ?_
      refine SatD.tk 3 rfl hD (fun _ hw => RunV.move rfl) ?_
      refine SatD.ways 71 rfl (fun h3 => ?_) (fun h3 => ?_)
      · (try simp only [cx, ne_eq] at h3)
        try (exfalso; (first | omega | exact h3 trivial | contradiction | (first | omega | exact absurd rfl h3 | (simp at h3; done) | (exact absurd (by simp) h3))); done)
        all_goals
        refine SatD.tk 4 rfl hD (fun _ hw => RunV.move rfl) ?_
        refine SatD.tk 5 rfl hD (fun _ hw => RunV.move rfl) ?_
        refine SatD.tk 6 rfl hD (fun _ hw => RunV.beql rfl rfl rfl) ?_
        refine SatD.tk 7 rfl hD (fun _ hw => RunV.pick_t rfl rfl) ?_
        refine SatD.tk 8 rfl hD (fun _ hw => RunV.move rfl) ?_
        refine SatD.ways 76 rfl (fun h4 => ?_) (fun h4 => ?_)
        · (try simp only [cx, ne_eq] at h4)
          try (exfalso; (first | omega | exact h4 trivial | contradiction | (first | omega | exact absurd rfl h4 | (simp at h4; done) | (exact absurd (by simp) h4))); done)
          all_goals
          refine SatD.tk 9 rfl hD (fun _ hw => RunV.move rfl) ?_
          refine SatD.tk 10 rfl hD (fun _ hw => RunV.move rfl) ?_
          refine SatD.tk 11 rfl hD (fun _ hw => RunV.eql rfl rfl) ?_
          refine SatD.tk 12 rfl hD (fun _ hw => RunV.pick_t rfl rfl) ?_
          refine SatD.tk 13 rfl hD (fun _ hw => RunV.move rfl) ?_
          refine SatD.ways 81 rfl (fun h5 => ?_) (fun h5 => ?_)
          · (try simp only [cx, ne_eq] at h5)
            try (exfalso; (first | omega | exact h5 trivial | contradiction | (first | omega | exact absurd rfl h5 | (simp at h5; done) | (exact absurd (by simp) h5))); done)
            all_goals
            refine SatD.tk 14 rfl hD (fun _ hw => RunV.move rfl) ?_
            refine SatD.tk 15 rfl hD (fun _ hw => RunV.move rfl) ?_
            refine SatD.tk 16 rfl hD (fun _ hw => RunV.beql rfl rfl rfl) ?_
            refine SatD.tk 17 rfl hD (fun _ hw => RunV.pick_t rfl rfl) ?_
            refine SatD.tk 18 rfl hD (fun _ hw => RunV.move rfl) ?_
            refine SatD.ways 86 rfl (fun h6 => ?_) (fun h6 => ?_)
            · (try simp only [cx, ne_eq] at h6)
              try (exfalso; (first | omega | exact h6 trivial | contradiction | (first | omega | exact absurd rfl h6 | (simp at h6; done) | (exact absurd (by simp) h6))); done)
              all_goals
              refine SatD.tk 19 rfl hD (fun _ hw => RunV.move rfl) ?_
              refine SatD.tk 21 rfl hD (fun _ hw => RunV.move rfl) ?_
              first | refine SatD.tk 22 rfl hD (fun _ hw => RunV.nil_ptr rfl) ?_ | refine SatD.tk 22 rfl hD (fun _ hw => RunV.nil_func rfl) ?_ | refine SatD.tk 22 rfl hD (fun _ hw => RunV.nil_yield rfl) ?_
              first | refine SatD.tk 23 rfl hD (fun _ hw => RunV.fieldAddrL rfl rfl rfl) ?_ | refine SatD.tk 23 rfl hD (fun _ hw => RunV.fieldAddr rfl rfl rfl) ?_
              refine SatD.tk 24 rfl hD (fun _ hw => RunV.load1 hw rfl rfl (by repeat constructor) rfl) ?_
              refine SatD.ef 20 rfl (OpW.enter rfl rfl rfl (rfl) (now_d (by omega) hk.whl (hS.ownT (A := L) (by repeat constructor))) ?_)
              rintro r8 w8 ⟨rfl, h⟩
              replace hS := St.callN hS h
              refine keepS (hS.sel (by repeat constructor)) (fun hD => ?_)
              refine SatD.tk 25 rfl hD (fun _ hw => RunV.eql rfl rfl) ?_
              refine SatD.tk 26 rfl hD (fun _ hw => RunV.pick_t rfl rfl) ?_
              refine SatD.tk 27 rfl hD (fun _ hw => RunV.assign rfl) ?_
              refine SatD.done 0 (by kernel_rfl) (SatE.thenC ?_)
              clear hD
              refine SatC.ret ?_
              refine SatE.ret1 rfl rfl ?_
              exact ⟨by first | rfl | simp, hro (L' := []) (hS.sel (by repeat constructor))⟩
            · (try simp only [cx, ne_eq] at h6)
              try (exfalso; (first | omega | exact h6 trivial | contradiction | (first | omega | exact absurd rfl h6 | (simp at h6; done) | (exact absurd (by simp) h6))); done)
              all_goals
              refine SatD.sk 19 rfl [] hD ?_
              refine SatD.sk 20 rfl [] hD ?_
              refine SatD.sk 21 rfl [] hD ?_
              refine SatD.sk 22 rfl [] hD ?_
              refine SatD.sk 23 rfl [] hD ?_
              refine SatD.sk 24 rfl [] hD ?_
              refine SatD.sk 25 rfl [] hD ?_
              refine SatD.tk 26 rfl hD (fun _ hw => RunV.pick_f rfl rfl) ?_
              refine SatD.tk 27 rfl hD (fun _ hw => RunV.assign rfl) ?_
              refine SatD.done 0 (by kernel_rfl) (SatE.thenC ?_)
              clear hD
              refine SatC.ret ?_
              refine SatE.ret1 rfl rfl ?_
              exact ⟨by first | rfl | simp, hro (L' := []) (hS.sel (by repeat constructor))⟩
          · (try simp only [cx, ne_eq] at h5)
            try (exfalso; (first | omega | exact h5 trivial | contradiction | (first | omega | exact absurd rfl h5 | (simp at h5; done) | (exact absurd (by simp) h5))); done)
            all_goals
            refine SatD.sk 14 rfl [] hD ?_
            refine SatD.sk 15 rfl [] hD ?_
            refine SatD.sk 16 rfl [] hD ?_
            refine SatD.tk 17 rfl hD (fun _ hw => RunV.pick_f rfl rfl) ?_
            refine SatD.tk 18 rfl hD (fun _ hw => RunV.move rfl) ?_
            refine SatD.sk 19 rfl [] hD ?_
            refine SatD.sk 20 rfl [] hD ?_
            refine SatD.sk 21 rfl [] hD ?_
            refine SatD.sk 22 rfl [] hD ?_
            refine SatD.sk 23 rfl [] hD ?_
            refine SatD.sk 24 rfl [] hD ?_
            refine SatD.sk 25 rfl [] hD ?_
            refine SatD.tk 26 rfl hD (fun _ hw => RunV.pick_f rfl rfl) ?_
            refine SatD.tk 27 rfl hD (fun _ hw => RunV.assign rfl) ?_
            refine SatD.done 0 (by kernel_rfl) (SatE.thenC ?_)
            clear hD
            refine SatC.ret ?_
            refine SatE.ret1 rfl rfl ?_
            exact ⟨by first | rfl | simp, hro (L' := []) (hS.sel (by repeat constructor))⟩
        · (try simp only [cx, ne_eq] at h4)
          try (exfalso; (first | omega | exact h4 trivial | contradiction | (first | omega | exact absurd rfl h4 | (simp at h4; done) | (exact absurd (by simp) h4))); done)
          all_goals
          refine SatD.sk 9 rfl [] hD ?_
          refine SatD.sk 10 rfl [] hD ?_
          refine SatD.sk 11 rfl [] hD ?_
          refine SatD.tk 12 rfl hD (fun _ hw => RunV.pick_f rfl rfl) ?_
          refine SatD.tk 13 rfl hD (fun _ hw => RunV.move rfl) ?_
          refine SatD.sk 14 rfl [] hD ?_
          refine SatD.sk 15 rfl [] hD ?_
          refine SatD.sk 16 rfl [] hD ?_
          refine SatD.tk 17 rfl hD (fun _ hw => RunV.pick_f rfl rfl) ?_
          refine SatD.tk 18 rfl hD (fun _ hw => RunV.move rfl) ?_
          refine SatD.sk 19 rfl [] hD ?_
          refine SatD.sk 20 rfl [] hD ?_
          refine SatD.sk 21 rfl [] hD ?_
          refine SatD.sk 22 rfl [] hD ?_
          refine SatD.sk 23 rfl [] hD ?_
          refine SatD.sk 24 rfl [] hD ?_
          refine SatD.sk 25 rfl [] hD ?_
          refine SatD.tk 26 rfl hD (fun _ hw => RunV.pick_f rfl rfl) ?_
          refine SatD.tk 27 rfl hD (fun _ hw => RunV.assign rfl) ?_
          refine SatD.done 0 (by kernel_rfl) (SatE.thenC ?_)
          clear hD
          refine SatC.ret ?_
          refine SatE.ret1 rfl rfl ?_
          exact ⟨by first | rfl | simp, hro (L' := []) (hS.sel (by repeat constructor))⟩
      · (try simp only [cx, ne_eq] at h3)
        try (exfalso; (first | omega | exact h3 trivial | contradiction | (first | omega | exact absurd rfl h3 | (simp at h3; done) | (exact absurd (by simp) h3))); done)
        all_goals
        refine SatD.sk 4 rfl [] hD ?_
        refine SatD.sk 5 rfl [] hD ?_
        refine SatD.sk 6 rfl [] hD ?_
        refine SatD.tk 7 rfl hD (fun _ hw => RunV.pick_f rfl rfl) ?_
        refine SatD.tk 8 rfl hD (fun _ hw => RunV.move rfl) ?_
        refine SatD.sk 9 rfl [] hD ?_
        refine SatD.sk 10 rfl [] hD ?_
        refine SatD.sk 11 rfl [] hD ?_
        refine SatD.tk 12 rfl hD (fun _ hw => RunV.pick_f rfl rfl) ?_
        refine SatD.tk 13 rfl hD (fun _ hw => RunV.move rfl) ?_
        refine SatD.sk 14 rfl [] hD ?_
        refine SatD.sk 15 rfl [] hD ?_
        refine SatD.sk 16 rfl [] hD ?_
        refine SatD.tk 17 rfl hD (fun _ hw => RunV.pick_f rfl rfl) ?_
        refine SatD.tk 18 rfl hD (fun _ hw => RunV.move rfl) ?_
        refine SatD.sk 19 rfl [] hD ?_
        refine SatD.sk 20 rfl [] hD ?_
        refine SatD.sk 21 rfl [] hD ?_
        refine SatD.sk 22 rfl [] hD ?_
        refine SatD.sk 23 rfl [] hD ?_
        refine SatD.sk 24 rfl [] hD ?_
        refine SatD.sk 25 rfl [] hD ?_
        refine SatD.tk 26 rfl hD (fun _ hw => RunV.pick_f rfl rfl) ?_
        refine SatD.tk 27 rfl hD (fun _ hw => RunV.assign rfl) ?_
        refine SatD.done 0 (by kernel_rfl) (SatE.thenC ?_)
        clear hD
        refine SatC.ret ?_
        refine SatE.ret1 rfl rfl ?_
        exact ⟨by first | rfl | simp, hro (L' := []) (hS.sel (by repeat constructor))⟩
end
end Go.Proofs.Ytabladeenemfoaa
