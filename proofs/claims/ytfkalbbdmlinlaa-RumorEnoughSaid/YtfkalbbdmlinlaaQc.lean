/- All items in their order; the list; what is taken. -/
import Derived.Test.YtfkalbbdmlinlaaQb
set_option linter.unusedSimpArgs false
set_option linter.unusedVariables false
set_option maxRecDepth 100000
set_option maxHeartbeats 4000000
namespace Go.Proofs.Ytfkalbbdmlinlaa
open Go.RowKit
section
variable {b mb : Nat} {mult wh : Int} {o : Obj} {t : Tab} {w : World}
def coll (t : Tab) (n : Nat) : List It := (List.range n).filterMap fun k : Nat => t (k : Int)
theorem coll_next (t : Tab) (n : Nat) : coll t (n + 1) = coll t n ++ (t (n : Int)).toList := by
  unfold coll
  rw [List.range_succ, List.filterMap_append]
  congr 1
theorem coll_len (t : Tab) (n : Nat) : (coll t n).length ≤ n := by
  have := List.length_filterMap_le (fun k : Nat => t (k : Int)) (List.range n)
  simpa [coll] using this
theorem ordered_any (ho : QM o t) (hown : Own w (QO b mb mult wh o)) : Ret Try.prog 16 #[.pointer (some ⟨b, 0, none⟩)] w fun v w' => ∃ (ds : List It) (B : List (Nat × Obj)), ds.Perm (coll t 8) ∧ ds.Pairwise (fun a b => ltI b a = false) ∧ Sl 53 5 v (ds.map ir) B ∧ St w [] B w' := by
  have hS := St.init hown
  obtain ⟨kvs, hm, hu, hk⟩ := ho
  simp only [List.map_cons, List.map_nil] at hS
  generalize hX : [b, mb] = X at hS
  have hro : ∀ {L w'}, St w X (L ++ QO b mb mult wh o) w' → St w [] L w' := fun h => St.roL hown (by simp only [List.map_cons, List.map_nil]; rw [hX]; exact h.perm List.perm_append_comm) .here
  refine Ret.enter Try.func16 Try.ntmps16 rfl rfl ?_
  simp only [argEnv, Nat.reduceAdd]
  refine SatC.seq ?_
  refine SatC.region ?_
  refine SatL.pu (RunV.assign rfl) rfl ?_
  refine SatL.nil (SatE.thenC ?_)
  refine SatC.seq ?_
  refine SatC.region ?_
  refine SatL.op rfl (OpW.alloc hS rfl rfl (by repeat constructor) ?_)
  clear hS
  intro b3 w1 _ hS
  refine SatL.nil (SatE.thenC ?_)
  refine SatC.seq ?_
  refine SatC.seq ?_
  refine SatC.region ?_
  refine SatL.pu (RunV.move rfl) rfl ?_
  refine SatL.nil (SatE.thenC ?_)
  refine SatC.block ?_
  refine SatC.loopK (G := Nat × Value × List (Nat × Obj)) (V := fun ⟨i, v, B⟩ => [(7, .int .i64 (i : Int))]) (Cn := [(0, _), (2, _), (3, _)]) (I := fun ⟨i, v, B⟩ w' => i ≤ 8 ∧ Sl 53 5 v ((coll t i).map ir) B ∧ St w X ((b3, C 50 [v]) :: (B ++ QO b mb mult wh o)) w') (μ := fun ⟨i, v, B⟩ => 8 - i) (0, .slice none 0 0, []) ?_ (by repeat constructor) ?_
  · exact ⟨by omega, .nil, hS.sel (by repeat constructor)⟩
  clear hS
  rintro ⟨i, v, B⟩ w2 ⟨hi, hsl, hS⟩
  refine SatC.weak (e' := [(0, _), (2, _), (3, _), (7, _)]) (by repeat constructor) ?_
  refine SatC.seq ?_
  refine SatC.region ?_
  refine SatL.pu (RunV.lss rfl rfl) rfl ?_
  refine SatL.nil (SatE.thenC ?_)
  refine SatC.seq ?_
  refine SatC.cond rfl (fun h1 => ?_) (fun h1 => ?_)
  · (try simp only [cx, ne_eq] at h1)
    try (exfalso; (first | omega | exact h1 trivial | contradiction); done)
    all_goals
    refine SatC.skip (SatE.thenC ?_)
    refine SatC.seq ?_
    refine SatC.block ?_
    refine SatC.seq ?_
    have hcl := coll_len t i
    have hcn := coll_next t i
    refine SatC.region ?_
    refine SatL.pu (RunV.move rfl) rfl ?_
    refine SatL.pu (RunV.assign rfl) rfl ?_
    refine SatL.nil (SatE.thenC ?_)
    refine SatC.seq ?_
    refine SatC.region ?_
    refine SatL.pu (RunV.move rfl) rfl ?_
    first | refine SatL.pu (RunV.nil_ptr rfl) rfl ?_ | refine SatL.pu (RunV.nil_func rfl) rfl ?_ | refine SatL.pu (RunV.nil_yield rfl) rfl ?_
    first | refine SatL.pu (RunV.fieldAddrL rfl rfl rfl) rfl ?_ | refine SatL.pu (RunV.fieldAddr rfl rfl rfl) rfl ?_
    refine SatL.pu (RunV.load1 hS rfl rfl (by repeat constructor) rfl) rfl ?_
    refine SatL.pu (RunV.move rfl) rfl ?_
    refine SatL.pu (RunV.cast (RunV.lookup2 (keyInt rfl) hS rfl rfl rfl rfl (by repeat constructor) (by assumption)) (kv_two hk _)) rfl ?_
    refine SatL.pu (RunV.move rfl) rfl ?_
    refine SatL.pu (RunV.extract rfl rfl) rfl ?_
    refine SatL.pu (RunV.extract rfl rfl) rfl ?_
    refine SatL.op rfl (OpW.alloc hS rfl rfl (by repeat constructor) ?_)
    clear hS
    intro b5 w3 _ hS
    refine SatL.op rfl (OpW.store hS rfl rfl (by repeat constructor) (by repeat constructor) (by repeat constructor) rfl rfl ?_)
    clear hS
    intro w4 hS
    refine SatL.pu (RunV.assign rfl) rfl ?_
    refine SatL.nil (SatE.thenC ?_)
    refine SatC.seq ?_
    refine SatC.weak (e' := [(0, _), (2, _), (3, _), (5, _), (6, _), (7, _)]) (by repeat constructor) ?_
    refine SatC.region ?_
    refine SatL.pu (RunV.move rfl) rfl ?_
    refine SatL.nil (SatE.thenC ?_)
    refine SatC.cond rfl (fun h2 => ?_) (fun h2 => ?_)
    · (try simp only [cx, ne_eq] at h2)
      try (exfalso; (first | omega | exact h2 trivial | contradiction); done)
      all_goals
      refine SatC.region ?_
      refine SatL.pu (RunV.load1 hS rfl rfl (by repeat constructor) rfl) rfl ?_
      refine SatL.pu (RunV.loadN hS rfl rfl (by repeat constructor) (by repeat constructor)) rfl ?_
      refine SatL.op rfl (OpW.buildSlice1 hS rfl rfl rfl rfl rfl (by repeat constructor) rfl rfl rfl ?_)
      clear hS
      intro b22 w5 _ hS
      refine SatL.op rfl (OpW.append1 (by assumption) hS (by repeat constructor) rfl rfl (by repeat constructor) rfl rfl rfl rfl rfl rfl rfl rfl (by first | omega | (simp only [List.length_map]; omega) | (simp only [List.length_append, List.length_map, List.length_cons, List.length_nil]; omega)) rfl ?_)
      clear hS
      intro v23 B23 w6 hsl23 hS
      refine SatL.op rfl (OpW.storeSv hS rfl rfl (by assumption) (by repeat constructor) (by repeat constructor) rfl ?_)
      clear hS
      intro w7 hS
      refine SatL.nil (SatE.blk_normal (SatE.thenC ?_))
      refine SatC.region ?_
      refine SatL.pu (RunV.add rfl rfl (by first | exact wrapI64 (by omega) | rfl)) rfl ?_
      refine SatL.pu (RunV.move rfl) rfl ?_
      refine SatL.nil ?_
      first
      | (refine SatE.again (i + 1, v23, B23) ⟨by omega, ?_, hS.sel (by repeat constructor)⟩ (by dsimp only; omega) (by repeat constructor)
         rw [hcn, show (t (i : Int)).toList = [at_ t i] from by obtain ⟨x, hx⟩ := Option.isSome_iff_exists.1 (by assumption : (t (i : Int)).isSome = true); unfold at_; rw [hx]; rfl, List.map_append]
         exact hsl23)
      | (refine SatE.again (i + 1, v, B) ⟨by omega, ?_, hS.sel (by repeat constructor)⟩ (by dsimp only; omega) (by repeat constructor)
         rw [hcn, show (t (i : Int)).toList = [] from by rw [show t (i : Int) = none from by cases h : t (i : Int) with | none => rfl | some x => simp_all]; rfl, List.append_nil]
         exact hsl)
    · (try simp only [cx, ne_eq] at h2)
      try (exfalso; (first | omega | exact h2 trivial | contradiction); done)
      all_goals
      refine SatC.skip (SatE.blk_normal (SatE.thenC ?_))
      refine SatC.region ?_
      refine SatL.pu (RunV.add rfl rfl (by first | exact wrapI64 (by omega) | rfl)) rfl ?_
      refine SatL.pu (RunV.move rfl) rfl ?_
      refine SatL.nil ?_
      first
      | (refine SatE.again (i + 1, v23, B23) ⟨by omega, ?_, hS.sel (by repeat constructor)⟩ (by dsimp only; omega) (by repeat constructor)
         rw [hcn, show (t (i : Int)).toList = [at_ t i] from by obtain ⟨x, hx⟩ := Option.isSome_iff_exists.1 (by assumption : (t (i : Int)).isSome = true); unfold at_; rw [hx]; rfl, List.map_append]
         exact hsl23)
      | (refine SatE.again (i + 1, v, B) ⟨by omega, ?_, hS.sel (by repeat constructor)⟩ (by dsimp only; omega) (by repeat constructor)
         rw [hcn, show (t (i : Int)).toList = [] from by rw [show t (i : Int) = none from by cases h : t (i : Int) with | none => rfl | some x => simp_all]; rfl, List.append_nil]
         exact hsl)
  · (try simp only [cx, ne_eq] at h1)
    try (exfalso; (first | omega | exact h1 trivial | contradiction); done)
    all_goals
    refine SatC.exit (SatE.then_exit (SatE.then_exit (SatE.blk_exit (SatE.thenC ?_))))
    refine SatC.seq ?_
    refine SatC.region ?_
    refine SatL.pu (RunV.load1 hS rfl rfl (by repeat constructor) rfl) rfl ?_
    refine SatL.pu (RunV.mkIface rfl rfl) rfl ?_
    refine SatL.pu (RunV.mkFunc rfl) rfl ?_
    refine SatL.op rfl (OpW.enter rfl rfl rfl (rfl) (sort_items hsl (hS.ownT (A := (b3, C 50 [v]) :: B) (by repeat constructor)) (by have := coll_len t i; omega)) ?_)
    rintro r3 w3 ⟨rfl, ds, B2, hper, hsrt, hds, h⟩
    replace hS := hS.callT (A := B) (by repeat constructor) h
    refine SatL.nil (SatE.thenC ?_)
    refine SatC.seq ?_
    refine SatC.region ?_
    refine SatL.pu (RunV.load1 hS rfl rfl (by repeat constructor) rfl) rfl ?_
    refine SatL.pu (RunV.assign rfl) rfl ?_
    refine SatL.nil (SatE.thenC ?_)
    refine SatC.ret ?_
    refine SatE.ret1 rfl rfl ?_
    exact ⟨ds, B2, by rw [show i = 8 by omega] at hper; exact hper, hsrt, hds, hro (hS.sel (by repeat constructor))⟩
@[reducible] def rr (x : It) : List Value := [.int .i64 x.n, .int .u32 x.i, .int .i64 x.s, .int .i64 x.c]
theorem list_any (ho : QM o t) (hown : Own w (QO b mb mult wh o)) : Ret Try.prog 7 #[.pointer (some ⟨b, 0, none⟩)] w fun v w' => ∃ (ds : List It) (B : List (Nat × Obj)), ds.Perm (coll t 8) ∧ ds.Pairwise (fun a b => ltI b a = false) ∧ Sl 36 4 v (ds.map rr) B ∧ St w [] B w' := by
  have hS := St.init hown
  simp only [List.map_cons, List.map_nil] at hS
  generalize hX : [b, mb] = X at hS
  have hro : ∀ {L w'}, St w X (L ++ QO b mb mult wh o) w' → St w [] L w' := fun h => St.roL hown (by simp only [List.map_cons, List.map_nil]; rw [hX]; exact h.perm List.perm_append_comm) .here
  refine Ret.enter Try.func7 Try.ntmps7 rfl rfl ?_
  simp only [argEnv, Nat.reduceAdd]
  refine SatC.seq ?_
  refine SatC.region ?_
  refine SatL.pu (RunV.assign rfl) rfl ?_
  refine SatL.nil (SatE.thenC ?_)
  refine SatC.seq ?_
  refine SatC.seq ?_
  refine SatC.region ?_
  refine SatL.pu (RunV.move rfl) rfl ?_
  refine SatL.op rfl (OpW.enter rfl rfl rfl (rfl) (qnone_any (hS.ownT (A := QO b mb mult wh o) (by repeat constructor))) ?_)
  rintro r1 w1 ⟨rfl, h⟩
  replace hS := St.callN hS h
  refine SatL.nil (SatE.thenC ?_)
  refine SatC.cond rfl (fun h1 => ?_) (fun h1 => ?_)
  · (try simp only [cx, ne_eq] at h1)
    try (exfalso; (first | omega | exact h1 trivial | contradiction); done)
    all_goals
    refine SatC.seq ?_
    refine SatC.region ?_
    refine SatL.pu (RunV.assign rfl) rfl ?_
    refine SatL.nil (SatE.thenC ?_)
    refine SatC.ret (SatE.then_ret ?_)
    refine SatE.ret1 rfl rfl ?_
    exact ⟨ds, B, hper, hsrt, by rw [List.take_of_length_le (by omega)] at hsl; exact hsl, hro (hS.sel (by repeat constructor))⟩
  · (try simp only [cx, ne_eq] at h1)
    try (exfalso; (first | omega | exact h1 trivial | contradiction); done)
    all_goals
    refine SatC.skip (SatE.thenC ?_)
    refine SatC.seq ?_
    refine SatC.region ?_
    refine SatL.pu (RunV.assign rfl) rfl ?_
    refine SatL.nil (SatE.thenC ?_)
    refine SatC.seq ?_
    refine SatC.seq ?_
    refine SatC.region ?_
    refine SatL.pu (RunV.move rfl) rfl ?_
    refine SatL.op rfl (OpW.enter rfl rfl rfl (rfl) (ordered_any (by assumption) (hS.ownT (A := QO b mb mult wh o) (by repeat constructor))) ?_)
    rintro r2 w2 ⟨ds, DB, hper, hsrt, hds, h⟩
    replace hS := hS.call0 h
    obtain ⟨cD, hvD⟩ := hds.slv
    simp only [List.length_map] at hvD
    first | refine SatL.pu (RunV.lenR (by assumption) rfl rfl) rfl ?_ | refine SatL.pu (RunV.lenS rfl rfl) rfl ?_
    refine SatL.pu (RunV.move rfl) rfl ?_
    refine SatL.nil (SatE.thenC ?_)
    refine SatC.block ?_
    refine SatC.loopK (G := Nat × Value × List (Nat × Obj)) (V := fun ⟨i, v, B⟩ => [(11, .int .i64 (i : Int)), (3, v)]) (Cn := [(2, _), (9, _), (10, _)]) (I := fun ⟨i, v, B⟩ w' => i ≤ ds.length ∧ Sl 36 4 v ((ds.take i).map rr) B ∧ St w X (DB ++ (B ++ QO b mb mult wh o)) w') (μ := fun ⟨i, v, B⟩ => ds.length - i) (0, .slice none 0 0, []) ?_ (by repeat constructor) ?_
    · exact ⟨Nat.zero_le _, .nil, hS.sel (by repeat constructor)⟩
    clear hS
    rintro ⟨i, v, B⟩ w3 ⟨hi, hsl, hS⟩
    refine SatC.weak (e' := [(2, _), (3, _), (9, _), (10, _), (11, _)]) (by repeat constructor) ?_
    refine SatC.seq ?_
    refine SatC.region ?_
    refine SatL.pu (RunV.lss rfl rfl) rfl ?_
    refine SatL.nil (SatE.thenC ?_)
    refine SatC.seq ?_
    refine SatC.cond rfl (fun h2 => ?_) (fun h2 => ?_)
    · (try simp only [cx, ne_eq] at h2)
      try (exfalso; (first | omega | exact h2 trivial | contradiction); done)
      all_goals
      refine SatC.skip (SatE.thenC ?_)
      refine SatC.seq ?_
      refine SatC.block ?_
      refine SatC.seq ?_
      obtain ⟨y, hy⟩ := get_some ds i (by omega)
      have hdl := coll_len t 8
      have hdp := hper.length_eq
      have hlt : (ds.take i).length ≤ i := List.length_take_le ..
      have htk : ds.take (i + 1) = ds.take i ++ [y] := by rw [List.take_add_one, hy]; rfl
      refine SatC.region ?_
      first | refine SatL.pu (RunV.indexR (by assumption) rfl rfl rfl (by omega) (by omega) rfl) rfl ?_ | refine SatL.pu (RunV.indexS rfl rfl rfl (by omega) (by omega) rfl) rfl ?_
      first | refine SatL.pu (RunV.loadRNz (RdC.st (by assumption) hS List.not_mem_nil) rfl rfl (by first | assumption | exact map_get (by assumption))) rfl ?_ | refine SatL.pu (RunV.loadRNz (Sl.rd (by assumption) hS (by repeat constructor)) rfl rfl (by first | assumption | exact map_get (by assumption))) rfl ?_
      refine SatL.op rfl (OpW.alloc hS rfl rfl (by repeat constructor) ?_)
      clear hS
      intro b5 w4 _ hS
      refine SatL.op rfl (OpW.store hS rfl rfl (by repeat constructor) (by repeat constructor) (by repeat constructor) rfl rfl ?_)
      clear hS
      intro w5 hS
      refine SatL.nil (SatE.thenC ?_)
      refine SatC.region ?_
      refine SatL.pu (RunV.move rfl) rfl ?_
      first | refine SatL.pu (RunV.fieldAddrL rfl rfl rfl) rfl ?_ | refine SatL.pu (RunV.fieldAddr rfl rfl rfl) rfl ?_
      refine SatL.pu (RunV.loadN hS rfl rfl (by repeat constructor) (by repeat constructor)) rfl ?_
      first | refine SatL.pu (RunV.fieldAddrL rfl rfl rfl) rfl ?_ | refine SatL.pu (RunV.fieldAddr rfl rfl rfl) rfl ?_
      refine SatL.pu (RunV.load1 hS rfl rfl (by repeat constructor) rfl) rfl ?_
      refine SatL.pu (RunV.build rfl (by simp [go_sem]; try rfl)) rfl ?_
      refine SatL.op rfl (OpW.buildSlice1 hS rfl rfl rfl rfl rfl (by repeat constructor) rfl rfl rfl ?_)
      clear hS
      intro b21 w6 _ hS
      refine SatL.op rfl (OpW.append1 (by assumption) hS (by repeat constructor) rfl rfl (by repeat constructor) rfl rfl rfl rfl rfl rfl rfl rfl (by first | omega | (simp only [List.length_map]; omega) | (simp only [List.length_append, List.length_map, List.length_cons, List.length_nil]; omega)) rfl ?_)
      clear hS
      intro v22 B22 w7 hsl22 hS
      refine SatL.pu (RunV.assign rfl) rfl ?_
      refine SatL.nil (SatE.blk_normal (SatE.thenC ?_))
      refine SatC.weak (e' := [(2, _), (3, _), (9, _), (10, _), (11, _)]) (by repeat constructor) ?_
      refine SatC.region ?_
      refine SatL.pu (RunV.add rfl rfl (by first | exact wrapI64 (by omega) | rfl)) rfl ?_
      refine SatL.pu (RunV.move rfl) rfl ?_
      refine SatL.nil ?_
      refine SatE.again ((i + 1, v22, B22)) ?_ (by first | omega | (dsimp only; omega)) (by repeat constructor)
      exact ⟨by omega, by rw [htk, List.map_append]; exact hsl22, hS.sel (by repeat constructor)⟩
    · (try simp only [cx, ne_eq] at h2)
      try (exfalso; (first | omega | exact h2 trivial | contradiction); done)
      all_goals
      refine SatC.exit (SatE.then_exit (SatE.then_exit (SatE.blk_exit (SatE.thenC ?_))))
      refine SatC.seq ?_
      refine SatC.region ?_
      refine SatL.pu (RunV.move rfl) rfl ?_
      refine SatL.pu (RunV.assign rfl) rfl ?_
      refine SatL.nil (SatE.thenC ?_)
      refine SatC.ret ?_
      refine SatE.ret1 rfl rfl ?_
      exact ⟨ds, B, hper, hsrt, by rw [List.take_of_length_le (by omega)] at hsl; exact hsl, hro (hS.sel (by repeat constructor))⟩
end
end Go.Proofs.Ytfkalbbdmlinlaa
