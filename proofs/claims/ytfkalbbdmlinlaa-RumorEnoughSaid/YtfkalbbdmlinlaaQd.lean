/- What is taken. -/
import Derived.Test.YtfkalbbdmlinlaaQc
set_option linter.unusedSimpArgs false
set_option linter.unusedVariables false
set_option maxRecDepth 100000
set_option maxHeartbeats 4000000
namespace Go.Proofs.Ytfkalbbdmlinlaa
open Go.RowKit
section
variable {b mb : Nat} {mult wh : Int} {o : Obj} {t : Tab} {w : World}
theorem mem_coll {t : Tab} {n : Nat} {x : It} : x ∈ coll t n ↔ ∃ k : Nat, k < n ∧ t (k : Int) = some x := by
  unfold coll
  rw [List.mem_filterMap]
  constructor
  · rintro ⟨k, hk, h⟩
    exact ⟨k, List.mem_range.1 hk, h⟩
  · rintro ⟨k, hk, h⟩
    exact ⟨k, List.mem_range.2 hk, h⟩
def more (x : It) : It := ⟨x.n, x.i, x.s, x.c + 1, x.w⟩
def takeF (lim : Int) (t : Tab) (x : It) : Tab := setT t x.n (if lim ≤ x.c + 1 then none else some (more x))
theorem kv_put {kvs : List (Int × Value)} {t : Tab} {k : Int} {x : It} (hk : ∀ k, kget kvs k = (t k).map iv) : ∀ j, kget (kput kvs k (iv x)) j = (setT t k (some x) j).map iv := fun j => by
  rw [kget_put, hk]
  unfold setT
  split <;> rfl
theorem set_set (t : Tab) (k : Int) (x y : Option It) : setT (setT t k x) k y = setT t k y := by
  funext j
  unfold setT
  split <;> rfl
def TabB (t : Tab) : Prop := ∀ k x, t k = some x → 0 ≤ x.c ∧ x.c ≤ 1000000
theorem take_any (most m : Int) (hmb : m ≤ 9223372036854775807) (hmu : 0 ≤ mult ∧ mult ≤ 8) (htb : TabB t) (ho : QM o t) (hown : Own w (QO b mb mult wh o)) : Ret Try.prog 8 #[.pointer (some ⟨b, 0, none⟩), .int .i64 most, .int .i64 m] w fun v w' => ∃ (ds : List It) (B : List (Nat × Obj)) (o' : Obj), ds.Perm (coll t 8) ∧ ds.Pairwise (fun a b => ltI b a = false) ∧ Sl 29 3 v ((ds.take most.toNat).map fun x => ud (up x)) B ∧ QM o' ((ds.take most.toNat).foldl (takeF (mult * dg (max m 1))) t) ∧ St w [b, mb] (B ++ QO b mb mult wh o') w' := by
  have hS := St.init hown
  simp only [List.map_cons, List.map_nil] at hS
  obtain ⟨lim, hlim⟩ : ∃ l, mult * dg (max m 1) = l := ⟨_, rfl⟩
  rw [hlim]
  refine Ret.enter Try.func8 Try.ntmps8 rfl rfl ?_
  simp only [argEnv, Nat.reduceAdd]
  refine SatC.seq ?_
  refine SatC.region ?_
  refine SatL.pu (RunV.assign rfl) rfl ?_
  refine SatL.nil (SatE.thenC ?_)
  refine SatC.seq ?_
  refine SatC.seq ?_
  refine SatC.region ?_
  refine SatL.pu (RunV.move rfl) rfl ?_
  refine SatL.op rfl (OpW.enter rfl rfl rfl (rfl) (qnone_any (hS.ownT (A := QO b mb mult wh o) (by repeat constructor))) ?_)
  rintro r1 w1 ⟨rfl, h⟩
  replace hS := St.callN hS h
  refine SatL.nil (SatE.thenC ?_)
  refine SatC.cond rfl (fun h1 => ?_) (fun h1 => ?_)
  · (try simp only [cx, ne_eq] at h1)
    try (exfalso; (first | omega | exact h1 trivial | contradiction); done)
    all_goals
    refine SatC.seq ?_
    refine SatC.region ?_
    refine SatL.pu (RunV.assign rfl) rfl ?_
    refine SatL.nil (SatE.thenC ?_)
    refine SatC.ret (SatE.then_ret ?_)
    refine SatE.ret1 rfl rfl ?_
    first
    | (rw [show i = most.toNat by omega] at hsl hq; exact ⟨ds, B, o, hper, hsrt, hsl, hq, hS.sel (by repeat constructor)⟩)
    | (have hl1 : ds.length ≤ i := by omega
       have hl2 : ds.length ≤ most.toNat := by omega
       rw [List.take_of_length_le hl1, ← List.take_of_length_le hl2] at hsl hq
       exact ⟨ds, B, o, hper, hsrt, hsl, hq, hS.sel (by repeat constructor)⟩)
  · (try simp only [cx, ne_eq] at h1)
    try (exfalso; (first | omega | exact h1 trivial | contradiction); done)
    all_goals
    refine SatC.skip (SatE.thenC ?_)
    refine SatC.seq ?_
    refine SatC.region ?_
    refine SatL.pu (RunV.move rfl) rfl ?_
    refine SatL.pu (RunV.move rfl) rfl ?_
    refine SatL.op rfl (OpW.enter rfl rfl rfl (rfl) (limit_any m hmb hmu (hS.ownT (A := QO b mb mult wh o) (by repeat constructor))) ?_)
    rintro r2 w2 ⟨rfl, h⟩
    replace hS := St.callN hS h
    rw [hlim]
    refine SatL.pu (RunV.assign rfl) rfl ?_
    refine SatL.nil (SatE.thenC ?_)
    refine SatC.seq ?_
    refine SatC.region ?_
    refine SatL.pu (RunV.assign rfl) rfl ?_
    refine SatL.nil (SatE.thenC ?_)
    refine SatC.seq ?_
    refine SatC.seq ?_
    refine SatC.region ?_
    refine SatL.pu (RunV.move rfl) rfl ?_
    refine SatL.op rfl (OpW.enter rfl rfl rfl (rfl) (ordered_any (by assumption) (hS.ownT (A := QO b mb mult wh o) (by repeat constructor))) ?_)
    rintro r3 w3 ⟨ds, DB, hper, hsrt, hds, h⟩
    replace hS := hS.call0 h
    obtain ⟨cD, hvD⟩ := hds.slv
    simp only [List.length_map] at hvD
    first | refine SatL.pu (RunV.lenR (by assumption) rfl rfl) rfl ?_ | refine SatL.pu (RunV.lenS rfl rfl) rfl ?_
    refine SatL.pu (RunV.move rfl) rfl ?_
    refine SatL.nil (SatE.thenC ?_)
    refine SatC.block ?_
    refine SatC.loopK (G := Nat × Value × List (Nat × Obj) × Obj) (V := fun ⟨i, v, B, o⟩ => [(19, .int .i64 (i : Int)), (8, v)]) (Cn := [(0, _), (1, _), (6, _), (7, _), (17, _), (18, _)]) (I := fun ⟨i, v, B, o⟩ w' => i ≤ ds.length ∧ i ≤ most.toNat ∧ Sl 29 3 v ((ds.take i).map fun x => ud (up x)) B ∧ QM o ((ds.take i).foldl (takeF lim) t) ∧ St w [b, mb] (DB ++ (B ++ QO b mb mult wh o)) w') (μ := fun ⟨i, v, B, o⟩ => ds.length - i) (0, .slice none 0 0, [], o) ?_ (by repeat constructor) ?_
    · exact ⟨Nat.zero_le _, Nat.zero_le _, .nil, ho, hS.sel (by repeat constructor)⟩
    clear hS
    rintro ⟨i, v, B, o⟩ w4 ⟨hi, him, hsl, hq, hS⟩
    refine SatC.weak (e' := [(0, _), (1, _), (6, _), (7, _), (8, _), (17, _), (18, _), (19, _)]) (by repeat constructor) ?_
    refine SatC.seq ?_
    refine SatC.region ?_
    refine SatL.pu (RunV.lss rfl rfl) rfl ?_
    refine SatL.nil (SatE.thenC ?_)
    refine SatC.seq ?_
    refine SatC.cond rfl (fun h2 => ?_) (fun h2 => ?_)
    · (try simp only [cx, ne_eq] at h2)
      try (exfalso; (first | omega | exact h2 trivial | contradiction); done)
      all_goals
      refine SatC.skip (SatE.thenC ?_)
      refine SatC.seq ?_
      refine SatC.block ?_
      refine SatC.seq ?_
      obtain ⟨y, hy⟩ := get_some ds i (by omega)
      have hdl := coll_len t 8
      have hdp := hper.length_eq
      have hlt : (ds.take i).length = i := by rw [List.length_take]; omega
      have htk : ds.take (i + 1) = ds.take i ++ [y] := by rw [List.take_add_one, hy]; rfl
      obtain ⟨kk, _, hkk⟩ := mem_coll.1 (hper.mem_iff.1 (List.mem_of_getElem? hy))
      have hyc := htb _ _ hkk
      obtain ⟨kvs, hm, hu, hk⟩ := hq
      obtain ⟨cV, hvV⟩ := hsl.slv
      simp only [List.length_map] at hvV
      rw [hlt] at hvV
      have hfo : (ds.take i ++ [y]).foldl (takeF lim) t = takeF lim ((ds.take i).foldl (takeF lim) t) y := by rw [List.foldl_append]; rfl
      have hq : QM o ((ds.take i).foldl (takeF lim) t) := ⟨kvs, hm, hu, hk⟩
      refine SatC.region ?_
      first | refine SatL.pu (RunV.indexR (by assumption) rfl rfl rfl (by omega) (by omega) rfl) rfl ?_ | refine SatL.pu (RunV.indexS rfl rfl rfl (by omega) (by omega) rfl) rfl ?_
      first | refine SatL.pu (RunV.loadRNz (RdC.st (by assumption) hS List.not_mem_nil) rfl rfl (by first | assumption | exact map_get (by assumption))) rfl ?_ | refine SatL.pu (RunV.loadRNz (Sl.rd (by assumption) hS (by repeat constructor)) rfl rfl (by first | assumption | exact map_get (by assumption))) rfl ?_
      refine SatL.op rfl (OpW.alloc hS rfl rfl (by repeat constructor) ?_)
      clear hS
      intro b10 w5 _ hS
      refine SatL.op rfl (OpW.store hS rfl rfl (by repeat constructor) (by repeat constructor) (by repeat constructor) rfl rfl ?_)
      clear hS
      intro w6 hS
      refine SatL.nil (SatE.thenC ?_)
      refine SatC.seq ?_
      refine SatC.seq ?_
      refine SatC.region ?_
      refine SatL.pu (RunV.move rfl) rfl ?_
      refine SatL.pu (RunV.lenR hvV rfl rfl) rfl ?_
      refine SatL.pu (RunV.move rfl) rfl ?_
      refine SatL.pu (RunV.geq rfl rfl) rfl ?_
      refine SatL.nil (SatE.thenC ?_)
      refine SatC.cond rfl (fun h3 => ?_) (fun h3 => ?_)
      · (try simp only [cx, ne_eq] at h3)
        try (exfalso; (first | omega | exact h3 trivial | contradiction); done)
        all_goals
        refine SatC.exit (SatE.then_exit (SatE.blk_other rfl (SatE.then_exit (SatE.then_exit (SatE.blk_exit (SatE.thenC ?_))))))
        refine SatC.seq ?_
        refine SatC.weak (e' := [(6, _), (8, _)]) (by repeat constructor) ?_
        refine SatC.region ?_
        refine SatL.pu (RunV.move rfl) rfl ?_
        refine SatL.pu (RunV.assign rfl) rfl ?_
        refine SatL.nil (SatE.thenC ?_)
        refine SatC.ret ?_
        refine SatE.ret1 rfl rfl ?_
        first
        | (rw [show i = most.toNat by omega] at hsl hq; exact ⟨ds, B, o, hper, hsrt, hsl, hq, hS.sel (by repeat constructor)⟩)
        | (have hl1 : ds.length ≤ i := by omega
           have hl2 : ds.length ≤ most.toNat := by omega
           rw [List.take_of_length_le hl1, ← List.take_of_length_le hl2] at hsl hq
           exact ⟨ds, B, o, hper, hsrt, hsl, hq, hS.sel (by repeat constructor)⟩)
      · (try simp only [cx, ne_eq] at h3)
        try (exfalso; (first | omega | exact h3 trivial | contradiction); done)
        all_goals
        refine SatC.skip (SatE.thenC ?_)
        refine SatC.seq ?_
        refine SatC.region ?_
        refine SatL.pu (RunV.move rfl) rfl ?_
        first | refine SatL.pu (RunV.fieldAddrL rfl rfl rfl) rfl ?_ | refine SatL.pu (RunV.fieldAddr rfl rfl rfl) rfl ?_
        refine SatL.pu (RunV.loadN hS rfl rfl (by repeat constructor) (by repeat constructor)) rfl ?_
        refine SatL.op rfl (OpW.buildSlice1 hS rfl rfl rfl rfl rfl (by repeat constructor) rfl rfl rfl ?_)
        clear hS
        intro b30 w7 _ hS
        refine SatL.op rfl (OpW.append1 (by assumption) hS (by repeat constructor) rfl rfl (by repeat constructor) rfl rfl rfl rfl rfl rfl rfl rfl (by first | omega | (simp only [List.length_map]; omega) | (simp only [List.length_append, List.length_map, List.length_cons, List.length_nil]; omega)) rfl ?_)
        clear hS
        intro v31 B31 w8 hsl31 hS
        refine SatL.pu (RunV.assign rfl) rfl ?_
        refine SatL.nil (SatE.thenC ?_)
        refine SatC.seq ?_
        refine SatC.weak (e' := [(0, _), (1, _), (6, _), (7, _), (8, _), (10, _), (17, _), (18, _), (19, _)]) (by repeat constructor) ?_
        refine SatC.region ?_
        first | refine SatL.pu (RunV.fieldAddrL rfl rfl rfl) rfl ?_ | refine SatL.pu (RunV.fieldAddr rfl rfl rfl) rfl ?_
        refine SatL.pu (RunV.load1 hS rfl rfl (by repeat constructor) rfl) rfl ?_
        refine SatL.pu (RunV.add rfl rfl (by first | exact wrapI64 (by omega) | rfl)) rfl ?_
        first | refine SatL.pu (RunV.fieldAddrL rfl rfl rfl) rfl ?_ | refine SatL.pu (RunV.fieldAddr rfl rfl rfl) rfl ?_
        refine SatL.op rfl (OpW.store hS rfl rfl (by repeat constructor) (by repeat constructor) (by repeat constructor) rfl rfl ?_)
        clear hS
        intro w9 hS
        refine SatL.nil (SatE.thenC ?_)
        refine SatC.seq ?_
        refine SatC.drawnT 8 hS (hS) (by kernel_rfl) ?_
        clear hS
        intro w10 hh hS hD
        refine SatD.tk 0 rfl hD (fun _ hw => RunV.move rfl) ?_
        first | refine SatD.tk 1 rfl hD (fun _ hw => RunV.nil_ptr rfl) ?_ | refine SatD.tk 1 rfl hD (fun _ hw => RunV.nil_func rfl) ?_ | refine SatD.tk 1 rfl hD (fun _ hw => RunV.nil_yield rfl) ?_
        first | refine SatD.tk 2 rfl hD (fun _ hw => RunV.fieldAddrL rfl rfl rfl) ?_ | refine SatD.tk 2 rfl hD (fun _ hw => RunV.fieldAddr rfl rfl rfl) ?_
        refine SatD.tk 3 rfl hD (fun _ hw => RunV.load1 hw rfl rfl (by repeat constructor) rfl) ?_
        first | refine SatD.tk 4 rfl hD (fun _ hw => RunV.fieldAddrL rfl rfl rfl) ?_ | refine SatD.tk 4 rfl hD (fun _ hw => RunV.fieldAddr rfl rfl rfl) ?_
        first | refine SatD.tk 5 rfl hD (fun _ hw => RunV.fieldAddrL rfl rfl rfl) ?_ | refine SatD.tk 5 rfl hD (fun _ hw => RunV.fieldAddr rfl rfl rfl) ?_
        refine SatD.tk 6 rfl hD (fun _ hw => RunV.load1 hw rfl rfl (by repeat constructor) rfl) ?_
        refine SatD.tk 7 rfl hD (fun _ hw => RunV.loadN hw rfl rfl (by repeat constructor) (by repeat constructor)) ?_
        refine SatD.effF (by kernel_rfl) rfl rfl (OpW.mapUpdate (keyInt rfl) hS rfl rfl rfl rfl (by assumption) _ (fun o' => by repeat constructor) ?_)
        clear hS
        intro o11 w11 ho11 hS
        refine SatD.done 0 (by kernel_rfl) (SatE.thenC ?_)
        clear hD
        refine SatC.seq ?_
        refine SatC.weak (e' := [(0, _), (1, _), (6, _), (7, _), (8, _), (10, _), (17, _), (18, _), (19, _)]) (by repeat constructor) ?_
        refine SatC.region ?_
        first | refine SatL.pu (RunV.fieldAddrL rfl rfl rfl) rfl ?_ | refine SatL.pu (RunV.fieldAddr rfl rfl rfl) rfl ?_
        refine SatL.pu (RunV.load1 hS rfl rfl (by repeat constructor) rfl) rfl ?_
        refine SatL.pu (RunV.move rfl) rfl ?_
        refine SatL.pu (RunV.geq rfl rfl) rfl ?_
        refine SatL.nil (SatE.thenC ?_)
        refine SatC.cond rfl (fun h4 => ?_) (fun h4 => ?_)
        · (try simp only [cx, ne_eq] at h4)
          try (exfalso; (first | omega | exact h4 trivial | contradiction); done)
          all_goals
          refine SatC.drawnT 7 hS (hS) (by kernel_rfl) ?_
          clear hS
          intro w12 hh hS hD
          refine SatD.tkp 0 rfl [3, 2, 1] hD (fun _ hw => RunV.move rfl) ?_
          first | refine SatD.tkp 1 rfl [3, 2] hD (fun _ hw => RunV.nil_ptr rfl) ?_ | refine SatD.tkp 1 rfl [3, 2] hD (fun _ hw => RunV.nil_func rfl) ?_ | refine SatD.tkp 1 rfl [3, 2] hD (fun _ hw => RunV.nil_yield rfl) ?_
          first | refine SatD.tkp 2 rfl [3] hD (fun _ hw => RunV.fieldAddrL rfl rfl rfl) ?_ | refine SatD.tkp 2 rfl [3] hD (fun _ hw => RunV.fieldAddr rfl rfl rfl) ?_
          refine SatD.tk 3 rfl hD (fun _ hw => RunV.load1 hw rfl rfl (by repeat constructor) rfl) ?_
          first | refine SatD.tkp 4 rfl [6, 5] hD (fun _ hw => RunV.fieldAddrL rfl rfl rfl) ?_ | refine SatD.tkp 4 rfl [6, 5] hD (fun _ hw => RunV.fieldAddr rfl rfl rfl) ?_
          first | refine SatD.tkp 5 rfl [6] hD (fun _ hw => RunV.fieldAddrL rfl rfl rfl) ?_ | refine SatD.tkp 5 rfl [6] hD (fun _ hw => RunV.fieldAddr rfl rfl rfl) ?_
          refine SatD.tk 6 rfl hD (fun _ hw => RunV.load1 hw rfl rfl (by repeat constructor) rfl) ?_
          refine SatD.effF (by kernel_rfl) rfl rfl (OpW.delete (keyInt rfl) hS rfl rfl rfl (by assumption) _ (fun o' => by repeat constructor) ?_)
          clear hS
          intro o13 w13 ho13 hS
          refine SatD.done 0 (by kernel_rfl) (SatE.blk_normal (SatE.thenC ?_))
          clear hD
          refine SatC.weak (e' := [(0, _), (1, _), (6, _), (7, _), (8, _), (17, _), (18, _), (19, _)]) (by repeat constructor) ?_
          refine SatC.region ?_
          refine SatL.pu (RunV.add rfl rfl (by first | exact wrapI64 (by omega) | rfl)) rfl ?_
          refine SatL.pu (RunV.move rfl) rfl ?_
          refine SatL.nil ?_
          first
          | (refine SatE.again (i + 1, v31, B31, o13) ⟨by omega, by omega, ?_, ?_, hS.sel (by repeat constructor)⟩ (by dsimp only; omega) (by repeat constructor)
             · rw [htk, List.map_append]; exact hsl31
             · rw [htk, hfo]
               unfold takeF
               rw [if_pos (by assumption), ← set_set _ y.n (some (more y)) none]
               exact qm_del ho13 (uniq_put hu _ _) (kv_put (x := more y) hk))
          | (refine SatE.again (i + 1, v31, B31, o11) ⟨by omega, by omega, ?_, ?_, hS.sel (by repeat constructor)⟩ (by dsimp only; omega) (by repeat constructor)
             · rw [htk, List.map_append]; exact hsl31
             · rw [htk, hfo]
               unfold takeF
               rw [if_neg (by omega)]
               exact qm_put (x := more y) ho11 hu hk)
        · (try simp only [cx, ne_eq] at h4)
          try (exfalso; (first | omega | exact h4 trivial | contradiction); done)
          all_goals
          refine SatC.skip (SatE.blk_normal (SatE.thenC ?_))
          refine SatC.region ?_
          refine SatL.pu (RunV.add rfl rfl (by first | exact wrapI64 (by omega) | rfl)) rfl ?_
          refine SatL.pu (RunV.move rfl) rfl ?_
          refine SatL.nil ?_
          first
          | (refine SatE.again (i + 1, v31, B31, o13) ⟨by omega, by omega, ?_, ?_, hS.sel (by repeat constructor)⟩ (by dsimp only; omega) (by repeat constructor)
             · rw [htk, List.map_append]; exact hsl31
             · rw [htk, hfo]
               unfold takeF
               rw [if_pos (by assumption), ← set_set _ y.n (some (more y)) none]
               exact qm_del ho13 (uniq_put hu _ _) (kv_put (x := more y) hk))
          | (refine SatE.again (i + 1, v31, B31, o11) ⟨by omega, by omega, ?_, ?_, hS.sel (by repeat constructor)⟩ (by dsimp only; omega) (by repeat constructor)
             · rw [htk, List.map_append]; exact hsl31
             · rw [htk, hfo]
               unfold takeF
               rw [if_neg (by omega)]
               exact qm_put (x := more y) ho11 hu hk)
    · (try simp only [cx, ne_eq] at h2)
      try (exfalso; (first | omega | exact h2 trivial | contradiction); done)
      all_goals
      refine SatC.exit (SatE.then_exit (SatE.then_exit (SatE.blk_exit (SatE.thenC ?_))))
      refine SatC.seq ?_
      refine SatC.region ?_
      refine SatL.pu (RunV.move rfl) rfl ?_
      refine SatL.pu (RunV.assign rfl) rfl ?_
      refine SatL.nil (SatE.thenC ?_)
      refine SatC.ret ?_
      refine SatE.ret1 rfl rfl ?_
      first
      | (rw [show i = most.toNat by omega] at hsl hq; exact ⟨ds, B, o, hper, hsrt, hsl, hq, hS.sel (by repeat constructor)⟩)
      | (have hl1 : ds.length ≤ i := by omega
         have hl2 : ds.length ≤ most.toNat := by omega
         rw [List.take_of_length_le hl1, ← List.take_of_length_le hl2] at hsl hq
         exact ⟨ds, B, o, hper, hsrt, hsl, hq, hS.sel (by repeat constructor)⟩)
end
end Go.Proofs.Ytfkalbbdmlinlaa
