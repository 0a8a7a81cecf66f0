/- none, full, ids, Node, New. -/
import Derived.Test.YtbnkcagcfbpiiaaLa
set_option linter.unusedSimpArgs false
set_option linter.unusedVariables false
set_option maxRecDepth 100000
set_option maxHeartbeats 4000000
namespace Go.Proofs.Ytbnkcagcfbpiiaa
open Go.RowKit
section
variable {b ms mc : Nat} {n : Int} {a : List UInt8} {w : World}
theorem lnone_any (hown : Own w [(b, C 63 (lcc n a ms mc))]) : Ret Try.prog 28 #[.pointer (some ⟨b, 0, none⟩)] w fun u w' => u = .bool false ∧ St w [] [] w' := by
  have hS := St.init hown
  simp only [List.map_cons, List.map_nil] at hS
  refine Ret.enter Try.func28 Try.ntmps28 rfl rfl ?_
  simp only [argEnv, Nat.reduceAdd]
  refine SatC.seq ?_
  refine SatC.region ?_
  refine SatL.pu (RunV.assign rfl) rfl ?_
  refine SatL.nil (SatE.thenC ?_)
  refine SatC.seq ?_
  refine SatC.region ?_
  refine SatL.pu (RunV.move rfl) rfl ?_
  refine SatL.pu (RunV.eqlPtrNil rfl rfl rfl) rfl ?_
  refine SatL.pu (RunV.move rfl) rfl ?_
  refine SatL.guard rfl rfl rfl (fun h1 => ?_) (fun h1 => ?_)
  · (try simp only [cx, ne_eq] at h1)
    try (exfalso; (first | omega | exact h1 trivial | contradiction | (first | omega | (simp at h1; done))); done)
    all_goals
    refine SatL.pu (RunV.move rfl) rfl ?_
    refine SatL.guard_y rfl rfl ?_
    first | refine SatL.pu (RunV.nil_ptr rfl) rfl ?_ | refine SatL.pu (RunV.nil_func rfl) rfl ?_ | refine SatL.pu (RunV.nil_yield rfl) rfl ?_
    refine SatL.guard_y rfl rfl ?_
    first | refine SatL.pu (RunV.fieldAddrL rfl rfl rfl) rfl ?_ | refine SatL.pu (RunV.fieldAddr rfl rfl rfl) rfl ?_
    refine SatL.guard_y rfl rfl ?_
    refine SatL.pu (RunV.load1 hS rfl rfl (by repeat constructor) rfl) rfl ?_
    refine SatL.guard_y rfl rfl ?_
    refine SatL.pu (RunV.eqlMapNil rfl rfl rfl) rfl ?_
    refine SatL.pu (RunV.pick_f rfl rfl) rfl ?_
    refine SatL.pu (RunV.assign rfl) rfl ?_
    refine SatL.nil (SatE.thenC ?_)
    refine SatC.ret ?_
    refine SatE.ret1 rfl rfl ?_
    exact ⟨by simp_all, St.ro hown hS (by repeat constructor)⟩
  · (try simp only [cx, ne_eq] at h1)
    try (exfalso; (first | omega | exact h1 trivial | contradiction | (first | omega | (simp at h1; done))); done)
    all_goals
    refine SatL.guard_n rfl rfl rfl rfl ?_
    refine SatL.guard_n rfl rfl rfl rfl ?_
    refine SatL.guard_n rfl rfl rfl rfl ?_
    refine SatL.guard_n rfl rfl rfl rfl ?_
    refine SatL.pu (RunV.pick_t rfl rfl) rfl ?_
    refine SatL.pu (RunV.assign rfl) rfl ?_
    refine SatL.nil (SatE.thenC ?_)
    refine SatC.ret ?_
    refine SatE.ret1 rfl rfl ?_
    exact ⟨by simp_all, St.ro hown hS (by repeat constructor)⟩
theorem fullS_any (l : List Sv) (htv : ∀ s ∈ l, s.tv.oneCell' = true) (k : List UInt8) (m : Nat) (o : Obj) (hmp : Mp str o (skv n l)) (hown : Own w [(m, o)]) : Ret Try.prog 59 #[.map (some m), str k] w fun u w' => u = .bool (decide (gt Sv.id l k = none ∧ 16 ≤ l.length)) ∧ St w [] [] w' := by
  have hS := St.init hown
  simp only [List.map_cons, List.map_nil] at hS
  have hro : ∀ {L w'}, St w [m] (L ++ [(m, o)]) w' → St w [] L w' := fun h => St.roL hown (by simpa only [List.map_cons, List.map_nil] using h.perm List.perm_append_comm) .here
  have hi := hmp.is
  have hle : (skv n l).length = l.length := List.length_map ..
  cases hq : gt Sv.id l k with
  | none =>
    refine Ret.enter Try.func59 Try.ntmps59 rfl rfl ?_
    simp only [argEnv, Nat.reduceAdd]
    refine SatC.seq ?_
    refine SatC.region ?_
    refine SatL.pu (RunV.assign rfl) rfl ?_
    refine SatL.nil (SatE.thenC ?_)
    refine SatC.seq ?_
    refine SatC.region ?_
    refine SatL.pu (RunV.move rfl) rfl ?_
    refine SatL.pu (RunV.move rfl) rfl ?_
    refine SatL.pu (RunV.cast (RunV.lookup2 (keyL rfl) hS rfl rfl rfl rfl (by repeat constructor) hi) (by rw [kget_v, hq])) rfl ?_
    refine SatL.pu (RunV.move rfl) rfl ?_
    refine SatL.pu (RunV.extract rfl rfl) rfl ?_
    refine SatL.pu (RunV.extract rfl rfl) rfl ?_
    refine SatL.op rfl (OpW.alloc hS rfl rfl (by repeat constructor) ?_)
    clear hS
    intro b5 w1 _ hS
    refine SatL.op rfl (OpW.store hS rfl rfl (by repeat constructor) (by repeat constructor) (by repeat constructor) rfl rfl ?_)
    clear hS
    intro w2 hS
    refine SatL.pu (RunV.assign rfl) rfl ?_
    refine SatL.nil (SatE.thenC ?_)
    refine SatC.seq ?_
    refine SatC.region ?_
    refine SatL.pu (RunV.move rfl) rfl ?_
    refine SatL.pu (RunV.not rfl) rfl ?_
    refine SatL.pu (RunV.move rfl) rfl ?_
    refine SatL.guard rfl rfl rfl (fun h1 => ?_) (fun h1 => ?_)
    · (try simp only [cx, ne_eq] at h1)
      try (exfalso; (first | omega | exact h1 trivial | contradiction | (first | omega | (simp at h1; done))); done)
      all_goals
      refine SatL.pu (RunV.move rfl) rfl ?_
      refine SatL.guard_y rfl rfl ?_
      refine SatL.pu (RunV.lenM hS rfl rfl (by repeat constructor) (by assumption)) rfl ?_
      refine SatL.guard_y rfl rfl ?_
      refine SatL.pu (RunV.geq rfl rfl) rfl ?_
      refine SatL.pu (RunV.pick_t rfl rfl) rfl ?_
      refine SatL.pu (RunV.assign rfl) rfl ?_
      refine SatL.nil (SatE.thenC ?_)
      refine SatC.ret ?_
      refine SatE.ret1 rfl rfl ?_
      exact ⟨by simp_all <;> omega, hro (L := []) (hS.sel (by repeat constructor))⟩
    · (try simp only [cx, ne_eq] at h1)
      try (exfalso; (first | omega | exact h1 trivial | contradiction | (first | omega | (simp at h1; done))); done)
      all_goals
      refine SatL.guard_n rfl rfl rfl rfl ?_
      refine SatL.guard_n rfl rfl rfl rfl ?_
      refine SatL.pu (RunV.pick_f rfl rfl) rfl ?_
      refine SatL.pu (RunV.assign rfl) rfl ?_
      refine SatL.nil (SatE.thenC ?_)
      refine SatC.ret ?_
      refine SatE.ret1 rfl rfl ?_
      exact ⟨by simp_all <;> omega, hro (L := []) (hS.sel (by repeat constructor))⟩
  | some x =>
    refine Ret.enter Try.func59 Try.ntmps59 rfl rfl ?_
    simp only [argEnv, Nat.reduceAdd]
    refine SatC.seq ?_
    refine SatC.region ?_
    refine SatL.pu (RunV.assign rfl) rfl ?_
    refine SatL.nil (SatE.thenC ?_)
    refine SatC.seq ?_
    refine SatC.region ?_
    refine SatL.pu (RunV.move rfl) rfl ?_
    refine SatL.pu (RunV.move rfl) rfl ?_
    refine SatL.pu (RunV.cast (v' := .tuple #[.agg (svc n x).toArray, .bool true]) (RunV.lookup2 (keyL rfl) hS rfl rfl rfl rfl (by repeat constructor) hi) (by rw [kget_v, hq]; rfl)) rfl ?_
    refine SatL.pu (RunV.move rfl) rfl ?_
    refine SatL.pu (RunV.extract rfl rfl) rfl ?_
    refine SatL.pu (RunV.extract rfl rfl) rfl ?_
    refine SatL.op rfl (OpW.alloc hS rfl rfl (by repeat constructor) ?_)
    clear hS
    intro b5 w1 _ hS
    refine SatL.op rfl (OpW.store hS rfl rfl (by repeat constructor) (by repeat constructor) (by repeat constructor) rfl (svc_one (htv x (gt_mem hq).1)) ?_)
    clear hS
    intro w2 hS
    refine SatL.pu (RunV.assign rfl) rfl ?_
    refine SatL.nil (SatE.thenC ?_)
    refine SatC.seq ?_
    refine SatC.region ?_
    refine SatL.pu (RunV.move rfl) rfl ?_
    refine SatL.pu (RunV.not rfl) rfl ?_
    refine SatL.pu (RunV.move rfl) rfl ?_
    refine SatL.guard rfl rfl rfl (fun h1 => ?_) (fun h1 => ?_)
    · (try simp only [cx, ne_eq] at h1)
      try (exfalso; (first | omega | exact h1 trivial | contradiction | (first | omega | (simp at h1; done))); done)
      all_goals
      refine SatL.pu (RunV.move rfl) rfl ?_
      refine SatL.guard_y rfl rfl ?_
      refine SatL.pu (RunV.lenM hS rfl rfl (by repeat constructor) (by assumption)) rfl ?_
      refine SatL.guard_y rfl rfl ?_
      refine SatL.pu (RunV.geq rfl rfl) rfl ?_
      refine SatL.pu (RunV.pick_t rfl rfl) rfl ?_
      refine SatL.pu (RunV.assign rfl) rfl ?_
      refine SatL.nil (SatE.thenC ?_)
      refine SatC.ret ?_
      refine SatE.ret1 rfl rfl ?_
      exact ⟨by simp_all <;> omega, hro (L := []) (hS.sel (by repeat constructor))⟩
    · (try simp only [cx, ne_eq] at h1)
      try (exfalso; (first | omega | exact h1 trivial | contradiction | (first | omega | (simp at h1; done))); done)
      all_goals
      refine SatL.guard_n rfl rfl rfl rfl ?_
      refine SatL.guard_n rfl rfl rfl rfl ?_
      refine SatL.pu (RunV.pick_f rfl rfl) rfl ?_
      refine SatL.pu (RunV.assign rfl) rfl ?_
      refine SatL.nil (SatE.thenC ?_)
      refine SatC.ret ?_
      refine SatE.ret1 rfl rfl ?_
      exact ⟨by simp_all <;> omega, hro (L := []) (hS.sel (by repeat constructor))⟩
theorem fullC_any (l : List Ch) (k : List UInt8) (m : Nat) (o : Obj) (hmp : Mp str o (ckv n l)) (hown : Own w [(m, o)]) : Ret Try.prog 49 #[.map (some m), str k] w fun u w' => u = .bool (decide (gt Ch.id l k = none ∧ 16 ≤ l.length)) ∧ St w [] [] w' := by
  have hS := St.init hown
  simp only [List.map_cons, List.map_nil] at hS
  have hro : ∀ {L w'}, St w [m] (L ++ [(m, o)]) w' → St w [] L w' := fun h => St.roL hown (by simpa only [List.map_cons, List.map_nil] using h.perm List.perm_append_comm) .here
  have hi := hmp.is
  have hle : (ckv n l).length = l.length := List.length_map ..
  cases hq : gt Ch.id l k with
  | none =>
    refine Ret.enter Try.func49 Try.ntmps49 rfl rfl ?_
    simp only [argEnv, Nat.reduceAdd]
    refine SatC.seq ?_
    refine SatC.region ?_
    refine SatL.pu (RunV.assign rfl) rfl ?_
    refine SatL.nil (SatE.thenC ?_)
    refine SatC.seq ?_
    refine SatC.region ?_
    refine SatL.pu (RunV.move rfl) rfl ?_
    refine SatL.pu (RunV.move rfl) rfl ?_
    refine SatL.pu (RunV.cast (RunV.lookup2 (keyL rfl) hS rfl rfl rfl rfl (by repeat constructor) hi) (by rw [kget_v, hq])) rfl ?_
    refine SatL.pu (RunV.move rfl) rfl ?_
    refine SatL.pu (RunV.extract rfl rfl) rfl ?_
    refine SatL.pu (RunV.extract rfl rfl) rfl ?_
    refine SatL.op rfl (OpW.alloc hS rfl rfl (by repeat constructor) ?_)
    clear hS
    intro b5 w1 _ hS
    refine SatL.op rfl (OpW.store hS rfl rfl (by repeat constructor) (by repeat constructor) (by repeat constructor) rfl rfl ?_)
    clear hS
    intro w2 hS
    refine SatL.pu (RunV.assign rfl) rfl ?_
    refine SatL.nil (SatE.thenC ?_)
    refine SatC.seq ?_
    refine SatC.region ?_
    refine SatL.pu (RunV.move rfl) rfl ?_
    refine SatL.pu (RunV.not rfl) rfl ?_
    refine SatL.pu (RunV.move rfl) rfl ?_
    refine SatL.guard rfl rfl rfl (fun h1 => ?_) (fun h1 => ?_)
    · (try simp only [cx, ne_eq] at h1)
      try (exfalso; (first | omega | exact h1 trivial | contradiction | (first | omega | (simp at h1; done))); done)
      all_goals
      refine SatL.pu (RunV.move rfl) rfl ?_
      refine SatL.guard_y rfl rfl ?_
      refine SatL.pu (RunV.lenM hS rfl rfl (by repeat constructor) (by assumption)) rfl ?_
      refine SatL.guard_y rfl rfl ?_
      refine SatL.pu (RunV.geq rfl rfl) rfl ?_
      refine SatL.pu (RunV.pick_t rfl rfl) rfl ?_
      refine SatL.pu (RunV.assign rfl) rfl ?_
      refine SatL.nil (SatE.thenC ?_)
      refine SatC.ret ?_
      refine SatE.ret1 rfl rfl ?_
      exact ⟨by simp_all <;> omega, hro (L := []) (hS.sel (by repeat constructor))⟩
    · (try simp only [cx, ne_eq] at h1)
      try (exfalso; (first | omega | exact h1 trivial | contradiction | (first | omega | (simp at h1; done))); done)
      all_goals
      refine SatL.guard_n rfl rfl rfl rfl ?_
      refine SatL.guard_n rfl rfl rfl rfl ?_
      refine SatL.pu (RunV.pick_f rfl rfl) rfl ?_
      refine SatL.pu (RunV.assign rfl) rfl ?_
      refine SatL.nil (SatE.thenC ?_)
      refine SatC.ret ?_
      refine SatE.ret1 rfl rfl ?_
      exact ⟨by simp_all <;> omega, hro (L := []) (hS.sel (by repeat constructor))⟩
  | some x =>
    refine Ret.enter Try.func49 Try.ntmps49 rfl rfl ?_
    simp only [argEnv, Nat.reduceAdd]
    refine SatC.seq ?_
    refine SatC.region ?_
    refine SatL.pu (RunV.assign rfl) rfl ?_
    refine SatL.nil (SatE.thenC ?_)
    refine SatC.seq ?_
    refine SatC.region ?_
    refine SatL.pu (RunV.move rfl) rfl ?_
    refine SatL.pu (RunV.move rfl) rfl ?_
    refine SatL.pu (RunV.cast (v' := .tuple #[.agg (chv n x).toArray, .bool true]) (RunV.lookup2 (keyL rfl) hS rfl rfl rfl rfl (by repeat constructor) hi) (by rw [kget_v, hq]; rfl)) rfl ?_
    refine SatL.pu (RunV.move rfl) rfl ?_
    refine SatL.pu (RunV.extract rfl rfl) rfl ?_
    refine SatL.pu (RunV.extract rfl rfl) rfl ?_
    refine SatL.op rfl (OpW.alloc hS rfl rfl (by repeat constructor) ?_)
    clear hS
    intro b5 w1 _ hS
    refine SatL.op rfl (OpW.store hS rfl rfl (by repeat constructor) (by repeat constructor) (by repeat constructor) rfl rfl ?_)
    clear hS
    intro w2 hS
    refine SatL.pu (RunV.assign rfl) rfl ?_
    refine SatL.nil (SatE.thenC ?_)
    refine SatC.seq ?_
    refine SatC.region ?_
    refine SatL.pu (RunV.move rfl) rfl ?_
    refine SatL.pu (RunV.not rfl) rfl ?_
    refine SatL.pu (RunV.move rfl) rfl ?_
    refine SatL.guard rfl rfl rfl (fun h1 => ?_) (fun h1 => ?_)
    · (try simp only [cx, ne_eq] at h1)
      try (exfalso; (first | omega | exact h1 trivial | contradiction | (first | omega | (simp at h1; done))); done)
      all_goals
      refine SatL.pu (RunV.move rfl) rfl ?_
      refine SatL.guard_y rfl rfl ?_
      refine SatL.pu (RunV.lenM hS rfl rfl (by repeat constructor) (by assumption)) rfl ?_
      refine SatL.guard_y rfl rfl ?_
      refine SatL.pu (RunV.geq rfl rfl) rfl ?_
      refine SatL.pu (RunV.pick_t rfl rfl) rfl ?_
      refine SatL.pu (RunV.assign rfl) rfl ?_
      refine SatL.nil (SatE.thenC ?_)
      refine SatC.ret ?_
      refine SatE.ret1 rfl rfl ?_
      exact ⟨by simp_all <;> omega, hro (L := []) (hS.sel (by repeat constructor))⟩
    · (try simp only [cx, ne_eq] at h1)
      try (exfalso; (first | omega | exact h1 trivial | contradiction | (first | omega | (simp at h1; done))); done)
      all_goals
      refine SatL.guard_n rfl rfl rfl rfl ?_
      refine SatL.guard_n rfl rfl rfl rfl ?_
      refine SatL.pu (RunV.pick_f rfl rfl) rfl ?_
      refine SatL.pu (RunV.assign rfl) rfl ?_
      refine SatL.nil (SatE.thenC ?_)
      refine SatC.ret ?_
      refine SatE.ret1 rfl rfl ?_
      exact ⟨by simp_all <;> omega, hro (L := []) (hS.sel (by repeat constructor))⟩
theorem idsS_any (l : List Sv) (hl : l.length ≤ 16) (m : Nat) (o : Obj) (hmp : Mp str o (skv n l)) (hown : Own w [(m, o)]) : Ret Try.prog 29 #[.map (some m)] w fun u w' => ∃ AB, Sl 9 1 u ((srt (l.map Sv.id)).map rs) AB ∧ St w [] AB w' := by
  have hS := St.init hown
  simp only [List.map_cons, List.map_nil] at hS
  have hro : ∀ {L w'}, St w [m] (L ++ [(m, o)]) w' → St w [] L w' := fun h => St.roL hown (by simpa only [List.map_cons, List.map_nil] using h.perm List.perm_append_comm) .here
  have hkv : (skv n l).map Prod.fst = l.map Sv.id := by rw [List.map_map]; rfl
  refine Ret.enter Try.func29 Try.ntmps29 rfl rfl ?_
  simp only [argEnv, Nat.reduceAdd]
  refine SatC.seq ?_
  refine SatC.region ?_
  refine SatL.pu (RunV.assign rfl) rfl ?_
  refine SatL.nil (SatE.thenC ?_)
  refine SatC.seq ?_
  refine SatC.region ?_
  refine SatL.pu (RunV.assign rfl) rfl ?_
  refine SatL.nil (SatE.thenC ?_)
  refine SatC.seq ?_
  refine SatC.seq ?_
  refine SatC.region ?_
  refine SatL.pu (RunV.move rfl) rfl ?_
  refine SatL.op rfl (OpW.rangeM hS rfl rfl (by repeat constructor) hmp rfl ?_)
  clear hS
  intro b6 ro6 w1 _ hit hS
  refine SatL.nil (SatE.thenC ?_)
  refine SatC.block ?_
  refine SatC.loopK (G := List (List UInt8 × Value) × List (List UInt8) × Value × List (Nat × Obj) × Obj × Option (List UInt8 × Value)) (V := fun ⟨left, acc, av, AB, ro, cur⟩ => [(3, av)]) (Cn := [(2, _), (6, _)]) (I := fun ⟨left, acc, av, AB, ro, cur⟩ w' => It str m ro o left cur ∧ (acc ++ left.map Prod.fst).Perm (l.map Sv.id) ∧ Sl 9 1 av (acc.map rs) AB ∧ St w [m] (AB ++ [(b6, ro), (m, o)]) w') (μ := fun ⟨left, acc, av, AB, ro, cur⟩ => left.length) (skv n l, [], .slice none 0 0, [], ro6, none) ?_ (by repeat constructor) ?_
  · exact ⟨hit, by rw [hkv, List.nil_append], .nil, hS⟩
  clear hS
  rintro ⟨left, acc, av, AB, ro, cur⟩ w2 ⟨hit, hpm, hsa, hS⟩
  refine SatC.weak (e' := [(2, _), (3, _), (6, _)]) (by repeat constructor) ?_
  refine SatC.seq ?_
  refine SatC.region ?_
  refine SatL.op rfl (OpW.nextM hS rfl (by repeat constructor) hit _ (fun ro' => by repeat constructor) rfl ?_ ?_)
  · skip
    intro hnil
    refine SatL.pu (RunV.extract rfl rfl) rfl ?_
    refine SatL.nil (SatE.thenC ?_)
    refine SatC.seq ?_
    refine SatC.cond_f rfl ?_
    refine SatC.exit (SatE.then_exit (SatE.then_exit (SatE.blk_exit (SatE.thenC ?_))))
    refine SatC.seq ?_
    subst hnil
    rw [List.map_nil, List.append_nil] at hpm
    have hal : acc.length = l.length := by have := hpm.length_eq; simpa using this
    refine SatC.region ?_
    refine SatL.pu (RunV.move rfl) rfl ?_
    refine SatL.op rfl (OpW.enter rfl rfl rfl (rfl) (sort_any acc hsa (hS.ownT (A := AB) (by repeat constructor)) (by omega)) ?_)
    rintro r4 w4 ⟨rfl, B5, hsl5, h⟩
    replace hS := hS.callT (A := AB) (by repeat constructor) h
    refine SatL.nil (SatE.thenC ?_)
    refine SatC.seq ?_
    refine SatC.region ?_
    refine SatL.pu (RunV.move rfl) rfl ?_
    refine SatL.pu (RunV.assign rfl) rfl ?_
    refine SatL.nil (SatE.thenC ?_)
    refine SatC.ret ?_
    refine SatE.ret1 rfl rfl ?_
    exact ⟨B5, by rw [← srt_perm hpm]; exact hsl5, hro (hS.sel (by repeat constructor))⟩
  · skip
    clear hS
    intro i7 p7 ro7 w3 hget hit2 hS
    refine SatL.pu (RunV.extract rfl rfl) rfl ?_
    refine SatL.nil (SatE.thenC ?_)
    refine SatC.seq ?_
    refine SatC.cond_t rfl ?_
    refine SatC.skip (SatE.thenC ?_)
    refine SatC.block ?_
    refine SatC.seq ?_
    refine SatC.region ?_
    refine SatL.pu (RunV.entryM hS rfl (by repeat constructor) (by repeat constructor) hit2) rfl ?_
    refine SatL.pu (RunV.extract rfl rfl) rfl ?_
    refine SatL.pu (RunV.assign rfl) rfl ?_
    refine SatL.nil (SatE.thenC ?_)
    have hll : acc.length + left.length = l.length := by have := hpm.length_eq; simpa using this
    have hpl := (erase_perm hget).length_eq
    rw [List.length_cons] at hpl
    refine SatC.region ?_
    refine SatL.pu (RunV.move rfl) rfl ?_
    refine SatL.pu (RunV.move rfl) rfl ?_
    refine SatL.op rfl (OpW.buildSlice1 hS rfl rfl rfl rfl rfl (by repeat constructor) rfl rfl rfl ?_)
    clear hS
    intro b13 w4 _ hS
    refine SatL.op rfl (OpW.append1 hsa hS (by repeat constructor) rfl rfl (by repeat constructor) rfl rfl rfl rfl rfl rfl rfl rfl (by rw [List.length_map]; omega) rfl ?_)
    clear hS
    intro v14 B14 w5 hsl14 hS
    refine SatL.pu (RunV.assign rfl) rfl ?_
    refine SatL.nil (SatE.blk_normal ?_)
    refine SatE.again ((left.eraseIdx i7, acc ++ [p7.1], v14, B14, ro7, some p7)) ?_ (by first | omega | (dsimp only; omega)) (by repeat constructor)
    refine ⟨hit2, ?_, by rw [List.map_append]; exact hsl14, hS.sel (by repeat constructor)⟩
    refine List.Perm.trans ?_ hpm
    rw [List.append_assoc]
    refine List.Perm.append_left acc ?_
    exact ((erase_perm hget).map Prod.fst).symm
theorem idsC_any (l : List Ch) (hl : l.length ≤ 16) (m : Nat) (o : Obj) (hmp : Mp str o (ckv n l)) (hown : Own w [(m, o)]) : Ret Try.prog 30 #[.map (some m)] w fun u w' => ∃ AB, Sl 9 1 u ((srt (l.map Ch.id)).map rs) AB ∧ St w [] AB w' := by
  have hS := St.init hown
  simp only [List.map_cons, List.map_nil] at hS
  have hro : ∀ {L w'}, St w [m] (L ++ [(m, o)]) w' → St w [] L w' := fun h => St.roL hown (by simpa only [List.map_cons, List.map_nil] using h.perm List.perm_append_comm) .here
  have hkv : (ckv n l).map Prod.fst = l.map Ch.id := by rw [List.map_map]; rfl
  refine Ret.enter Try.func30 Try.ntmps30 rfl rfl ?_
  simp only [argEnv, Nat.reduceAdd]
  refine SatC.seq ?_
  refine SatC.region ?_
  refine SatL.pu (RunV.assign rfl) rfl ?_
  refine SatL.nil (SatE.thenC ?_)
  refine SatC.seq ?_
  refine SatC.region ?_
  refine SatL.pu (RunV.assign rfl) rfl ?_
  refine SatL.nil (SatE.thenC ?_)
  refine SatC.seq ?_
  refine SatC.seq ?_
  refine SatC.region ?_
  refine SatL.pu (RunV.move rfl) rfl ?_
  refine SatL.op rfl (OpW.rangeM hS rfl rfl (by repeat constructor) hmp rfl ?_)
  clear hS
  intro b6 ro6 w1 _ hit hS
  refine SatL.nil (SatE.thenC ?_)
  refine SatC.block ?_
  refine SatC.loopK (G := List (List UInt8 × Value) × List (List UInt8) × Value × List (Nat × Obj) × Obj × Option (List UInt8 × Value)) (V := fun ⟨left, acc, av, AB, ro, cur⟩ => [(3, av)]) (Cn := [(2, _), (6, _)]) (I := fun ⟨left, acc, av, AB, ro, cur⟩ w' => It str m ro o left cur ∧ (acc ++ left.map Prod.fst).Perm (l.map Ch.id) ∧ Sl 9 1 av (acc.map rs) AB ∧ St w [m] (AB ++ [(b6, ro), (m, o)]) w') (μ := fun ⟨left, acc, av, AB, ro, cur⟩ => left.length) (ckv n l, [], .slice none 0 0, [], ro6, none) ?_ (by repeat constructor) ?_
  · exact ⟨hit, by rw [hkv, List.nil_append], .nil, hS⟩
  clear hS
  rintro ⟨left, acc, av, AB, ro, cur⟩ w2 ⟨hit, hpm, hsa, hS⟩
  refine SatC.weak (e' := [(2, _), (3, _), (6, _)]) (by repeat constructor) ?_
  refine SatC.seq ?_
  refine SatC.region ?_
  refine SatL.op rfl (OpW.nextM hS rfl (by repeat constructor) hit _ (fun ro' => by repeat constructor) rfl ?_ ?_)
  · skip
    intro hnil
    refine SatL.pu (RunV.extract rfl rfl) rfl ?_
    refine SatL.nil (SatE.thenC ?_)
    refine SatC.seq ?_
    refine SatC.cond_f rfl ?_
    refine SatC.exit (SatE.then_exit (SatE.then_exit (SatE.blk_exit (SatE.thenC ?_))))
    refine SatC.seq ?_
    subst hnil
    rw [List.map_nil, List.append_nil] at hpm
    have hal : acc.length = l.length := by have := hpm.length_eq; simpa using this
    refine SatC.region ?_
    refine SatL.pu (RunV.move rfl) rfl ?_
    refine SatL.op rfl (OpW.enter rfl rfl rfl (rfl) (sort_any acc hsa (hS.ownT (A := AB) (by repeat constructor)) (by omega)) ?_)
    rintro r4 w4 ⟨rfl, B5, hsl5, h⟩
    replace hS := hS.callT (A := AB) (by repeat constructor) h
    refine SatL.nil (SatE.thenC ?_)
    refine SatC.seq ?_
    refine SatC.region ?_
    refine SatL.pu (RunV.move rfl) rfl ?_
    refine SatL.pu (RunV.assign rfl) rfl ?_
    refine SatL.nil (SatE.thenC ?_)
    refine SatC.ret ?_
    refine SatE.ret1 rfl rfl ?_
    exact ⟨B5, by rw [← srt_perm hpm]; exact hsl5, hro (hS.sel (by repeat constructor))⟩
  · skip
    clear hS
    intro i7 p7 ro7 w3 hget hit2 hS
    refine SatL.pu (RunV.extract rfl rfl) rfl ?_
    refine SatL.nil (SatE.thenC ?_)
    refine SatC.seq ?_
    refine SatC.cond_t rfl ?_
    refine SatC.skip (SatE.thenC ?_)
    refine SatC.block ?_
    refine SatC.seq ?_
    refine SatC.region ?_
    refine SatL.pu (RunV.entryM hS rfl (by repeat constructor) (by repeat constructor) hit2) rfl ?_
    refine SatL.pu (RunV.extract rfl rfl) rfl ?_
    refine SatL.pu (RunV.assign rfl) rfl ?_
    refine SatL.nil (SatE.thenC ?_)
    have hll : acc.length + left.length = l.length := by have := hpm.length_eq; simpa using this
    have hpl := (erase_perm hget).length_eq
    rw [List.length_cons] at hpl
    refine SatC.region ?_
    refine SatL.pu (RunV.move rfl) rfl ?_
    refine SatL.pu (RunV.move rfl) rfl ?_
    refine SatL.op rfl (OpW.buildSlice1 hS rfl rfl rfl rfl rfl (by repeat constructor) rfl rfl rfl ?_)
    clear hS
    intro b13 w4 _ hS
    refine SatL.op rfl (OpW.append1 hsa hS (by repeat constructor) rfl rfl (by repeat constructor) rfl rfl rfl rfl rfl rfl rfl rfl (by rw [List.length_map]; omega) rfl ?_)
    clear hS
    intro v14 B14 w5 hsl14 hS
    refine SatL.pu (RunV.assign rfl) rfl ?_
    refine SatL.nil (SatE.blk_normal ?_)
    refine SatE.again ((left.eraseIdx i7, acc ++ [p7.1], v14, B14, ro7, some p7)) ?_ (by first | omega | (dsimp only; omega)) (by repeat constructor)
    refine ⟨hit2, ?_, by rw [List.map_append]; exact hsl14, hS.sel (by repeat constructor)⟩
    refine List.Perm.trans ?_ hpm
    rw [List.append_assoc]
    refine List.Perm.append_left acc ?_
    exact ((erase_perm hget).map Prod.fst).symm
end
section
variable {b : Nat} {S : Lc} {L : List (Nat × Obj)} {w : World}
theorem node_d (h : Agt b S L) (hown : Own w L) : Ret Try.prog 23 #[.pointer (some ⟨b, 0, none⟩)] w fun u w' => u = .tuple #[.int .i64 S.node, str S.addr] ∧ St w [] [] w' := by
  obtain ⟨h1, h2, h3, h4, h5, h6, ms, mc, oS, oC, hmS, hmC, rfl⟩ := h
  generalize (tbl S.sv ++ S.ch.map hblk) = D at *
  have hS := St.init hown
  generalize hX : (LO b S.node S.addr ms mc oS oC D).map Prod.fst = X at hS
  have hro : ∀ {L w'}, St w X (L ++ LO b S.node S.addr ms mc oS oC D) w' → St w [] L w' := fun h => St.roL hown (by rw [hX]; exact h.perm List.perm_append_comm) .here
  refine Ret.enter Try.func23 Try.ntmps23 rfl rfl ?_
  simp only [argEnv, Nat.reduceAdd]
  refine SatC.seq ?_
  refine SatC.region ?_
  refine SatL.pu (RunV.assign rfl) rfl ?_
  refine SatL.pu (RunV.assign rfl) rfl ?_
  refine SatL.nil (SatE.thenC ?_)
  refine SatC.seq ?_
  refine SatC.seq ?_
  refine SatC.region ?_
  refine SatL.pu (RunV.move rfl) rfl ?_
  refine SatL.op rfl (OpW.enter rfl rfl rfl (rfl) (lnone_any (hS.ownT (A := [(b, C 63 (lcc S.node S.addr ms mc))]) (by repeat constructor))) ?_)
  rintro r1 w1 ⟨rfl, h⟩
  replace hS := St.callN hS h
  refine SatL.nil (SatE.thenC ?_)
  refine SatC.cond rfl (fun h1 => ?_) (fun h1 => ?_)
  · (try simp only [cx, ne_eq] at h1)
    try (exfalso; (first | omega | exact h1 trivial | contradiction | (first | omega | (simp at h1; done))); done)
    all_goals
    refine SatC.seq ?_
    refine SatC.region ?_
    refine SatL.pu (RunV.assign rfl) rfl ?_
    refine SatL.pu (RunV.assign rfl) rfl ?_
    refine SatL.nil (SatE.thenC ?_)
    refine SatC.ret (SatE.then_ret ?_)
    refine SatE.ret2 rfl rfl rfl ?_
    exact ⟨rfl, hro (L := []) (hS.sel (by repeat constructor))⟩
  · (try simp only [cx, ne_eq] at h1)
    try (exfalso; (first | omega | exact h1 trivial | contradiction | (first | omega | (simp at h1; done))); done)
    all_goals
    refine SatC.skip (SatE.thenC ?_)
    refine SatC.seq ?_
    refine SatC.drawnT 10 hS (hS) (by kernel_rfl) ?_
    clear hS
    intro w2 hh hS hD
    refine SatD.tk 0 rfl hD (fun _ hw => RunV.move rfl) ?_
    first | refine SatD.tk 1 rfl hD (fun _ hw => RunV.nil_ptr rfl) ?_ | refine SatD.tk 1 rfl hD (fun _ hw => RunV.nil_func rfl) ?_ | refine SatD.tk 1 rfl hD (fun _ hw => RunV.nil_yield rfl) ?_
    first | refine SatD.tk 2 rfl hD (fun _ hw => RunV.fieldAddrL rfl rfl rfl) ?_ | refine SatD.tk 2 rfl hD (fun _ hw => RunV.fieldAddr rfl rfl rfl) ?_
    refine SatD.tk 3 rfl hD (fun _ hw => RunV.load1 hw rfl rfl (by repeat constructor) rfl) ?_
    refine SatD.tk 4 rfl hD (fun _ hw => RunV.move rfl) ?_
    first | refine SatD.tk 5 rfl hD (fun _ hw => RunV.nil_ptr rfl) ?_ | refine SatD.tk 5 rfl hD (fun _ hw => RunV.nil_func rfl) ?_ | refine SatD.tk 5 rfl hD (fun _ hw => RunV.nil_yield rfl) ?_
    first | refine SatD.tk 6 rfl hD (fun _ hw => RunV.fieldAddrL rfl rfl rfl) ?_ | refine SatD.tk 6 rfl hD (fun _ hw => RunV.fieldAddr rfl rfl rfl) ?_
    refine SatD.tk 7 rfl hD (fun _ hw => RunV.load1 hw rfl rfl (by repeat constructor) rfl) ?_
    refine SatD.tk 8 rfl hD (fun _ hw => RunV.assign rfl) ?_
    refine SatD.tk 9 rfl hD (fun _ hw => RunV.assign rfl) ?_
    refine SatD.done 0 (by kernel_rfl) (SatE.thenC ?_)
    clear hD
    refine SatC.ret ?_
    refine SatE.ret2 rfl rfl rfl ?_
    exact ⟨rfl, hro (L := []) (hS.sel (by repeat constructor))⟩
theorem lnew_any (n : Int) (a : List UInt8) (w : World) (hn : 0 ≤ n ∧ n < 8) (ha : a.length ≤ 32) : Ret Try.prog 7 #[.int .i64 n, str a] w fun u w' => ∃ b L, u = .tuple #[.pointer (some ⟨b, 0, none⟩), .int .i64 0] ∧ Agt b ⟨n, a, [], []⟩ L ∧ St w [] L w' := by
  have hS := St.init0 w
  refine Ret.enter Try.func7 Try.ntmps7 rfl rfl ?_
  simp only [argEnv, Nat.reduceAdd]
  refine SatC.seq ?_
  refine SatC.region ?_
  refine SatL.pu (RunV.assign rfl) rfl ?_
  refine SatL.pu (RunV.assign rfl) rfl ?_
  refine SatL.nil (SatE.thenC ?_)
  refine SatC.seq ?_
  refine SatC.seq ?_
  refine SatC.region ?_
  refine SatL.pu (RunV.move rfl) rfl ?_
  refine SatL.pu (RunV.lss rfl rfl) rfl ?_
  refine SatL.pu (RunV.move rfl) rfl ?_
  refine SatL.guard rfl rfl rfl (fun h1 => ?_) (fun h1 => ?_)
  · (try simp only [cx, ne_eq] at h1)
    try (exfalso; (first | omega | exact h1 trivial | contradiction | (first | omega | (simp at h1; done))); done)
    all_goals
    refine SatL.pu (RunV.move rfl) rfl ?_
    refine SatL.guard_y rfl rfl ?_
    refine SatL.pu (RunV.geq rfl rfl) rfl ?_
    refine SatL.pu (RunV.pick_f rfl rfl) rfl ?_
    refine SatL.nil (SatE.thenC ?_)
    refine SatC.cond rfl (fun h2 => ?_) (fun h2 => ?_)
    · (try simp only [cx, ne_eq] at h2)
      try (exfalso; (first | omega | exact h2 trivial | contradiction | (first | omega | (simp at h2; done))); done)
      all_goals
      refine SatC.seq ?_
      refine SatC.region ?_
      refine SatL.pu (RunV.assign rfl) rfl ?_
      refine SatL.pu (RunV.assign rfl) rfl ?_
      refine SatL.nil (SatE.thenC ?_)
      refine SatC.ret (SatE.then_ret ?_)
      refine SatE.ret2 rfl rfl rfl ?_
      exact ⟨_, _, rfl, ⟨by simp, by simp, by simp, by simp, by simp, by simp, b17, b18, o17, o18, hm17, hm18, rfl⟩, hS.sel (by repeat constructor)⟩
    · (try simp only [cx, ne_eq] at h2)
      try (exfalso; (first | omega | exact h2 trivial | contradiction | (first | omega | (simp at h2; done))); done)
      all_goals
      refine SatC.skip (SatE.thenC ?_)
      refine SatC.seq ?_
      refine SatC.seq ?_
      refine SatC.region ?_
      refine SatL.pu (RunV.move rfl) rfl ?_
      refine SatL.pu (RunV.lenB rfl rfl) rfl ?_
      refine SatL.pu (RunV.gtr rfl rfl) rfl ?_
      refine SatL.nil (SatE.thenC ?_)
      refine SatC.cond rfl (fun h3 => ?_) (fun h3 => ?_)
      · (try simp only [cx, ne_eq] at h3)
        try (exfalso; (first | omega | exact h3 trivial | contradiction | (first | omega | (simp at h3; done))); done)
        all_goals
        refine SatC.seq ?_
        refine SatC.region ?_
        refine SatL.pu (RunV.assign rfl) rfl ?_
        refine SatL.pu (RunV.assign rfl) rfl ?_
        refine SatL.nil (SatE.thenC ?_)
        refine SatC.ret (SatE.then_ret ?_)
        refine SatE.ret2 rfl rfl rfl ?_
        exact ⟨_, _, rfl, ⟨by simp, by simp, by simp, by simp, by simp, by simp, b17, b18, o17, o18, hm17, hm18, rfl⟩, hS.sel (by repeat constructor)⟩
      · (try simp only [cx, ne_eq] at h3)
        try (exfalso; (first | omega | exact h3 trivial | contradiction | (first | omega | (simp at h3; done))); done)
        all_goals
        refine SatC.skip (SatE.thenC ?_)
        refine SatC.seq ?_
        refine SatC.region ?_
        refine SatL.pu (RunV.move rfl) rfl ?_
        refine SatL.pu (RunV.move rfl) rfl ?_
        refine SatL.op rfl (OpW.makeMapM str hS rfl ?_)
        clear hS
        intro b17 o17 w1 _ hm17 hS
        refine SatL.op rfl (OpW.makeMapM str hS rfl ?_)
        clear hS
        intro b18 o18 w2 _ hm18 hS
        refine SatL.pu (RunV.build rfl (by simp [go_sem]; try rfl)) rfl ?_
        refine SatL.op rfl (OpW.box hS rfl rfl (by repeat constructor) ?_)
        clear hS
        intro b20 w3 _ hS
        refine SatL.pu (RunV.assign rfl) rfl ?_
        refine SatL.pu (RunV.assign rfl) rfl ?_
        refine SatL.nil (SatE.thenC ?_)
        refine SatC.ret ?_
        refine SatE.ret2 rfl rfl rfl ?_
        exact ⟨_, _, rfl, ⟨by simp, by simp, by simp, by simp, by simp, by simp, b17, b18, o17, o18, hm17, hm18, rfl⟩, hS.sel (by repeat constructor)⟩
  · (try simp only [cx, ne_eq] at h1)
    try (exfalso; (first | omega | exact h1 trivial | contradiction | (first | omega | (simp at h1; done))); done)
    all_goals
    refine SatL.guard_n rfl rfl rfl rfl ?_
    refine SatL.pu (RunV.pick_t rfl rfl) rfl ?_
    refine SatL.nil (SatE.thenC ?_)
    refine SatC.cond_t rfl ?_
    refine SatC.seq ?_
    refine SatC.region ?_
    refine SatL.pu (RunV.assign rfl) rfl ?_
    refine SatL.pu (RunV.assign rfl) rfl ?_
    refine SatL.nil (SatE.thenC ?_)
    refine SatC.ret (SatE.then_ret ?_)
    refine SatE.ret2 rfl rfl rfl ?_
    exact ⟨_, _, rfl, ⟨by simp, by simp, by simp, by simp, by simp, by simp, b17, b18, o17, o18, hm17, hm18, rfl⟩, hS.sel (by repeat constructor)⟩
theorem lnew_no (n : Int) (a : List UInt8) (w : World) (hno : ¬ ((0 ≤ n ∧ n < 8) ∧ a.length ≤ 32)) (hl : a.length ≤ 9223372036854775807) : Ret Try.prog 7 #[.int .i64 n, str a] w fun u w' => u = .tuple #[.pointer none, .int .i64 (if 0 ≤ n ∧ n < 8 then 3 else 2)] ∧ St w [] [] w' := by
  have hS := St.init0 w
  refine Ret.enter Try.func7 Try.ntmps7 rfl rfl ?_
  simp only [argEnv, Nat.reduceAdd]
  refine SatC.seq ?_
  refine SatC.region ?_
  refine SatL.pu (RunV.assign rfl) rfl ?_
  refine SatL.pu (RunV.assign rfl) rfl ?_
  refine SatL.nil (SatE.thenC ?_)
  refine SatC.seq ?_
  refine SatC.seq ?_
  refine SatC.region ?_
  refine SatL.pu (RunV.move rfl) rfl ?_
  refine SatL.pu (RunV.lss rfl rfl) rfl ?_
  refine SatL.pu (RunV.move rfl) rfl ?_
  refine SatL.guard rfl rfl rfl (fun h1 => ?_) (fun h1 => ?_)
  · (try simp only [cx, ne_eq] at h1)
    try (exfalso; (first | omega | exact h1 trivial | contradiction | (first | omega | (simp at h1; done))); done)
    all_goals
    refine SatL.pu (RunV.move rfl) rfl ?_
    refine SatL.guard_y rfl rfl ?_
    refine SatL.pu (RunV.geq rfl rfl) rfl ?_
    refine SatL.pu (RunV.pick_f rfl rfl) rfl ?_
    refine SatL.nil (SatE.thenC ?_)
    refine SatC.cond rfl (fun h2 => ?_) (fun h2 => ?_)
    · (try simp only [cx, ne_eq] at h2)
      try (exfalso; (first | omega | exact h2 trivial | contradiction | (first | omega | (simp at h2; done))); done)
      all_goals
      refine SatC.seq ?_
      refine SatC.region ?_
      refine SatL.pu (RunV.assign rfl) rfl ?_
      refine SatL.pu (RunV.assign rfl) rfl ?_
      refine SatL.nil (SatE.thenC ?_)
      refine SatC.ret (SatE.then_ret ?_)
      refine SatE.ret2 rfl rfl rfl ?_
      first
      | exact ⟨by rw [if_neg (by omega)], hS⟩
      | exact ⟨by rw [if_pos (by omega)], hS⟩
      | (exfalso; omega)
    · (try simp only [cx, ne_eq] at h2)
      try (exfalso; (first | omega | exact h2 trivial | contradiction | (first | omega | (simp at h2; done))); done)
      all_goals
      refine SatC.skip (SatE.thenC ?_)
      refine SatC.seq ?_
      refine SatC.seq ?_
      refine SatC.region ?_
      refine SatL.pu (RunV.move rfl) rfl ?_
      refine SatL.pu (RunV.lenB rfl rfl) rfl ?_
      refine SatL.pu (RunV.gtr rfl rfl) rfl ?_
      refine SatL.nil (SatE.thenC ?_)
      refine SatC.cond rfl (fun h3 => ?_) (fun h3 => ?_)
      · (try simp only [cx, ne_eq] at h3)
        try (exfalso; (first | omega | exact h3 trivial | contradiction | (first | omega | (simp at h3; done))); done)
        all_goals
        refine SatC.seq ?_
        refine SatC.region ?_
        refine SatL.pu (RunV.assign rfl) rfl ?_
        refine SatL.pu (RunV.assign rfl) rfl ?_
        refine SatL.nil (SatE.thenC ?_)
        refine SatC.ret (SatE.then_ret ?_)
        refine SatE.ret2 rfl rfl rfl ?_
        first
        | exact ⟨by rw [if_neg (by omega)], hS⟩
        | exact ⟨by rw [if_pos (by omega)], hS⟩
        | (exfalso; omega)
      · (try simp only [cx, ne_eq] at h3)
        try (exfalso; (first | omega | exact h3 trivial | contradiction | (first | omega | (simp at h3; done))); done)
        all_goals
        refine SatC.skip (SatE.thenC ?_)
        refine SatC.seq ?_
        refine SatC.region ?_
        refine SatL.pu (RunV.move rfl) rfl ?_
        refine SatL.pu (RunV.move rfl) rfl ?_
        refine SatL.op rfl (OpW.makeMapM str hS rfl ?_)
        clear hS
        intro b17 o17 w1 _ hm17 hS
        refine SatL.op rfl (OpW.makeMapM str hS rfl ?_)
        clear hS
        intro b18 o18 w2 _ hm18 hS
        refine SatL.pu (RunV.build rfl (by simp [go_sem]; try rfl)) rfl ?_
        refine SatL.op rfl (OpW.box hS rfl rfl (by repeat constructor) ?_)
        clear hS
        intro b20 w3 _ hS
        refine SatL.pu (RunV.assign rfl) rfl ?_
        refine SatL.pu (RunV.assign rfl) rfl ?_
        refine SatL.nil (SatE.thenC ?_)
        refine SatC.ret ?_
        refine SatE.ret2 rfl rfl rfl ?_
        first
        | exact ⟨by rw [if_neg (by omega)], hS⟩
        | exact ⟨by rw [if_pos (by omega)], hS⟩
        | (exfalso; omega)
  · (try simp only [cx, ne_eq] at h1)
    try (exfalso; (first | omega | exact h1 trivial | contradiction | (first | omega | (simp at h1; done))); done)
    all_goals
    refine SatL.guard_n rfl rfl rfl rfl ?_
    refine SatL.pu (RunV.pick_t rfl rfl) rfl ?_
    refine SatL.nil (SatE.thenC ?_)
    refine SatC.cond_t rfl ?_
    refine SatC.seq ?_
    refine SatC.region ?_
    refine SatL.pu (RunV.assign rfl) rfl ?_
    refine SatL.pu (RunV.assign rfl) rfl ?_
    refine SatL.nil (SatE.thenC ?_)
    refine SatC.ret (SatE.then_ret ?_)
    refine SatE.ret2 rfl rfl rfl ?_
    first
    | exact ⟨by rw [if_neg (by omega)], hS⟩
    | exact ⟨by rw [if_pos (by omega)], hS⟩
    | (exfalso; omega)
end
end Go.Proofs.Ytbnkcagcfbpiiaa
