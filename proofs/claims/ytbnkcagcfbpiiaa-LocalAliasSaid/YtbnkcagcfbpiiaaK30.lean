/- Maps of one's own with their stamps: made, turned, let go of, gone over. Over any program. -/
import Derived.Test.YtbnkcagcfbpiiaaK24
import Derived.Maps.RangeRun
set_option linter.unusedSimpArgs false
set_option linter.unusedVariables false
set_option maxHeartbeats 1000000
namespace Go.Proofs.Ytbnkcagcfbpiiaa
open Go Go.Proofs Go.RowKit
open Go.ChangeMaps (setBlock)
section
variable {κ : Type} {enc : κ → Value}
def Mp {κ : Type} (enc : κ → Value) (o : Obj) (kvs : List (κ × Value)) : Prop := ∃ es clk, o = .map es clk ∧ es.toList.map (fun e => (e.key, e.val)) = kvs.map (fun p => (enc p.1, p.2)) ∧ (∀ e ∈ es.toList, e.born < clk) ∧ (es.toList.map (·.born)).Nodup
theorem Mp.is {o : Obj} {kvs : List (κ × Value)} (h : Mp enc o kvs) : IsMp enc o kvs := by
  obtain ⟨es, clk, h1, h2, _⟩ := h
  exact ⟨es, clk, h1, h2⟩
theorem mp_new : Mp enc (.map #[] 0) [] := ⟨#[], 0, rfl, rfl, fun e he => by simp at he, by simp⟩
end
section
variable {κ : Type} [DecidableEq κ] {enc : κ → Value}
section
variable {P : Program} {w : World} {ty : TypeId}
theorem run_updM {t kt et : TypeId} {b : Nat} {o : Obj} {kvs : List (κ × Value)} {k : κ} {v : Value} (hk : KeyK P kt enc) (hu : P.underlying t = some (.map kt et)) (ho : Mp enc o kvs) (hb : w.heap[b]? = some o) :
    ∃ o', Mp enc o' (kput kvs k v) ∧ (Instr.mapUpdate t (.map (some b)) (enc k) v).run P w = .ok () { w with heap := w.heap.setIfInBounds b o' } := by
  obtain ⟨es, clk, rfl, he, hlt, hnd⟩ := ho
  obtain ⟨kd, hkd, hik, hsn⟩ := hk.kd
  obtain ⟨r, r1, r2, r3, r4⟩ := findNow_kget hk hsn k es.toList kvs 0 he
  have h1 := MapKept.run_getObj_map (P := P) hb
  have h2 := MapKept.run_checkKey (P := P) (w := w) hkd (hik k) false 9999
  have h3 := MapKept.run_findKey (P := P) (w := w) hkd r1
  cases r with
  | none =>
    refine ⟨.map (es.push { key := enc k, val := v, born := clk }) (clk + 1), ⟨_, _, rfl, ?_, ?_, ?_⟩, ?_⟩
    · rw [r4 rfl]
      simp [he]
    · intro e hm
      simp only [Array.toList_push, List.mem_append, List.mem_singleton] at hm
      rcases hm with hm | rfl
      · have := hlt e hm; omega
      · exact Nat.lt_succ_self _
    · simp only [Array.toList_push, List.map_append, List.map_cons, List.map_nil]
      refine List.nodup_append.2 ⟨hnd, by simp, ?_⟩
      intro a ha c hc
      simp only [List.mem_singleton] at hc
      subst hc
      obtain ⟨e, hm, rfl⟩ := List.mem_map.1 ha
      exact Nat.ne_of_lt (hlt e hm)
    · simp [Instr.mapUpdate, run_underlying hu, h1, h2, h3, MapKept.run_setObj_map _ hb]
  | some p =>
    obtain ⟨i, u⟩ := p
    obtain ⟨n, hn, hg, hp⟩ := r3 i u rfl
    obtain rfl : i = n := by omega
    have hkey : (((es[i]?).map (·.key)).getD (enc k)) = enc k := by
      have := congrArg (fun l => l[i]?) he
      simp only [List.getElem?_map, Array.getElem?_toList] at this
      cases hq : kvs[i]? with
      | none => rw [hq] at hg; cases hg
      | some q =>
        rw [hq] at this hg
        simp only [Option.map_some, Option.some.injEq] at hg
        cases he2 : es[i]? with
        | none => rfl
        | some e =>
          rw [he2] at this
          simp only [Option.map_some, Option.some.injEq, Prod.mk.injEq] at this
          simp [this.1, hg]
    have hks : (Instr.keyThatStays (enc k) (enc k)).run P w = .ok (enc k) w := by simp [Instr.keyThatStays, hk.same]
    have hborn : (es.modify i fun e => { e with key := enc k, val := v }).toList.map (·.born) = es.toList.map (·.born) := by
      apply List.ext_getElem?
      intro j
      rw [List.getElem?_map, List.getElem?_map, Array.getElem?_toList, Array.getElem?_toList, Array.getElem?_modify]
      by_cases hij : i = j
      · subst hij
        rw [if_pos rfl]
        cases es[i]? <;> rfl
      · rw [if_neg hij]
    refine ⟨.map (es.modify i fun e => { e with key := enc k, val := v }) clk, ⟨_, _, rfl, ?_, ?_, by rw [hborn]; exact hnd⟩, ?_⟩
    · rw [hp]
      apply List.ext_getElem?
      intro j
      have := congrArg (fun l => l[j]?) he
      simp only [List.getElem?_map, Array.getElem?_toList] at this
      rw [List.getElem?_map, List.getElem?_map, List.getElem?_set, Array.getElem?_toList, Array.getElem?_modify]
      by_cases hij : i = j
      · subst hij
        have hlt : i < kvs.length := by
          rcases Nat.lt_or_ge i kvs.length with h' | h'
          · exact h'
          · rw [List.getElem?_eq_none h'] at hg; cases hg
        have hle : es.size = kvs.length := by have := congrArg List.length he; simpa using this
        simp [hlt, hle]
      · simp [hij]
        simpa using this
    · intro e hm
      have : e.born ∈ (es.modify i fun e => { e with key := enc k, val := v }).toList.map (·.born) := List.mem_map_of_mem hm
      rw [hborn] at this
      obtain ⟨e2, hm2, e3⟩ := List.mem_map.1 this
      rw [← e3]
      exact hlt e2 hm2
    · simp [Instr.mapUpdate, run_underlying hu, h1, h2, h3, hkey, hks, MapKept.run_setObj_map _ hb]
theorem run_delM {t kt et kt' : TypeId} {b : Nat} {o : Obj} {kvs : List (κ × Value)} {k : κ} (hk : KeyK P kt enc) (hu : P.underlying t = some (.map kt et)) (ho : Mp enc o kvs) (hb : w.heap[b]? = some o) :
    ∃ o', Mp enc o' (kdel kvs k) ∧ (Builtin.delete_ #[t, kt'] ty #[.map (some b), enc k]).run P w = .ok (.tuple #[]) { w with heap := w.heap.setIfInBounds b o' } := by
  obtain ⟨es, clk, rfl, he, hlt, hnd⟩ := ho
  obtain ⟨kd, hkd, hik, hsn⟩ := hk.kd
  obtain ⟨r, r1, r3, r4⟩ := findNow_kdel (enc := enc) hsn k es.toList kvs 0 he
  have h1 := MapKept.run_getObj_map (P := P) hb
  have h2 := MapKept.run_checkKey (P := P) (w := w) hkd (hik k) es.isEmpty 9999
  have h3 := MapKept.run_findKey (P := P) (w := w) hkd r1
  cases r with
  | none =>
    refine ⟨.map es clk, ⟨_, _, rfl, ?_, hlt, hnd⟩, ?_⟩
    · rw [r4 rfl]
      exact he
    · simp [Builtin.delete_, run_underlying hu, h1, h2, h3, MapKept.run_setObj_map _ hb, Result.andThen]
  | some p =>
    obtain ⟨i, u⟩ := p
    obtain ⟨n, hn, hl, hp⟩ := r3 i u rfl
    obtain rfl : i = n := by omega
    have hle : es.size = kvs.length := by have := congrArg List.length he; simpa using this
    have hsub : (es.eraseIdxIfInBounds i).toList = es.toList.eraseIdx i := by
      unfold Array.eraseIdxIfInBounds
      rw [dif_pos (by omega)]
      simp
    refine ⟨.map (es.eraseIdxIfInBounds i) clk, ⟨_, _, rfl, ?_, ?_, ?_⟩, ?_⟩
    · rw [hsub, hp, List.eraseIdx_eq_take_drop_succ, List.eraseIdx_eq_take_drop_succ, List.map_append, List.map_append, List.map_take, List.map_drop, List.map_take, List.map_drop, he]
    · intro e hm
      rw [hsub] at hm
      exact hlt e ((List.eraseIdx_sublist ..).subset hm)
    · rw [hsub]
      exact ((List.eraseIdx_sublist ..).map _).nodup hnd
    · simp [Builtin.delete_, run_underlying hu, h1, h2, h3, MapKept.run_setObj_map _ hb, Result.andThen]
end
end
section
variable {P : Program} {N d : Nat} {env : Env} {w0 w : World} {X : List Nat} {L : List (Nat × Obj)} {K : Env → World → Prop} {ty : TypeId} {pos : String} {af : Array Edge} {g : Option (Nat × Bool)} {dd : Option Nat}
variable {κ : Type} {enc : κ → Value}
theorem OpW.makeMapM {t : TypeId} (enc : κ → Value) (hS : St w0 X L w) (hd : Nat.blt d N = true)
    (h : ∀ b o w', b = w.heap.size → Mp enc o [] → St w0 X ((b, o) :: L) w' → K ((d, .map (some b)) :: env) w') : OpW P N ⟨some d, .makeMap t none, ty, pos, af, g⟩ env w K := by
  refine OpW.base (v := .map (some w.heap.size)) (w' := w.alloc (.map #[] 0)) (fun a ha => ?_) hd (h _ _ _ rfl mp_new (hS.alloc _))
  have : (Instr.makeMap t none).run P w = .ok (.map (some w.heap.size)) (w.alloc (.map #[] 0)) := rfl
  simp only [execOp, Option.map_none, Sem.run_bind, this, Result.andThen_ok, Sem.run_pure]
theorem OpW.mapUpdateM [DecidableEq κ] {t kt et : TypeId} {x y z : Operand} {b : Nat} {o : Obj} {kvs : List (κ × Value)} {k : κ} {v : Value} (hk : KeyK P kt enc) (hS : St w0 X L w) (hx : evO env x = some (.map (some b))) (hy : evO env y = some (enc k)) (hz : evO env z = some v) (hu : P.underlying t = some (.map kt et)) (ho : Mp enc o kvs) (L' : Obj → List (Nat × Obj)) (hm : ∀ o', Repl L b o o' (L' o'))
    (h : ∀ o' w', Mp enc o' (kput kvs k v) → St w0 X (L' o') w' → K env w') : OpW P N ⟨none, .mapUpdate t x y z, ty, pos, af, g⟩ env w K := by
  obtain ⟨o', h1, h2⟩ := run_updM (w := w) (k := k) (v := v) hk hu ho (hS.own _ (hm o).memL)
  refine OpW.base0 (w' := { w with heap := w.heap.setIfInBounds b o' }) (fun a ha => ?_) (h o' _ h1 (hS.setHeap (hm o')))
  simp only [execOp, ha.ev hx, ha.ev hy, ha.ev hz, Sem.run_bind, h2, Result.andThen_ok, Sem.run_pure]
theorem OpW.insertM [DecidableEq κ] {t kt et : TypeId} {x y z : Operand} {b : Nat} {o : Obj} {kvs : List (κ × Value)} {k : κ} {v : Value} (hk : KeyK P kt enc) (hS : St w0 X L w) (hx : evO env x = some (.map (some b))) (hy : evO env y = some (enc k)) (hz : evO env z = some v) (hu : P.underlying t = some (.map kt et)) (ho : Mp enc o kvs) (L' : Obj → List (Nat × Obj)) (hm : ∀ o', Repl L b o o' (L' o'))
    (h : ∀ o' w', Mp enc o' (kput kvs k v) → St w0 X (L' o') w' → K env w') : OpW P N ⟨none, .insert t x y z, ty, pos, af, g⟩ env w K := by
  obtain ⟨o', h1, h2⟩ := run_updM (w := w) (k := k) (v := v) hk hu ho (hS.own _ (hm o).memL)
  refine OpW.base0 (w' := { w with heap := w.heap.setIfInBounds b o' }) (fun a ha => ?_) (h o' _ h1 (hS.setHeap (hm o')))
  simp only [execOp, ha.ev hx, ha.ev hy, ha.ev hz, Sem.run_bind, h2, Result.andThen_ok, Sem.run_pure]
theorem OpW.deleteM [DecidableEq κ] {t kt et kt' : TypeId} {x y : Operand} {b : Nat} {o : Obj} {kvs : List (κ × Value)} {k : κ} (hk : KeyK P kt enc) (hS : St w0 X L w) (hx : evO env x = some (.map (some b))) (hy : evO env y = some (enc k)) (hu : P.underlying t = some (.map kt et)) (ho : Mp enc o kvs) (L' : Obj → List (Nat × Obj)) (hm : ∀ o', Repl L b o o' (L' o'))
    (h : ∀ o' w', Mp enc o' (kdel kvs k) → St w0 X (L' o') w' → K env w') : OpW P N ⟨none, .call { callee := .builtin .delete, args := #[x, y], argTypes := #[t, kt'] }, ty, pos, af, g⟩ env w K := by
  obtain ⟨o', h1, h2⟩ := run_delM (w := w) (k := k) (kt' := kt') (ty := ty) hk hu ho (hS.own _ (hm o).memL)
  refine OpW.base0v (v := .tuple #[]) (w' := { w with heap := w.heap.setIfInBounds b o' }) (fun a ha => ?_) (h o' _ h1 (hS.setHeap (hm o')))
  simp [execOp, resolve, invoke, builtin, ha.ev hx, ha.ev hy, h2]
/-- A range over a map: what is left, and the entry that came last. -/
def It (enc : κ → Value) (m : Nat) (ro mo : Obj) (left : List (κ × Value)) (cur : Option (κ × Value)) : Prop :=
  ∃ es clk since seen c0, mo = .map es clk ∧ ro = .mapIter (some m) since seen c0 ∧ (∀ e ∈ es.toList, e.born < since) ∧ since ≤ c0 ∧ (es.toList.map (·.born)).Nodup ∧ (leftOf es seen).toList.map (fun e => (e.key, e.val)) = left.map (fun p => (enc p.1, p.2)) ∧ c0 = clk ∧
    ∀ p, cur = some p → ∃ e ∈ es.toList, e.key = enc p.1 ∧ e.val = p.2 ∧ ∃ seen' : Array Nat, seen = seen'.push e.born
theorem leftOf_push {es : Array MapEntry} {seen : Array Nat} {e : MapEntry} (hnd : (es.toList.map (·.born)).Nodup) (he : e ∈ (leftOf es seen).toList) :
    ∃ i, (leftOf es seen).toList[i]? = some e ∧ (leftOf es (seen.push e.born)).toList = (leftOf es seen).toList.eraseIdx i := by
  have e1 : (leftOf es (seen.push e.born)).toList = (leftOf es seen).toList.filter (fun x => decide (¬ x.born = e.born)) := by
    unfold leftOf
    rw [Array.toList_filter, Array.toList_filter, List.filter_filter]
    apply List.filter_congr
    intro x _
    simp only [Array.contains_push, Bool.not_or]
    rw [Bool.and_comm]
    congr 1
    rw [Bool.eq_iff_iff]
    simp
    try exact ne_comm
  have hnl : ((leftOf es seen).toList.map (·.born)).Nodup := by
    unfold leftOf
    rw [Array.toList_filter]
    exact ((List.filter_sublist ..).map _).nodup hnd
  rw [e1]
  generalize (leftOf es seen).toList = l at he hnl
  clear e1
  induction l with
  | nil => cases he
  | cons y l ih =>
    rw [List.map_cons, List.nodup_cons] at hnl
    rcases List.mem_cons.1 he with rfl | he
    · refine ⟨0, rfl, ?_⟩
      rw [List.eraseIdx_zero, List.tail_cons, List.filter_cons_of_neg (by simp), List.filter_eq_self]
      intro x hx
      simp only [decide_eq_true_eq]
      intro e2
      exact hnl.1 (by rw [← e2]; exact List.mem_map_of_mem hx)
    · obtain ⟨i, h1, h2⟩ := ih he hnl.2
      refine ⟨i + 1, by simpa using h1, ?_⟩
      rw [List.eraseIdx_cons_succ, List.filter_cons_of_pos, h2]
      simp only [decide_eq_true_eq]
      intro e2
      exact hnl.1 (by rw [e2]; exact List.mem_map_of_mem he)
theorem OpW.rangeM {t kt et : TypeId} {x : Operand} {m : Nat} {mo : Obj} {kvs : List (κ × Value)} (hS : St w0 X L w) (hx : evO env x = some (.map (some m))) (hu : P.underlying t = some (.map kt et)) (hm : Has L m mo) (ho : Mp enc mo kvs) (hd : Nat.blt d N = true)
    (h : ∀ b ro w', b = w.heap.size → It enc m ro mo kvs none → St w0 X ((b, ro) :: L) w' → K ((d, .pointer (some ⟨b, 0, none⟩)) :: env) w') : OpW P N ⟨some d, .range t x, ty, pos, af, g⟩ env w K := by
  obtain ⟨es, clk, rfl, he, hlt, hnd⟩ := ho
  have hb := hS.own _ hm.mem
  refine OpW.base (v := .pointer (some ⟨w.heap.size, 0, none⟩)) (w' := w.alloc (.mapIter (some m) clk #[] clk)) (fun a ha => ?_) hd (h _ _ _ rfl ⟨es, clk, clk, #[], clk, rfl, rfl, hlt, Nat.le_refl _, hnd, ?_, rfl, fun p hp => by cases hp⟩ (hS.alloc _))
  · have h1 := MapKept.run_getObj_map (P := P) hb
    have : (Instr.range t (.map (some m))).run P w = .ok (.pointer (some ⟨w.heap.size, 0, none⟩)) (w.alloc (.mapIter (some m) clk #[] clk)) := by
      simp only [Instr.range, Sem.run_bind, run_underlying hu, Result.andThen_ok, h1, Sem.run_pure]
      rfl
    simp only [execOp, ha.ev hx, Sem.run_bind, this, Result.andThen_ok, Sem.run_pure]
  · have : leftOf es #[] = es := by unfold leftOf; rw [Array.filter_eq_self.2]; simp
    rw [this, he]
theorem St.setIt {b : Nat} {o o' : Obj} {L' : List (Nat × Obj)} (hS : St w0 X L w) (hm : Repl L b o o' L') : St w0 X L' (setBlock w b o') := by
  have hb := hS.own _ hm.memL
  have hlt := (Array.getElem?_eq_some_iff.1 hb).1
  refine hS.put hm rfl rfl rfl (by simp [setBlock]) (by simp [setBlock, Array.getElem?_setIfInBounds, hlt]) (fun k hk => by simp [setBlock, Array.getElem?_setIfInBounds, Ne.symm hk])
theorem OpW.nextM {x : Operand} {r m : Nat} {ro mo : Obj} {left : List (κ × Value)} {cur : Option (κ × Value)} (hS : St w0 X L w) (hx : evO env x = some (.pointer (some ⟨r, 0, none⟩))) (hmm : Has L m mo) (hit : It enc m ro mo left cur) (L' : Obj → List (Nat × Obj)) (hr : ∀ ro', Repl L r ro ro' (L' ro')) (hd : Nat.blt d N = true)
    (h0 : left = [] → K ((d, .tuple #[.bool false]) :: env) w)
    (h1 : ∀ i p ro' w', left[i]? = some p → It enc m ro' mo (left.eraseIdx i) (some p) → St w0 X (L' ro') w' → K ((d, .tuple #[.bool true, enc p.1, p.2]) :: env) w') : OpW P N ⟨some d, .next x false, ty, pos, af, g⟩ env w K := by
  obtain ⟨es, clk, since, seen, c0, rfl, rfl, hold, hsc, hnd, hl, hcc, hcur⟩ := hit
  have hrb := hS.own _ (hr (.mapIter (some m) since seen c0)).memL
  have hmb := hS.own _ hmm.mem
  rcases run_next_at (P := P) w ty r m since c0 seen es clk hrb hmb hold hsc with ⟨hz, hrun⟩ | ⟨e, hm, w1, hw1, hrun⟩
  · have hle : left = [] := by
      have := congrArg List.length hl
      simp only [List.length_map, Array.length_toList] at this
      exact List.length_eq_zero_iff.1 (by omega)
    refine OpW.base (v := .tuple #[.bool false]) (w' := w) (fun a ha => ?_) hd (h0 hle)
    simp only [execOp, ha.ev hx, Sem.run_bind, hrun, Result.andThen_ok, Sem.run_pure]
  · obtain ⟨i, hi, hpush⟩ := leftOf_push hnd hm
    have hS1 : St w0 X L w1 := by rcases hw1 with rfl | rfl; exact hS; exact hS.drew
    have hli := congrArg (fun l => l[i]?) hl
    simp only [List.getElem?_map, hi, Option.map_some] at hli
    cases hp : left[i]? with
    | none => rw [hp] at hli; cases hli
    | some p =>
      rw [hp] at hli
      simp only [Option.map_some, Option.some.injEq, Prod.mk.injEq] at hli
      have hem : e ∈ es.toList := by
        unfold leftOf at hm
        rw [Array.toList_filter] at hm
        exact (List.mem_filter.1 hm).1
      refine OpW.base (v := .tuple #[.bool true, e.key, e.val]) (w' := setBlock w1 r (.mapIter (some m) since (seen.push e.born) clk)) (fun a ha => ?_) hd ?_
      · simp only [execOp, ha.ev hx, Sem.run_bind, hrun, Result.andThen_ok, Sem.run_pure]
      · rw [hli.1, hli.2]
        refine h1 i p _ _ hp ⟨es, clk, since, seen.push e.born, clk, rfl, rfl, hold, by omega, hnd, ?_, rfl, ?_⟩ (hS1.setIt (hr _))
        · rw [hpush, List.eraseIdx_eq_take_drop_succ, List.eraseIdx_eq_take_drop_succ, List.map_append, List.map_append, List.map_take, List.map_drop, List.map_take, List.map_drop, hl]
        · intro q hq
          cases hq
          exact ⟨e, hem, hli.1, hli.2, seen, rfl⟩
theorem RunV.entryM {x : Operand} {r m : Nat} {ro mo : Obj} {left : List (κ × Value)} {p : κ × Value} (hS : St w0 X L w) (hx : evO env x = some (.pointer (some ⟨r, 0, none⟩))) (hmr : Has L r ro) (hmm : Has L m mo) (hit : It enc m ro mo left (some p)) :
    RunV P N env w ⟨dd, .entry x, ty, pos, af, g⟩ (.tuple #[enc p.1, p.2]) := ⟨fun a ha => by
  obtain ⟨es, clk, since, seen, c0, rfl, rfl, hold, hsc, hnd, hl, hcc, hcur⟩ := hit
  obtain ⟨e, hem, h1, h2, seen', rfl⟩ := hcur p rfl
  subst hcc
  have := run_entry_at (P := P) w r m since seen' es c0 e (hS.own _ hmr.mem) (hS.own _ hmm.mem) hem hnd
  simp only [execOp, ha.ev hx, Sem.run_bind, this, Result.andThen_ok, Sem.run_pure, h1, h2]⟩
end
end Go.Proofs.Ytbnkcagcfbpiiaa
