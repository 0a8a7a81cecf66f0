/- delete on a map of one's own. Over any program; no condition. -/
import Derived.Test.YtbnkcagcfbpiiaaK9
set_option linter.unusedSimpArgs false
set_option linter.unusedVariables false
namespace Go.Proofs.Ytbnkcagcfbpiiaa
open Go.RowKit
section
variable {κ : Type} [DecidableEq κ] {enc : κ → Value}
def kdel : List (κ × Value) → κ → List (κ × Value)
  | [], _ => []
  | p :: ps, k => if k = p.1 then ps else p :: kdel ps k
/-- No key is there twice. -/
def Uniq (kvs : List (κ × Value)) : Prop := (kvs.map Prod.fst).Nodup
theorem kget_not {kvs : List (κ × Value)} {k : κ} (h : k ∉ kvs.map Prod.fst) : kget kvs k = none := by
  induction kvs with
  | nil => rfl
  | cons p ps ih =>
    simp only [List.map_cons, List.mem_cons, not_or] at h
    unfold kget
    rw [if_neg h.1]
    exact ih h.2
theorem kdel_sub (kvs : List (κ × Value)) (k : κ) : (kdel kvs k).Sublist kvs := by
  induction kvs with
  | nil => exact .slnil
  | cons p ps ih =>
    unfold kdel
    split
    · exact List.sublist_cons_self _ _
    · exact ih.cons_cons _
omit [DecidableEq κ] in
theorem uniq_nil : Uniq ([] : List (κ × Value)) := List.nodup_nil
theorem uniq_del {kvs : List (κ × Value)} (h : Uniq kvs) (k : κ) : Uniq (kdel kvs k) := ((kdel_sub kvs k).map Prod.fst).nodup h
theorem kput_keys (kvs : List (κ × Value)) (k : κ) (v : Value) (x : κ) : x ∈ (kput kvs k v).map Prod.fst → x = k ∨ x ∈ kvs.map Prod.fst := by
  induction kvs with
  | nil => simp [kput]
  | cons p ps ih =>
    unfold kput
    split
    · simp only [List.map_cons, List.mem_cons]
      rintro (h | h)
      · exact .inl h
      · exact .inr (.inr h)
    · simp only [List.map_cons, List.mem_cons]
      rintro (h | h)
      · exact .inr (.inl h)
      · rcases ih h with h | h
        · exact .inl h
        · exact .inr (.inr h)
theorem uniq_put {kvs : List (κ × Value)} (h : Uniq kvs) (k : κ) (v : Value) : Uniq (kput kvs k v) := by
  induction kvs with
  | nil => exact List.nodup_cons.2 ⟨by simp, List.nodup_nil⟩
  | cons p ps ih =>
    have hp := List.nodup_cons.1 h
    unfold kput
    split
    · rename_i e
      exact List.nodup_cons.2 ⟨by show k ∉ _; rw [e]; exact hp.1, hp.2⟩
    · rename_i e
      refine List.nodup_cons.2 ⟨fun hm => ?_, ih hp.2⟩
      rcases kput_keys ps k v _ hm with h' | h'
      · exact e h'.symm
      · exact hp.1 h'
theorem kget_del {kvs : List (κ × Value)} (h : Uniq kvs) (k k' : κ) : kget (kdel kvs k) k' = if k' = k then none else kget kvs k' := by
  induction kvs with
  | nil => simp [kget, kdel]
  | cons p ps ih =>
    have hp := List.nodup_cons.1 h
    unfold kdel
    by_cases e : k = p.1
    · rw [if_pos e]
      by_cases e2 : k' = k
      · rw [if_pos e2, e2, e]
        exact kget_not hp.1
      · rw [if_neg e2]
        show _ = if k' = p.1 then _ else _
        rw [if_neg (by rw [← e]; exact e2)]
    · rw [if_neg e]
      show (if k' = p.1 then _ else kget (kdel ps k) k') = _
      by_cases e2 : k' = p.1
      · rw [if_pos e2, if_neg (fun h => e (h.symm.trans e2))]
        show _ = if k' = p.1 then _ else _
        rw [if_pos e2]
      · rw [if_neg e2, ih hp.2]
        show _ = if k' = k then none else if k' = p.1 then _ else _
        rw [if_neg e2]
theorem findNow_kdel {kd : TypeDesc} (hkd : ∀ a b, Instr.sameNow kd (enc a) (enc b) = some (decide (a = b))) (k : κ) : ∀ (l : List MapEntry) (kvs : List (κ × Value)) (i : Nat), l.map (fun e => (e.key, e.val)) = kvs.map (fun p => (enc p.1, p.2)) →
    ∃ r, Instr.findNow kd (enc k) l i = some r ∧ (∀ j v, r = some (j, v) → ∃ n, j = i + n ∧ n < kvs.length ∧ kdel kvs k = kvs.eraseIdx n) ∧ (r = none → kdel kvs k = kvs)
  | [], kvs, i, h => by
    have : kvs = [] := by simpa using h.symm
    subst this
    exact ⟨none, rfl, fun j v h => by simp at h, fun _ => rfl⟩
  | e :: l, [], i, h => by simp at h
  | e :: l, p :: kvs, i, h => by
    simp only [List.map_cons, List.cons.injEq, Prod.mk.injEq] at h
    obtain ⟨⟨h1, h2⟩, h3⟩ := h
    unfold Instr.findNow
    rw [h1, hkd]
    by_cases e' : k = p.1
    · simp only [e', decide_true]
      refine ⟨some (i, e.val), rfl, fun j v hj => ?_, fun h => by cases h⟩
      simp only [Option.some.injEq, Prod.mk.injEq] at hj
      exact ⟨0, by omega, by simp, by simp [kdel]⟩
    · simp only [e', decide_false]
      obtain ⟨r, r1, r3, r4⟩ := findNow_kdel hkd k l kvs (i + 1) h3
      refine ⟨r, r1, fun j v hj => ?_, fun hr => ?_⟩
      · obtain ⟨n, hn, hl, hp⟩ := r3 j v hj
        exact ⟨n + 1, by omega, by simp; omega, by rw [kdel, if_neg e', hp]; simp⟩
      · rw [kdel, if_neg e', r4 hr]
section
variable {P : Program} {N : Nat} {env : Env} {w w0 : World} {X : List Nat} {L L' : List (Nat × Obj)} {K : Env → World → Prop}
variable {ty : TypeId} {pos : String} {af : Array Edge} {g : Option (Nat × Bool)}
theorem run_delK {t kt et kt' : TypeId} {b : Nat} {o : Obj} {kvs : List (κ × Value)} {k : κ} (hk : KeyK P kt enc) (hu : P.underlying t = some (.map kt et)) (ho : IsMp enc o kvs) (hb : w.heap[b]? = some o) :
    ∃ o', IsMp enc o' (kdel kvs k) ∧ (Builtin.delete_ #[t, kt'] ty #[.map (some b), enc k]).run P w = .ok (.tuple #[]) { w with heap := w.heap.setIfInBounds b o' } := by
  obtain ⟨es, clk, rfl, he⟩ := ho
  obtain ⟨kd, hkd, hik, hsn⟩ := hk.kd
  obtain ⟨r, r1, r3, r4⟩ := findNow_kdel (enc := enc) hsn k es.toList kvs 0 he
  have h1 := MapKept.run_getObj_map (P := P) hb
  have h2 := MapKept.run_checkKey (P := P) (w := w) hkd (hik k) es.isEmpty 9999
  have h3 := MapKept.run_findKey (P := P) (w := w) hkd r1
  cases r with
  | none =>
    refine ⟨.map es clk, ⟨_, _, rfl, ?_⟩, ?_⟩
    · rw [r4 rfl]
      exact he
    · simp [Builtin.delete_, run_underlying hu, h1, h2, h3, MapKept.run_setObj_map _ hb, Result.andThen]
  | some p =>
    obtain ⟨i, u⟩ := p
    obtain ⟨n, hn, hl, hp⟩ := r3 i u rfl
    obtain rfl : i = n := by omega
    have hle : es.size = kvs.length := by have := congrArg List.length he; simpa using this
    refine ⟨.map (es.eraseIdxIfInBounds i) clk, ⟨_, _, rfl, ?_⟩, ?_⟩
    · have hsub : (es.eraseIdxIfInBounds i).toList = es.toList.eraseIdx i := by
        unfold Array.eraseIdxIfInBounds
        rw [dif_pos (by omega)]
        simp
      rw [hsub, hp, List.eraseIdx_eq_take_drop_succ, List.eraseIdx_eq_take_drop_succ, List.map_append, List.map_append, List.map_take, List.map_drop, List.map_take, List.map_drop, he]
    · simp [Builtin.delete_, run_underlying hu, h1, h2, h3, MapKept.run_setObj_map _ hb, Result.andThen]
theorem OpW.delete {t kt et kt' : TypeId} {x y : Operand} {b : Nat} {o : Obj} {kvs : List (κ × Value)} {k : κ} (hk : KeyK P kt enc) (hS : St w0 X L w) (hx : evO env x = some (.map (some b))) (hy : evO env y = some (enc k)) (hu : P.underlying t = some (.map kt et)) (ho : IsMp enc o kvs) (L' : Obj → List (Nat × Obj)) (hm : ∀ o', Repl L b o o' (L' o'))
    (h : ∀ o' w', IsMp enc o' (kdel kvs k) → St w0 X (L' o') w' → K env w') : OpW P N ⟨none, .call { callee := .builtin .delete, args := #[x, y], argTypes := #[t, kt'] }, ty, pos, af, g⟩ env w K := by
  obtain ⟨o', h1, h2⟩ := run_delK (w := w) (k := k) (kt' := kt') (ty := ty) hk hu ho (hS.own _ (hm o).memL)
  refine OpW.base0v (v := .tuple #[]) (w' := { w with heap := w.heap.setIfInBounds b o' }) (fun a ha => ?_) (h o' _ h1 (hS.setHeap (hm o')))
  simp [execOp, resolve, invoke, builtin, ha.ev hx, ha.ev hy, h2]
end
end
/-- Is it no interface? -/
def noIfc (P : Program) (t : TypeId) : Bool := match P.underlying t with | some (.interface _) => false | some _ => true | none => false
theorem RunV.mkIface {P : Program} {N : Nat} {env : Env} {w : World} {dd : Option Nat} {ty : TypeId} {pos : String} {af : Array Edge} {g : Option (Nat × Bool)} {t : TypeId} {x : Operand} {v : Value} (hx : evO env x = some v) (ht : noIfc P t = true) : RunV P N env w ⟨dd, .makeInterface t x, ty, pos, af, g⟩ (.iface t v) := ⟨fun a ha => by
  unfold noIfc at ht
  cases hu : P.underlying t with
  | none => rw [hu] at ht; cases ht
  | some d =>
    rw [hu] at ht
    cases d <;> first | (cases ht; done) | simp [execOp, Instr.makeInterface, ha.ev hx, run_underlying hu]⟩
end Go.Proofs.Ytbnkcagcfbpiiaa
