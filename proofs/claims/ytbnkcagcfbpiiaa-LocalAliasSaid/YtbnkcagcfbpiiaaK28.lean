/- Scopes and labels; rows of a row inside a block, at a symbolic place. -/
import Derived.Test.YtbnkcagcfbpiiaaK13
import Derived.Scope
import Derived.Control
set_option linter.unusedSimpArgs false
set_option linter.unusedVariables false
set_option maxHeartbeats 1000000
namespace Go.Proofs.Ytbnkcagcfbpiiaa
open Go Go.Proofs Go.RowKit
section
variable {P : Program} {N : Nat} {Q : Exit → Act → World → Prop} {env : Env} {w : World}
theorem SatC.scope {c : Code} (h : SatC P N c (Exit.noGoto Q) env w) : SatC P N (.scope c) Q env w := ⟨fun a ha => wp_scope_straight (h.out a ha)⟩
theorem SatC.label {l : Nat} (h : SatE N Q .normal env w) : SatC P N (.label l) Q env w := ⟨fun a ha => wp_label (h.out a ha)⟩
theorem SatE.sc_normal (h : SatE N Q .normal env w) : SatE N (Exit.noGoto Q) .normal env w := ⟨h.out⟩
theorem SatE.sc_ret (h : SatE N Q .ret env w) : SatE N (Exit.noGoto Q) .ret env w := ⟨h.out⟩
theorem SatE.sc_exit {id : Nat} (h : SatE N Q (.exit id) env w) : SatE N (Exit.noGoto Q) (.exit id) env w := ⟨h.out⟩
end
section
variable {α : Type} {enc : α → List Value} {k : Nat}
theorem slots_len (hk : ∀ x, (enc x).length = k) (l : List α) : (l.flatMap enc).length = l.length * k := by
  induction l with
  | nil => simp
  | cons x l ih => simp [hk, ih, Nat.succ_mul]; omega
/-- A cell of a row of rows, between what stands ahead and behind. -/
theorem slots_get (hk : ∀ x, (enc x).length = k) {pre post : List Value} {p s : List α} {x : α} {o j : Nat} {v : Value} (ho : o = pre.length + p.length * k + j) (hv : (enc x)[j]? = some v) : (pre ++ ((p ++ x :: s).flatMap enc ++ post))[o]? = some v := by
  have hj : j < (enc x).length := (List.getElem?_eq_some_iff.1 hv).1
  have hp := slots_len hk p
  subst ho
  rw [Nat.add_assoc, List.getElem?_append_right (by omega), show pre.length + (p.length * k + j) - pre.length = p.length * k + j from by omega, List.flatMap_append, List.flatMap_cons, List.append_assoc, List.getElem?_append_right (by omega), hp, show p.length * k + j - p.length * k = j from by omega, List.append_assoc, List.getElem?_append_left hj]
  exact hv
theorem slots_set (hk : ∀ x, (enc x).length = k) {pre post : List Value} {p s : List α} {x y : α} {o : Nat} (ho : o = pre.length + p.length * k) :
    (pre ++ ((p ++ x :: s).flatMap enc ++ post)).take o ++ enc y ++ (pre ++ ((p ++ x :: s).flatMap enc ++ post)).drop (o + (enc y).length) = pre ++ ((p ++ y :: s).flatMap enc ++ post) := by
  have hp := slots_len hk p
  subst ho
  have e1 : pre ++ ((p ++ x :: s).flatMap enc ++ post) = (pre ++ p.flatMap enc) ++ (enc x ++ (s.flatMap enc ++ post)) := by simp [List.append_assoc]
  have hl : (pre ++ p.flatMap enc).length = pre.length + p.length * k := by rw [List.length_append, hp]
  rw [e1, ← hl, List.take_left, hk y, ← hk x, ← List.length_append, show (pre ++ p.flatMap enc) ++ (enc x ++ (s.flatMap enc ++ post)) = ((pre ++ p.flatMap enc) ++ enc x) ++ (s.flatMap enc ++ post) from by simp [List.append_assoc], List.drop_left]
  simp [List.append_assoc]
theorem slots_setj (hk : ∀ x, (enc x).length = k) {pre post : List Value} {p s : List α} {x y : α} {o j : Nat} {v : Value} (ho : o = pre.length + p.length * k + j) (hj : j < k) (hy : (enc x).set j v = enc y) :
    (pre ++ ((p ++ x :: s).flatMap enc ++ post)).set o v = pre ++ ((p ++ y :: s).flatMap enc ++ post) := by
  have hp := slots_len hk p
  subst ho
  rw [Nat.add_assoc, List.set_append_right (h := by omega), show pre.length + (p.length * k + j) - pre.length = p.length * k + j from by omega, List.flatMap_append, List.flatMap_cons, List.append_assoc, List.set_append_right (h := by omega), hp, show p.length * k + j - p.length * k = j from by omega, List.append_assoc, List.set_append_left (h := by rw [hk]; exact hj), hy]
  simp [List.append_assoc]
theorem split_at {l : List α} {n : Nat} (h : n < l.length) : ∃ p x s, l = p ++ x :: s ∧ p.length = n := by
  refine ⟨l.take n, l[n], l.drop (n + 1), ?_, by rw [List.length_take]; omega⟩
  rw [← List.drop_eq_getElem_cons h, List.take_append_drop]
end
section
variable {P : Program} {N d : Nat} {env : Env} {w0 w : World} {X : List Nat} {L L' : List (Nat × Obj)} {K : Env → World → Prop} {ty : TypeId} {pos : String} {af : Array Edge} {g : Option (Nat × Bool)}
/-- A store of one cell at a symbolic place. -/
theorem OpW.storeAt {t T : TypeId} {x y : Operand} {b o : Nat} {cs cs' : List Value} {v : Value} (hS : St w0 X L w) (hx : evO env x = some (.pointer (some ⟨b, o, none⟩))) (hy : evO env y = some v) (hlt : o < cs.length) (hset : cs.set o v = cs')
    (hm : Repl L b (C T cs) (C T cs') L') (hsz : (P.info? t).map (·.size) = some 1) (h1 : v.oneCell' = true)
    (h : ∀ w', St w0 X L' w' → K env w') : OpW P N ⟨none, .store t x y, ty, pos, af, g⟩ env w K :=
  OpW.storeG (vs := [v]) hS hx hy (IsCells.one h1) (by simpa using hsz) (by simp [h1]) (by show o + 1 ≤ cs.length; omega) (by
    rw [← hset, List.set_eq_take_append_cons_drop, if_pos hlt]; simp) hm h
theorem OpW.storeRowAt {t T : TypeId} {x y : Operand} {b o : Nat} {cs cs' vs : List Value} {v : Value} (hS : St w0 X L w) (hx : evO env x = some (.pointer (some ⟨b, o, none⟩))) (hy : evO env y = some v) (hcells : IsCells v vs) (hle : o + vs.length ≤ cs.length) (hset : cs.take o ++ vs ++ cs.drop (o + vs.length) = cs')
    (hm : Repl L b (C T cs) (C T cs') L') (hsz : (P.info? t).map (·.size) = some vs.length) (h1 : (vs.all (·.oneCell')) = true)
    (h : ∀ w', St w0 X L' w' → K env w') : OpW P N ⟨none, .store t x y, ty, pos, af, g⟩ env w K := OpW.storeG hS hx hy hcells hsz h1 hle hset hm h
theorem RunV.loadMid {t T : TypeId} {x : Operand} {b o n : Nat} {pre mid post : List Value} {dd : Option Nat} (hS : St w0 X L w) (hx : evO env x = some (.pointer (some ⟨b, o, none⟩))) (hr : rowSzL P t = some n) (hm : Has L b (C T (pre ++ (mid ++ post)))) (ho : o = pre.length) (hn : mid.length = n) :
    RunV P N env w ⟨dd, .load t x, ty, pos, af, g⟩ (.agg mid.toArray) := RunV.loadCN hx (rowSzL_eq hr) hn (fun j v hj => hS.cellAt hm (by
      subst ho
      rw [List.getElem?_append_right (by omega), show pre.length + j - pre.length = j from by omega, List.getElem?_append_left (List.getElem?_eq_some_iff.1 hj).1]
      exact hj))
/-- A row of cells at a symbolic place. -/
theorem RunV.loadRowAt {t T : TypeId} {x : Operand} {b o n : Nat} {cs vs : List Value} {dd : Option Nat} (hS : St w0 X L w) (hx : evO env x = some (.pointer (some ⟨b, o, none⟩))) (hr : rowSzL P t = some n) (hm : Has L b (C T cs)) (hn : vs.length = n) (hv : ∀ j v, vs[j]? = some v → cs[o + j]? = some v) :
    RunV P N env w ⟨dd, .load t x, ty, pos, af, g⟩ (.agg vs.toArray) := RunV.loadCN hx (rowSzL_eq hr) hn (fun j v hj => hS.cellAt hm (hv j v hj))
end
end Go.Proofs.Ytbnkcagcfbpiiaa
