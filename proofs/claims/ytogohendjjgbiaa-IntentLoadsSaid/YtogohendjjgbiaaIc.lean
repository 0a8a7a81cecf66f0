/- A call of a function value that has no Go text. -/
import Derived.Test.YtogohendjjgbiaaIb
import Derived.Laws.IdiomCopy
set_option linter.unusedSimpArgs false
set_option linter.unusedVariables false
namespace Go.Proofs.Ytogohendjjgbiaa
open Go.RowKit
section
variable {P : Program} {N d : Nat} {env : Env} {w w' : World} {K : Env → World → Prop} {ty : TypeId} {pos : String} {af : Array Edge} {g : Option (Nat × Bool)}
theorem OpW.externF {f : FuncId} {xs : List Operand} {fo : Operand} {ats : Array TypeId} {fs vs cap : List Value} {v : Value} (hfo : evO env fo = some (.func (.func f) fs.toArray cap.toArray)) (hx : evL env xs = some vs) (hd : Nat.blt d N = true)
    (hc : (callFunc f (fs ++ vs ++ cap).toArray).run P w = .ok (.value v) w') (h : K ((d, v) :: env) w') : OpW P N ⟨some d, .call { callee := .value fo, args := xs.toArray, argTypes := ats }, ty, pos, af, g⟩ env w K := by
  refine OpW.base (v := v) (w' := w') (fun a ha => ?_) hd h
  have h1 := ha.ev hfo
  have h2 := ha.evL hx
  have h3 : (xs.toArray.map a.eval) = vs.toArray := by rw [← h2]; simp
  simp only [execOp, resolve, h1, h3, Deferred.ofValue, Sem.run_bind, Sem.run_pure, Result.andThen_ok, invoke]
  have : fs.toArray ++ vs.toArray ++ cap.toArray = (fs ++ vs ++ cap).toArray := by simp
  rw [this, hc]
end
section
variable {w0 w : World} {X : List Nat} {L : List (Nat × Obj)} {b T : Nat}
theorem St.setCell1 {cs : List Value} (hS : St w0 X ((b, C T cs) :: L) w) (o : Nat) (v : Value) : St w0 X ((b, C T (cs.set o v)) :: L) (w.setCell ⟨b, o, none⟩ v) := by
  have hb := hS.own (b, C T cs) List.mem_cons_self
  have hlt := (Array.getElem?_eq_some_iff.1 hb).1
  refine hS.put (b := b) (o := C T cs) (o' := C T (cs.set o v)) (by repeat constructor) rfl rfl rfl (by simp [World.setCell]) ?_ fun k hk => ?_
  · simp only [World.setCell, Array.getElem?_modify, if_true]
    dsimp only at hb
    rw [hb]
    simp [C]
  · simp only [World.setCell, Array.getElem?_modify]
    rw [if_neg (Ne.symm hk)]
def setAll : Nat → List Value → List Value → List Value
  | _, [], cs => cs
  | o, v :: r, cs => setAll (o + 1) r (cs.set o v)
theorem St.setCells : ∀ (vs : List Value) (o : Nat) (w : World) (cs : List Value), St w0 X ((b, C T cs) :: L) w → St w0 X ((b, C T (setAll o vs cs)) :: L) (w.setCells b o vs)
  | [], _, _, _, h => h
  | v :: r, o, w, cs, h => St.setCells r (o + 1) _ _ (h.setCell1 o v)
theorem setAll_eq : ∀ (vs : List Value) (o : Nat) (cs : List Value), o + vs.length ≤ cs.length → setAll o vs cs = cs.take o ++ vs ++ cs.drop (o + vs.length)
  | [], o, cs, _ => by simp [setAll]
  | v :: r, o, cs, h => by
    rw [List.length_cons] at h
    unfold setAll
    rw [setAll_eq r (o + 1) _ (by rw [List.length_set]; omega)]
    apply List.ext_getElem?
    intro j
    simp only [List.length_cons, List.getElem?_append, List.length_append, List.length_take, List.length_set, List.getElem?_take, List.getElem?_drop, List.getElem?_set, List.getElem?_cons]
    have e1 : min (o + 1) cs.length = o + 1 := by omega
    have e2 : min o cs.length = o := by omega
    rw [e1, e2]
    rcases Nat.lt_trichotomy j o with hj | hj | hj
    · rw [if_pos (by omega), if_pos (by omega), if_pos (by omega), if_neg (by omega), if_pos (by omega), if_pos (by omega), if_pos hj]
    · subst hj
      rw [if_pos (by omega), if_pos (by omega), if_pos (by omega), if_pos rfl, if_pos (by omega), if_pos (by omega), if_neg (by omega), if_pos (by omega)]
    · by_cases h2 : j < o + 1 + r.length
      · rw [if_pos h2, if_neg (by omega), if_pos (by omega), if_neg (by omega), if_neg (by omega)]
        congr 1
        all_goals omega
      · rw [if_neg h2, if_neg (by omega), if_neg (by omega)]
        congr 1
        all_goals omega
end
section
variable {w0 w : World} {X : List Nat} {L : List (Nat × Obj)} {T k : Nat}
theorem Sl.setRowC {v : Value} {rows : List (List Value)} {B : List (Nat × Obj)} {i : Nat} {r : List Value} (hsl : Sl T k v rows B) (hS : St w0 X (B ++ L) w) (hr : r.length = k) (hi : i < rows.length) : ∃ B', blk B' = blk B ∧ Sl T k v (rows.set i r) B' ∧ St w0 X (B' ++ L) (w.setCells (blk B) (i * k) r) := by
  cases hsl with
  | nil => simp at hi
  | @own g0 cap cur rows hk hc hn hm hf =>
    have hcur : cur = rows.flatten ++ cur.drop (rows.length * k) := by rw [← hf]; exact (List.take_append_drop _ _).symm
    have hset : (rows.set i r).length = rows.length := by simp
    have hfl0 := flat_len hk
    have hle0 : i * k + k ≤ rows.flatten.length := by
      rw [hfl0, ← Nat.succ_mul]
      exact Nat.mul_le_mul_right _ hi
    have hall : ∀ r' ∈ rows.set i r, r'.length = k := fun r' hr' => by
      rcases List.mem_or_eq_of_mem_set hr' with h' | h'
      · exact hk r' h'
      · rw [h']; exact hr
    have hfl := flat_len hall
    rw [hset] at hfl
    have hle : rows.length * k ≤ cap * k := Nat.mul_le_mul_right _ hn
    have hsl : Sl T k (.slice (some ⟨g0, 0, none⟩) (rows.set i r).length cap) (rows.set i r) [(g0, C T ((rows.set i r).flatten ++ cur.drop (rows.length * k)))] :=
      .own hall (by rw [List.length_append, hfl, List.length_drop]; omega) (by rw [hset]; exact hn) hm (by rw [hset]; exact List.take_left' hfl)
    rw [hset] at hsl
    refine ⟨[(g0, C T ((rows.set i r).flatten ++ cur.drop (rows.length * k)))], rfl, hsl, ?_⟩
    have h := St.setCells r (i * k) w cur hS
    rw [setAll_eq r (i * k) cur (by rw [hr, hc]; omega)] at h
    have e : cur.take (i * k) ++ r ++ cur.drop (i * k + r.length) = (rows.set i r).flatten ++ cur.drop (rows.length * k) := by
      rw [flat_set hk hr hi]
      conv => lhs; rw [hcur]
      rw [List.take_append_of_le_length (by omega), hr, List.drop_append_of_le_length hle0]
      simp
    rw [e] at h
    exact h
theorem Sl.swapC {v : Value} {rows : List (List Value)} {B : List (Nat × Obj)} {i j : Nat} {ri rj : List Value} (hsl : Sl T k v rows B) (hS : St w0 X (B ++ L) w) (hi : rows[i]? = some ri) (hj : rows[j]? = some rj) (hri : ri.length = k) (hrj : rj.length = k) : ∃ B', blk B' = blk B ∧ Sl T k v ((rows.set i rj).set j ri) B' ∧ St w0 X (B' ++ L) ((w.setCells (blk B) (i * k) rj).setCells (blk B) (j * k) ri) := by
  obtain ⟨B1, e1, h1, h2⟩ := hsl.setRowC hS hrj (List.getElem?_eq_some_iff.1 hi).1
  obtain ⟨B2, e2, h3, h4⟩ := h1.setRowC h2 hri (by rw [List.length_set]; exact (List.getElem?_eq_some_iff.1 hj).1)
  exact ⟨B2, e2.trans e1, h3, e1 ▸ h4⟩
end
end Go.Proofs.Ytogohendjjgbiaa
