/- Loads, stores, new blocks; a region whose order is drawn. Over any program; no condition. -/
import Derived.Test.YtdoinfpkfbfjaaaK5
set_option linter.unusedVariables false
set_option linter.unusedSimpArgs false
namespace Go.Proofs.Ytdoinfpkfbfjaaa
open Go.RowKit

section
variable {P : Program} {N : Nat} {Q : Exit → Act → World → Prop} {env : Env} {w w0 : World} {X : List Nat} {L L' : List (Nat × Obj)} {K : Env → World → Prop}
variable {d : Nat} {ty : TypeId} {pos : String} {af : Array Edge} {g : Option (Nat × Bool)}

/-- A load of a cell that is known. -/
theorem RunV.loadC {t : TypeId} {x : Operand} {b o : Nat} {v : Value} {dd : Option Nat} (hx : evO env x = some (.pointer (some ⟨b, o, none⟩))) (hr : rowSz P t = some none) (hc : w.cell? ⟨b, o, none⟩ = some v) : RunV P N env w ⟨dd, .load t x, ty, pos, af, g⟩ v := ⟨fun a ha => by
  have := run_load1 (P := P) (w := w) hr hc
  simp only [execOp, ha.ev hx, Sem.run_bind, this, Result.andThen_ok, Sem.run_pure]⟩
theorem RunV.loadCN {t : TypeId} {x : Operand} {b o n : Nat} {vs : List Value} {dd : Option Nat} (hx : evO env x = some (.pointer (some ⟨b, o, none⟩))) (hr : rowSz P t = some (some n)) (hl : vs.length = n) (hc : ∀ j v, vs[j]? = some v → w.cell? ⟨b, o + j, none⟩ = some v) :
    RunV P N env w ⟨dd, .load t x, ty, pos, af, g⟩ (.agg vs.toArray) := ⟨fun a ha => by
  have := run_loadN (P := P) (w := w) hr hl hc
  simp only [execOp, ha.ev hx, Sem.run_bind, this, Result.andThen_ok, Sem.run_pure]⟩
/-- A load out of a block of one's own. -/
theorem RunV.load1 {t T : TypeId} {x : Operand} {b o : Nat} {cs : List Value} {v : Value} {dd : Option Nat} (hS : St w0 X L w) (hx : evO env x = some (.pointer (some ⟨b, o, none⟩))) (hr : rowSz P t = some none) (hm : Has L b (C T cs)) (hv : cs[o]? = some v) :
    RunV P N env w ⟨dd, .load t x, ty, pos, af, g⟩ v := RunV.loadC hx hr (hS.cellAt hm hv)
theorem RunV.loadN {t T : TypeId} {x : Operand} {b o n : Nat} {cs vs : List Value} {dd : Option Nat} (hS : St w0 X L w) (hx : evO env x = some (.pointer (some ⟨b, o, none⟩))) (hr : rowSzL P t = some n) (hm : Has L b (C T cs)) (hv : IsSeg cs o n vs) :
    RunV P N env w ⟨dd, .load t x, ty, pos, af, g⟩ (.agg vs.toArray) := RunV.loadCN hx (rowSzL_eq hr) hv.spec.1 (fun j v hj => hS.cellAt hm (hv.spec.2 j v hj))

/-! ### Stores -/
inductive IsSet : List Value → Nat → List Value → List Value → Prop
  | nil {cs : List Value} : IsSet cs 0 [] cs
  | cons {c v : Value} {cs vs cs' : List Value} : IsSet cs 0 vs cs' → IsSet (c :: cs) 0 (v :: vs) (v :: cs')
  | skip {c : Value} {cs vs cs' : List Value} {o : Nat} : IsSet cs o vs cs' → IsSet (c :: cs) (o + 1) vs (c :: cs')
theorem IsSet.spec {cs vs cs' : List Value} {o : Nat} (h : IsSet cs o vs cs') : o + vs.length ≤ cs.length ∧ cs' = cs.take o ++ vs ++ cs.drop (o + vs.length) := by
  induction h with
  | nil => exact ⟨by simp, by simp⟩
  | cons _ ih => exact ⟨by have := ih.1; simp at this ⊢; omega, by have := ih.2; simp at this ⊢; exact this⟩
  | @skip c cs vs cs' o _ ih =>
    refine ⟨by have := ih.1; simp at this ⊢; omega, ?_⟩
    rw [ih.2]
    simp [show o + 1 + vs.length = (o + vs.length) + 1 from by omega]
theorem run_storeRow {t T : TypeId} {b o : Nat} {cs vs : List Value} {v : Value} (hcells : IsCells v vs) (hsz : (P.info? t).map (·.size) = some vs.length)
    (h1 : (vs.all (·.oneCell')) = true) (hb : w.heap[b]? = some (C T cs)) (hle : o + vs.length ≤ cs.length) :
    (Instr.storeAt t (.pointer (some ⟨b, o, none⟩)) v).run P w = .ok () (w.setRow b (cs.take o ++ vs ++ cs.drop (o + vs.length)).toArray) := by
  have hst := run_storeCells_at P b o T vs 0 cs.toArray w hb (by simpa using hle) (fun u hu => List.all_eq_true.1 h1 u hu)
  simp only [Nat.add_zero] at hst
  cases hq : P.info? t with
  | none => simp [hq] at hsz
  | some i =>
    have hi : i.size = vs.length := by simpa [hq] using hsz
    simp only [Instr.storeAt, Instr.sureAddr, Sem.run_bind, Sem.run_pure, Result.andThen_ok, storeVar, hcells.eq, sizeOf, typeInfo, run_program, hq, hi]
    simp [hst]
theorem Repl.memL {b : Nat} {o o' : Obj} (hm : Repl L b o o' L') : (b, o) ∈ L := by
  obtain ⟨R, h1, _⟩ := hm.perm
  exact h1.mem_iff.2 List.mem_cons_self
theorem St.setRow {T : TypeId} {b : Nat} {cs cs' : List Value} (h : St w0 X L w) (hm : Repl L b (C T cs) (C T cs') L') : St w0 X L' (w.setRow b cs'.toArray) := by
  have hb := h.own _ hm.memL
  exact h.put hm rfl rfl rfl (by simp) (setRow_heap w b _ _ T _ hb) (fun k hk => setRow_other w b k _ hk)
/-- A store into a block of one's own at an offset that is reckoned. -/
theorem OpW.storeG {t T : TypeId} {x y : Operand} {b o : Nat} {cs vs cs' : List Value} {v : Value} (hS : St w0 X L w) (hx : evO env x = some (.pointer (some ⟨b, o, none⟩))) (hy : evO env y = some v)
    (hcells : IsCells v vs) (hsz : (P.info? t).map (·.size) = some vs.length) (h1 : (vs.all (·.oneCell')) = true) (hle : o + vs.length ≤ cs.length) (hset : cs.take o ++ vs ++ cs.drop (o + vs.length) = cs') (hm : Repl L b (C T cs) (C T cs') L')
    (h : ∀ w', St w0 X L' w' → K env w') : OpW P N ⟨none, .store t x y, ty, pos, af, g⟩ env w K := by
  have hb := hS.own _ hm.memL
  refine OpW.base0 (w' := w.setRow b (cs.take o ++ vs ++ cs.drop (o + vs.length)).toArray) (fun a ha => ?_) (h _ ?_)
  · have := run_storeRow (P := P) (o := o) hcells hsz h1 hb hle
    simp only [execOp, ha.ev hx, ha.ev hy, Sem.run_bind, this, Result.andThen_ok, Sem.run_pure]
  · rw [hset]
    exact hS.setRow hm
theorem OpW.store {t T : TypeId} {x y : Operand} {b o : Nat} {cs vs cs' : List Value} {v : Value} (hS : St w0 X L w) (hx : evO env x = some (.pointer (some ⟨b, o, none⟩))) (hy : evO env y = some v)
    (hcells : IsCells v vs) (hm : Repl L b (C T cs) (C T cs') L') (hset : IsSet cs o vs cs') (hsz : (P.info? t).map (·.size) = some vs.length) (h1 : (vs.all (·.oneCell')) = true)
    (h : ∀ w', St w0 X L' w' → K env w') : OpW P N ⟨none, .store t x y, ty, pos, af, g⟩ env w K :=
  OpW.storeG hS hx hy hcells hsz h1 hset.spec.1 hset.spec.2.symm hm h

/-! ### New blocks -/
theorem OpW.alloc {e : TypeId} {z : Value} {cs : List Value} (hS : St w0 X L w) (hd : Nat.blt d N = true) (hz : (P.info? e).bind (·.zero) = some z) (hcells : IsCells z cs)
    (h : ∀ b w', b = w.heap.size → St w0 X ((b, C e cs) :: L) w' → K ((d, .pointer (some ⟨b, 0, none⟩)) :: env) w') : OpW P N ⟨some d, .alloc e, ty, pos, af, g⟩ env w K := by
  refine OpW.base (v := .pointer (some ⟨w.heap.size, 0, none⟩)) (w' := w.alloc (C e cs)) (fun a ha => ?_) hd (h _ _ rfl (hS.alloc _))
  obtain ⟨i, hi, hz'⟩ := Option.bind_eq_some_iff.1 hz
  simp only [execOp, Instr.alloc, Sem.run_bind, zeroValue, typeInfo, run_program, hi, Sem.run_pure, Result.andThen_ok, hz', newVar, newRow, hcells.eq]
  rfl
theorem OpW.box {e : TypeId} {x : Operand} {v : Value} {cs : List Value} (hS : St w0 X L w) (hd : Nat.blt d N = true) (hx : evO env x = some v) (hcells : IsCells v cs)
    (h : ∀ b w', b = w.heap.size → St w0 X ((b, C e cs) :: L) w' → K ((d, .pointer (some ⟨b, 0, none⟩)) :: env) w') : OpW P N ⟨some d, .box e x, ty, pos, af, g⟩ env w K := by
  refine OpW.base (v := .pointer (some ⟨w.heap.size, 0, none⟩)) (w' := w.alloc (C e cs)) (fun a ha => ?_) hd (h _ _ rfl (hS.alloc _))
  simp only [execOp, Instr.box, Sem.run_bind, Sem.run_pure, newVar, newRow, ha.ev hx, hcells.eq]
  rfl

/-! ### A region whose order is drawn -/
/-- Whatever order is picked; S holds behind every operation but number F. -/
def wpB (P : Program) (ops : Array Oper) (Q : Exit → Act → World → Prop) (S : World → Prop) (F : Nat) : Nat → Array Bool → Act → World → Prop
  | 0, listed, a, w => Region.ready .any ops listed = [] ∧ Q .normal a w
  | fuel + 1, listed, a, w =>
    (Region.ready .any ops listed = [] → Q .normal a w) ∧
    ∀ i ∈ Region.ready .any ops listed, wpOp P ops Q i (fun a' w' => (i = F ∨ S w') ∧ wpB P ops Q S F fuel (listed.setIfInBounds i true) a' w') a w
theorem wpAny_of_B {ops : Array Oper} {S : World → Prop} {F : Nat} : ∀ (fuel : Nat) (listed : Array Bool) (a : Act) (w : World), wpB P ops Q S F fuel listed a w → wpAny P .any ops Q fuel listed a w
  | 0, _, _, _, h => h
  | fuel + 1, _, _, _, h => ⟨h.1, fun i hi => wpOp_mono (fun a' w' h' => wpAny_of_B fuel _ a' w' h'.2) (h.2 i hi)⟩
/-- F waits for i: itself, or by those that the path names. -/
def edgeB (ops : Array Oper) (k i : Nat) : Bool := match ops[k]? with
  | some o => o.after.toList.any fun e => Region.binds .any e && e.on == i
  | none => false
def pathB (ops : Array Oper) : Nat → List Nat → Nat → Bool
  | k, [], i => edgeB ops k i
  | k, m :: ms, i => edgeB ops k m && pathB ops m ms i
def waitsB (ops : Array Oper) (F i : Nat) (path : List Nat) : Bool := Nat.ble ops.size F || pathB ops F path i
/-- What is listed has all that it waits for listed. -/
def ClosedL (ops : Array Oper) (listed : Array Bool) : Prop := ∀ (k : Nat) (o : Oper), listed.getD k false = true → ops[k]? = some o → ∀ e ∈ o.after, Region.binds .any e = true → listed.getD e.on false = true
theorem edge_spec {ops : Array Oper} {k i : Nat} (h : edgeB ops k i = true) : ∃ o, ops[k]? = some o ∧ ∃ e ∈ o.after, Region.binds .any e = true ∧ e.on = i := by
  unfold edgeB at h
  cases ho : ops[k]? with
  | none => rw [ho] at h; cases h
  | some o =>
    rw [ho] at h
    obtain ⟨e, he, hb⟩ := List.any_eq_true.1 h
    simp only [Bool.and_eq_true, beq_iff_eq] at hb
    exact ⟨o, rfl, e, by simpa using he, hb.1, hb.2⟩
theorem path_listed {ops : Array Oper} {listed : Array Bool} (hc : ClosedL ops listed) : ∀ (path : List Nat) (k i : Nat) (o : Oper), ops[k]? = some o → (∀ e ∈ o.after, Region.binds .any e = true → listed.getD e.on false = true) → pathB ops k path i = true → listed.getD i false = true
  | [], k, i, o, ho, hall, h => by
    obtain ⟨o', ho', e, he, hb, rfl⟩ := edge_spec h
    rw [ho] at ho'
    obtain rfl := Option.some.inj ho'
    exact hall e he hb
  | m :: ms, k, i, o, ho, hall, h => by
    unfold pathB at h
    rw [Bool.and_eq_true] at h
    obtain ⟨o', ho', e, he, hb, rfl⟩ := edge_spec h.1
    rw [ho] at ho'
    obtain rfl := Option.some.inj ho'
    have hl := hall e he hb
    have hm : ∃ om, ops[e.on]? = some om := by
      have h2 := h.2
      cases ms with
      | nil => obtain ⟨om, hom, _⟩ := edge_spec h2; exact ⟨om, hom⟩
      | cons x xs =>
        unfold pathB at h2
        rw [Bool.and_eq_true] at h2
        obtain ⟨om, hom, _⟩ := edge_spec h2.1
        exact ⟨om, hom⟩
    obtain ⟨om, hom⟩ := hm
    exact path_listed hc ms e.on i om hom (hc e.on om hl hom) h.2
theorem closed_set {ops : Array Oper} {listed : Array Bool} (hc : ClosedL ops listed) {j : Nat} (hj : j ∈ Region.ready .any ops listed) : ClosedL ops (listed.setIfInBounds j true) := by
  obtain ⟨_, oj, hoj, hall⟩ := mem_ready.1 hj
  intro k o hk ho e he hb
  by_cases hjk : j = k
  · subst hjk
    rw [hoj] at ho
    obtain rfl := Option.some.inj ho
    exact getD_set_true (hall e he hb)
  · rw [getD_set_ne false hjk] at hk
    exact getD_set_true (hc k o hk ho e he hb)
theorem wpB_first {ops : Array Oper} {S : World → Prop} {F i : Nat} {oi : Oper} {v : Value} (hi : ops[i]? = some oi) (hsel : ∀ (j : Nat) (o : Oper) cs b, ops[j]? = some o → o.op ≠ .select cs b)
    (hQ : ∀ c a w, Q (.panic c) (a.put oi.dst v) w → Q (.panic c) a w) {path : List Nat} (hF : waitsB ops F i path = true) (hiF : i ≠ F) :
    ∀ (fuel : Nat) (listed : Array Bool) (a : Act) (w : World),
      ClosedL ops listed → (∀ j oj, ops[j]? = some oj → j ≠ i → listed.getD j true = false → (∀ e ∈ oj.after, Region.binds .any e = true → e.on ≠ i) → oi.apart ops oj = true) →
      i ∈ Region.ready .any ops listed → YieldsIf P ops S oi v a → S w →
      wpB P ops Q S F fuel (listed.setIfInBounds i true) (a.put oi.dst v) w → wpB P ops Q S F (fuel + 1) listed a w := by
  intro fuel
  induction fuel with
  | zero =>
    intro listed a w _ _ hr hy hS H
    refine ⟨fun h => (by rw [h] at hr; cases hr), fun j hj => ?_⟩
    by_cases hji : j = i
    · subst hji; exact hy.wpOp hi hS ⟨.inr hS, H⟩
    · have := ready_mono hj hji
      rw [H.1] at this
      cases this
  | succ fuel ih =>
    intro listed a w hcl hfree hr hy hS H
    refine ⟨fun h => (by rw [h] at hr; cases hr), fun j hj => ?_⟩
    by_cases hji : j = i
    · subst hji; exact hy.wpOp hi hS ⟨.inr hS, H⟩
    · have h1 := H.2 j (ready_mono hj hji)
      obtain ⟨hjun, oj, hoj, hall⟩ := mem_ready.1 hj
      have hnot : ∀ e ∈ oj.after, Region.binds .any e = true → e.on ≠ i := fun e he hb heq => by
        have h1 := hall e he hb
        have h0 := (mem_ready.1 hr).1
        rw [heq] at h1
        rcases Nat.lt_or_ge i listed.size with h' | h'
        · simp [h'] at h0 h1; rw [h0] at h1; cases h1
        · simp [Array.getElem?_eq_none h'] at h1
      have hjF : j ≠ F := fun e => by
        subst e
        have hlt : j < ops.size := (Array.getElem?_eq_some_iff.1 hoj).1
        unfold waitsB at hF
        rw [Bool.or_eq_true] at hF
        rcases hF with hF | hF
        · rw [Nat.ble_eq] at hF
          omega
        · have hil := path_listed hcl path j i oj hoj hall hF
          have h0 := (mem_ready.1 hr).1
          rcases Nat.lt_or_ge i listed.size with h' | h'
          · simp [h'] at h0 hil; rw [h0] at hil; cases hil
          · simp [Array.getElem?_eq_none h'] at hil
      have h2 := wpOp_putIf hoj (hfree j oj hoj hji hjun hnot) (fun cs b => hsel i oi cs b hi) (fun cs b => hsel j oj cs b hoj) hQ hy h1
      have hfree' : ∀ k ok, ops[k]? = some ok → k ≠ i → (listed.setIfInBounds j true).getD k true = false →
          (∀ e ∈ ok.after, Region.binds .any e = true → e.on ≠ i) → oi.apart ops ok = true := fun k ok hk hki hun hno => by
        refine hfree k ok hk hki ?_ hno
        by_cases hjk : j = k
        · subst hjk; exact hjun
        · rw [getD_set_ne true hjk] at hun; exact hun
      refine wpOp_mono (fun a' w' h3 => ⟨h3.2.1, ih (listed.setIfInBounds j true) a' w' (closed_set hcl hj) hfree' (ready_mono hr (Ne.symm hji)) h3.1 (h3.2.1.resolve_left hjF) ?_⟩) h2
      rw [Array.setIfInBounds_comm _ _ hji]
      exact h3.2.2
structure SatD (P : Program) (N : Nat) (ops : Array Oper) (Q : Exit → Act → World → Prop) (S : World → Prop) (F : Nat) (fuel : Nat) (listed : Array Bool) (env : Env) (w : World) : Prop where mk :: (out : ∀ a, Ag N env a → ClosedL ops listed → wpB P ops Q S F fuel listed a w)
def guardOk (ops : Array Oper) (env : Env) : Option (Nat × Bool) → Bool
  | none => true
  | some (j, b) => match (ops[j]?).bind (·.dst) with
    | some t => match env.lookup t with
      | some (.bool c) => c == b
      | _ => false
    | none => false
def guardNo (ops : Array Oper) (env : Env) : Option (Nat × Bool) → Bool
  | none => false
  | some (j, b) => match (ops[j]?).bind (·.dst) with
    | some t => match env.lookup t with
      | some (.bool c) => c != b
      | some (.tuple _) => true
      | _ => false
    | none => false
theorem guardOk_wanted {ops : Array Oper} {o : Oper} {a : Act} (ha : Ag N env a) (h : guardOk ops env o.guard = true) : Region.wanted o (yielded ops a.tmps) = true := by
  unfold guardOk at h
  cases hg : o.guard with
  | none => simp [Region.wanted, hg]
  | some p =>
    obtain ⟨j, b⟩ := p
    rw [hg] at h
    dsimp only at h
    split at h
    · rename_i t ht
      split at h
      · rename_i c hc
        have := ha.2.2 t _ hc
        simp only [beq_iff_eq] at h
        simp [Region.wanted, hg, yielded, ht, this, h]
      · cases h
    · cases h
theorem guardNo_wanted {ops : Array Oper} {o : Oper} {a : Act} (ha : Ag N env a) (h : guardNo ops env o.guard = true) : Region.wanted o (yielded ops a.tmps) = false := by
  unfold guardNo at h
  cases hg : o.guard with
  | none => rw [hg] at h; cases h
  | some p =>
    obtain ⟨j, b⟩ := p
    rw [hg] at h
    dsimp only at h
    split at h
    · rename_i t ht
      split at h
      · rename_i c hc
        have := ha.2.2 t _ hc
        simp only [bne_iff_ne, ne_eq] at h
        simp [Region.wanted, hg, yielded, ht, this, h]
      · rename_i vs hc
        have := ha.2.2 t _ hc
        simp [Region.wanted, hg, yielded, ht, this]
      · cases h
    · cases h
theorem closed_none {l : List Oper} (n : Nat) : ClosedL l.toArray (List.replicate n false).toArray := by
  intro k o hk _ _ _ _
  simp only [Array.getD_eq_getD_getElem?, List.getElem?_toArray, List.getElem?_replicate] at hk
  split at hk <;> simp at hk
/-- A region that draws: S is what every operation that is carried out keeps. -/
theorem SatC.drawn {id : Nat} {l : List Oper} (S : World → Prop) (F : Nat) (hm : P.follows .mixedOrders = true) (h : ∀ w', w'.heap = w.heap → (∀ X L, St w0 X L w → St w0 X L w') → SatD P N l.toArray Q S F l.length (List.replicate l.length false).toArray env w') : SatC P N (.region id l.toArray true) Q env w :=
  ⟨fun a ha => wp_region_any hm (wpAny_of_B (S := S) (F := F) _ _ _ _ (by have := (h { w with drawn := w.drawn + 1 } rfl (fun X L hS => hS.drew)).out a ha (closed_none _); simpa using this))⟩
theorem SatC.drawnS {id : Nat} {l : List Oper} (F : Nat) (hS : St w0 X L w) (hm : P.follows .mixedOrders = true) (h : ∀ w', w'.heap = w.heap → St w0 X L w' → St w0 X L w' → SatD P N l.toArray Q (St w0 X L) F l.length (List.replicate l.length false).toArray env w') : SatC P N (.region id l.toArray true) Q env w :=
  SatC.drawn _ F hm (fun w' e k => h w' e (k _ _ hS) (k _ _ hS))
theorem SatC.drawnT {id : Nat} {l : List Oper} {X2 : List Nat} {L2 : List (Nat × Obj)} (F : Nat) (hS : St w0 X L w) (hD : St w0 X2 L2 w) (hm : P.follows .mixedOrders = true) (h : ∀ w', w'.heap = w.heap → St w0 X L w' → St w0 X2 L2 w' → SatD P N l.toArray Q (St w0 X2 L2) F l.length (List.replicate l.length false).toArray env w') : SatC P N (.region id l.toArray true) Q env w :=
  SatC.drawn _ F hm (fun w' e k => h w' e (k _ _ hS) (k _ _ hD))
theorem SatD.done {ops : Array Oper} {S : World → Prop} {F : Nat} {listed : Array Bool} (fuel : Nat) (hr : Region.ready .any ops listed = []) (h : SatE N Q .normal env w) : SatD P N ops Q S F fuel listed env w := by
  refine ⟨fun a ha hcl => ?_⟩
  cases fuel with
  | zero => exact ⟨hr, h.out a ha⟩
  | succ n => exact ⟨fun _ => h.out a ha, by rw [hr]; simp⟩
theorem wpB_all {ops : Array Oper} {S : World → Prop} {F : Nat} {rs : List Nat} {fuel : Nat} {listed : Array Bool} {a : Act} (hr : Region.ready .any ops listed = rs) (hne : rs ≠ [])
    (h : ∀ i ∈ rs, wpOp P ops Q i (fun a' w' => (i = F ∨ S w') ∧ wpB P ops Q S F fuel (listed.setIfInBounds i true) a' w') a w) : wpB P ops Q S F (fuel + 1) listed a w :=
  ⟨fun h0 => absurd (hr ▸ h0) hne, hr ▸ h⟩
/-- An operation that may be taken first. -/
def takable (ops : Array Oper) (F : Nat) (listed : Array Bool) (i : Nat) (path : List Nat) : Bool := waitsB ops F i path && !(i == F) && Region.noSelect ops && Region.free .any ops listed i && (Region.ready .any ops listed).contains i
theorem SatD.take {ops : Array Oper} {S : World → Prop} {F fuel : Nat} {listed : Array Bool} {op : Op} {v : Value} (i : Nat) (ho : ops[i]? = some ⟨some d, op, ty, pos, af, g⟩) (path : List Nat) (ht : takable ops F listed i path = true)
    (hQ : ∀ c a w, Q (.panic c) (a.put (some d) v) w → Q (.panic c) a w) (hg : guardOk ops env g = true) (hd : Nat.blt d N = true) (hS : S w)
    (hv : ∀ w, S w → RunV P N env w ⟨some d, op, ty, pos, af, g⟩ v) (h : SatD P N ops Q S F fuel (listed.setIfInBounds i true) ((d, v) :: env) w) : SatD P N ops Q S F (fuel + 1) listed env w := by
  simp only [takable, Bool.and_eq_true, Bool.not_eq_true', beq_eq_false_iff_ne] at ht
  exact ⟨fun a ha hcl => wpB_first (v := v) ho (Region.noSelect_spec ht.1.1.2) hQ ht.1.1.1.1 ht.1.1.1.2 fuel listed a w hcl (Region.free_spec ho ht.1.2) (by simpa using ht.2) (.inl ⟨guardOk_wanted ha hg, fun w' hw' => (hv w' hw').out a ha⟩) hS (h.out _ (ha.put (by simpa [Nat.blt_eq] using hd)) (closed_set hcl (by simpa using ht.2)))⟩
theorem SatD.skip {ops : Array Oper} {S : World → Prop} {F fuel : Nat} {listed : Array Bool} {op : Op} (i : Nat) (ho : ops[i]? = some ⟨some d, op, ty, pos, af, g⟩) (path : List Nat) (ht : takable ops F listed i path = true)
    (hQ : ∀ c a w, Q (.panic c) (a.put (some d) undef) w → Q (.panic c) a w) (hg : guardNo ops env g = true) (hd : Nat.blt d N = true) (hS : S w)
    (h : SatD P N ops Q S F fuel (listed.setIfInBounds i true) ((d, undef) :: env) w) : SatD P N ops Q S F (fuel + 1) listed env w := by
  simp only [takable, Bool.and_eq_true, Bool.not_eq_true', beq_eq_false_iff_ne] at ht
  exact ⟨fun a ha hcl => wpB_first (v := undef) ho (Region.noSelect_spec ht.1.1.2) hQ ht.1.1.1.1 ht.1.1.1.2 fuel listed a w hcl (Region.free_spec ho ht.1.2) (by simpa using ht.2) (.inr ⟨guardNo_wanted ha hg, rfl⟩) hS (h.out _ (ha.put (by simpa [Nat.blt_eq] using hd)) (closed_set hcl (by simpa using ht.2)))⟩
theorem SatD.eff {ops : Array Oper} {S : World → Prop} {F fuel : Nat} {listed : Array Bool} {o : Oper} (i : Nat) (hr : Region.ready .any ops listed = [i]) (ho : ops[i]? = some o) (hg : guardOk ops env o.guard = true)
    (h : OpW P N o env w (fun env' w' => S w' ∧ SatD P N ops Q S F fuel (listed.setIfInBounds i true) env' w')) : SatD P N ops Q S F (fuel + 1) listed env w := by
  refine ⟨fun a ha hcl => wpB_all hr (by simp) fun j hj => ?_⟩
  obtain rfl : j = i := by simpa using hj
  unfold wpOp
  simp only [ho]
  rw [if_pos (guardOk_wanted ha hg)]
  exact .inl (h.out a Q _ ha (fun env' a' w' hs hA => ⟨.inr hs.1, hs.2.out a' hA (closed_set hcl (by rw [hr]; simp_all))⟩))
theorem SatD.eff2 {ops : Array Oper} {S : World → Prop} {F fuel : Nat} {listed : Array Bool} {o o' : Oper} (i j : Nat) (hr : Region.ready .any ops listed = [i, j]) (ho : ops[i]? = some o) (hg : guardOk ops env o.guard = true) (ho' : ops[j]? = some o') (hg' : guardOk ops env o'.guard = true)
    (h : OpW P N o env w (fun env' w' => S w' ∧ SatD P N ops Q S F fuel (listed.setIfInBounds i true) env' w')) (h' : OpW P N o' env w (fun env' w' => S w' ∧ SatD P N ops Q S F fuel (listed.setIfInBounds j true) env' w')) : SatD P N ops Q S F (fuel + 1) listed env w := by
  refine ⟨fun a ha hcl => wpB_all hr (by simp) fun k hk => ?_⟩
  simp only [List.mem_cons, List.not_mem_nil, or_false] at hk
  rcases hk with rfl | rfl
  · unfold wpOp
    simp only [ho]
    rw [if_pos (guardOk_wanted ha hg)]
    exact .inl (h.out a Q _ ha (fun env' a' w' hs hA => ⟨.inr hs.1, hs.2.out a' hA (closed_set hcl (by rw [hr]; simp_all))⟩))
  · unfold wpOp
    simp only [ho']
    rw [if_pos (guardOk_wanted ha hg')]
    exact .inl (h'.out a Q _ ha (fun env' a' w' hs hA => ⟨.inr hs.1, hs.2.out a' hA (closed_set hcl (by rw [hr]; simp_all))⟩))
inductive SubL : List (Nat × Obj) → List (Nat × Obj) → Prop
  | refl {L : List (Nat × Obj)} : SubL L L
  | app {B L L' : List (Nat × Obj)} : SubL L' L → SubL (B ++ L') (B ++ L)
  | all {B L : List (Nat × Obj)} : SubL B (B ++ L)
  | drop {c : Nat × Obj} {L L' : List (Nat × Obj)} : SubL L' L → SubL L' (c :: L)
theorem SubL.sub {L L' : List (Nat × Obj)} (h : SubL L' L) : L'.Sublist L := by
  induction h with
  | refl => exact List.Sublist.refl _
  | app _ ih => exact ih.append_left _
  | all => exact List.sublist_append_left _ _
  | drop _ ih => exact ih.cons _
theorem St.sb (hS : St w0 X L w) (h : SubL L' L) : St w0 X L' w := hS.sub h.sub
theorem keepS {S T : Prop} (h : S) (k : S → T) : S ∧ T := ⟨h, k h⟩
/-- Every operation that is ready may be the next one. -/
def AllEff (P : Program) (N : Nat) (ops : Array Oper) (Q : Exit → Act → World → Prop) (S : World → Prop) (F fuel : Nat) (listed : Array Bool) (env : Env) (w : World) : List Nat → Prop
  | [] => True
  | i :: is => (∃ o, ops[i]? = some o ∧ guardOk ops env o.guard = true ∧ OpW P N o env w (fun env' w' => S w' ∧ SatD P N ops Q S F fuel (listed.setIfInBounds i true) env' w')) ∧ AllEff P N ops Q S F fuel listed env w is
theorem AllEff.get {ops : Array Oper} {S : World → Prop} {F fuel : Nat} {listed : Array Bool} : ∀ {is : List Nat}, AllEff P N ops Q S F fuel listed env w is → ∀ i ∈ is, ∃ o, ops[i]? = some o ∧ guardOk ops env o.guard = true ∧ OpW P N o env w (fun env' w' => S w' ∧ SatD P N ops Q S F fuel (listed.setIfInBounds i true) env' w')
  | [], _, i, hi => by cases hi
  | j :: is, h, i, hi => by
    rcases List.mem_cons.1 hi with rfl | hi
    · exact h.1
    · exact h.2.get i hi
theorem SatD.effs {ops : Array Oper} {S : World → Prop} {F fuel : Nat} {listed : Array Bool} (is : List Nat) (hr : Region.ready .any ops listed = is) (h : AllEff P N ops Q S F fuel listed env w is) (hne : is ≠ [] := by decide) : SatD P N ops Q S F (fuel + 1) listed env w := by
  refine ⟨fun a ha hcl => wpB_all hr hne fun k hk => ?_⟩
  obtain ⟨o, ho, hg, h1⟩ := h.get k hk
  unfold wpOp
  simp only [ho]
  rw [if_pos (guardOk_wanted ha hg)]
  exact .inl (h1.out a Q _ ha (fun env' a' w' hs hA => ⟨.inr hs.1, hs.2.out a' hA (closed_set hcl (by rw [hr]; simp_all))⟩))
theorem SatE.weak {x : Exit} {e' : Env} (hs : EnvSub env e') (h : SatE N Q x e' w) : SatE N Q x env w := ⟨fun a ha => h.out a (ha.weak hs.look)⟩
theorem SatD.join0 {ops : Array Oper} {S : World → Prop} {F fuel : Nat} {listed : Array Bool} {L : List (Nat × Obj)} {E : Env} (h1 : (∀ (w' : World), St w0 X L w' → SatE N Q .normal E w') → SatD P N ops Q S F fuel listed env w) (h2 : ∀ (w' : World), St w0 X L w' → SatE N Q .normal E w') : SatD P N ops Q S F fuel listed env w := h1 h2
theorem SatD.join1 {ops : Array Oper} {S : World → Prop} {F fuel : Nat} {listed : Array Bool} {L : Nat → List (Nat × Obj)} {E : Nat → Env} (h1 : (∀ (b0 : Nat) (w' : World), St w0 X (L b0) w' → SatE N Q .normal (E b0) w') → SatD P N ops Q S F fuel listed env w) (h2 : ∀ (b0 : Nat) (w' : World), St w0 X (L b0) w' → SatE N Q .normal (E b0) w') : SatD P N ops Q S F fuel listed env w := h1 h2
theorem SatD.join2 {ops : Array Oper} {S : World → Prop} {F fuel : Nat} {listed : Array Bool} {L : Nat → Nat → List (Nat × Obj)} {E : Nat → Nat → Env} (h1 : (∀ (b0 b1 : Nat) (w' : World), St w0 X (L b0 b1) w' → SatE N Q .normal (E b0 b1) w') → SatD P N ops Q S F fuel listed env w) (h2 : ∀ (b0 b1 : Nat) (w' : World), St w0 X (L b0 b1) w' → SatE N Q .normal (E b0 b1) w') : SatD P N ops Q S F fuel listed env w := h1 h2
theorem SatD.join3 {ops : Array Oper} {S : World → Prop} {F fuel : Nat} {listed : Array Bool} {L : Nat → Nat → Nat → List (Nat × Obj)} {E : Nat → Nat → Nat → Env} (h1 : (∀ (b0 b1 b2 : Nat) (w' : World), St w0 X (L b0 b1 b2) w' → SatE N Q .normal (E b0 b1 b2) w') → SatD P N ops Q S F fuel listed env w) (h2 : ∀ (b0 b1 b2 : Nat) (w' : World), St w0 X (L b0 b1 b2) w' → SatE N Q .normal (E b0 b1 b2) w') : SatD P N ops Q S F fuel listed env w := h1 h2
theorem SatD.join4 {ops : Array Oper} {S : World → Prop} {F fuel : Nat} {listed : Array Bool} {L : Nat → Nat → Nat → Nat → List (Nat × Obj)} {E : Nat → Nat → Nat → Nat → Env} (h1 : (∀ (b0 b1 b2 b3 : Nat) (w' : World), St w0 X (L b0 b1 b2 b3) w' → SatE N Q .normal (E b0 b1 b2 b3) w') → SatD P N ops Q S F fuel listed env w) (h2 : ∀ (b0 b1 b2 b3 : Nat) (w' : World), St w0 X (L b0 b1 b2 b3) w' → SatE N Q .normal (E b0 b1 b2 b3) w') : SatD P N ops Q S F fuel listed env w := h1 h2
theorem SatD.join5 {ops : Array Oper} {S : World → Prop} {F fuel : Nat} {listed : Array Bool} {L : Nat → Nat → Nat → Nat → Nat → List (Nat × Obj)} {E : Nat → Nat → Nat → Nat → Nat → Env} (h1 : (∀ (b0 b1 b2 b3 b4 : Nat) (w' : World), St w0 X (L b0 b1 b2 b3 b4) w' → SatE N Q .normal (E b0 b1 b2 b3 b4) w') → SatD P N ops Q S F fuel listed env w) (h2 : ∀ (b0 b1 b2 b3 b4 : Nat) (w' : World), St w0 X (L b0 b1 b2 b3 b4) w' → SatE N Q .normal (E b0 b1 b2 b3 b4) w') : SatD P N ops Q S F fuel listed env w := h1 h2
theorem SatD.join6 {ops : Array Oper} {S : World → Prop} {F fuel : Nat} {listed : Array Bool} {L : Nat → Nat → Nat → Nat → Nat → Nat → List (Nat × Obj)} {E : Nat → Nat → Nat → Nat → Nat → Nat → Env} (h1 : (∀ (b0 b1 b2 b3 b4 b5 : Nat) (w' : World), St w0 X (L b0 b1 b2 b3 b4 b5) w' → SatE N Q .normal (E b0 b1 b2 b3 b4 b5) w') → SatD P N ops Q S F fuel listed env w) (h2 : ∀ (b0 b1 b2 b3 b4 b5 : Nat) (w' : World), St w0 X (L b0 b1 b2 b3 b4 b5) w' → SatE N Q .normal (E b0 b1 b2 b3 b4 b5) w') : SatD P N ops Q S F fuel listed env w := h1 h2
theorem SatD.effF {ops : Array Oper} {S : World → Prop} {F fuel : Nat} {listed : Array Bool} {o : Oper} (hr : Region.ready .any ops listed = [F]) (ho : ops[F]? = some o) (hg : guardOk ops env o.guard = true)
    (h : OpW P N o env w (fun env' w' => SatD P N ops Q S F fuel (listed.setIfInBounds F true) env' w')) : SatD P N ops Q S F (fuel + 1) listed env w := by
  refine ⟨fun a ha hcl => wpB_all hr (by simp) fun j hj => ?_⟩
  obtain rfl : j = F := by simpa using hj
  unfold wpOp
  simp only [ho]
  rw [if_pos (guardOk_wanted ha hg)]
  exact .inl (h.out a Q _ ha (fun env' a' w' hs hA => ⟨by simp, hs.out a' hA (closed_set hcl (by rw [hr]; simp_all))⟩))
theorem SatL.alt {ops : Array Oper} {l : List Oper} (t : Nat) {v v' : Value} (hv : env.lookup t = some v) (e : v = v') (h : SatL P N ops Q l ((t, v') :: env) w) : SatL P N ops Q l env w := ⟨fun a ha => h.out a (ha.alt (e ▸ hv))⟩
theorem SatD.alt {ops : Array Oper} {S : World → Prop} {F fuel : Nat} {listed : Array Bool} (t : Nat) {v v' : Value} (hv : env.lookup t = some v) (e : v = v') (h : SatD P N ops Q S F fuel listed ((t, v') :: env) w) : SatD P N ops Q S F fuel listed env w := ⟨fun a ha hcl => h.out a (ha.alt (e ▸ hv)) hcl⟩
/-- A test's outcome in a place, in both ways. -/
theorem SatD.ways {ops : Array Oper} {S : World → Prop} {F fuel : Nat} {listed : Array Bool} (t : Nat) {c : Bool} (hv : env.lookup t = some (.bool c)) (h1 : c = true → SatD P N ops Q S F fuel listed ((t, .bool true) :: env) w) (h2 : c = false → SatD P N ops Q S F fuel listed ((t, .bool false) :: env) w) : SatD P N ops Q S F fuel listed env w := by
  cases c
  · exact SatD.alt t hv rfl (h2 rfl)
  · exact SatD.alt t hv rfl (h1 rfl)
theorem SatC.alt {c : Code} (t : Nat) {v v' : Value} (hv : env.lookup t = some v) (e : v = v') (h : SatC P N c Q ((t, v') :: env) w) : SatC P N c Q env w := ⟨fun a ha => h.out a (ha.alt (e ▸ hv))⟩
theorem St.callN {w' : World} (h : St w0 X L w) (h' : St w [] [] w') : St w0 X L w' := h.call0 h'
/-- One result that lies in memory. -/
theorem SatE.retcell {fn : Func} {R : Value → World → Prop} {t b o n : Nat} {T ty : TypeId} {cs vs : List Value} (hS : St w0 X L w) (hr : fn.results = #[.cell t ty]) (hv : env.lookup t = some (.pointer (some ⟨b, o, none⟩))) (hz : rowSzL P ty = some n) (hm : Has L b (C T cs)) (hseg : IsSeg cs o n vs) (h : R (.agg vs.toArray) w) :
    SatE N (bodyPost P fn fun e w' => ∃ v, e = .returned v ∧ R v w') .ret env w :=
  SatE.retX (v := .agg vs.toArray) (fun a ha => by
    have h1 := ha.getD hv
    have h2 := run_loadN (P := P) (w := w) (b := b) (o := o) (rowSzL_eq hz) hseg.spec.1 (fun j v hj => hS.cellAt hm (hseg.spec.2 j v hj))
    simp only [Instr.loadAt, Instr.sureAddr, Sem.run_bind, Sem.run_pure, Result.andThen_ok] at h2
    simp [results, hr, ha.2.2 t _ hv, asAddr, h2]) h
/-- One of several results: in a slot, or in memory. -/
inductive ResO (P : Program) (L : List (Nat × Obj)) (env : Env) : ResultVar → Value → Prop
  | tmp {t : Nat} {v : Value} : env.lookup t = some v → ResO P L env (.tmp t) v
  | cellN {t b o n : Nat} {T ty : TypeId} {cs ws : List Value} : env.lookup t = some (.pointer (some ⟨b, o, none⟩)) → rowSzL P ty = some n → Has L b (C T cs) → IsSeg cs o n ws → ResO P L env (.cell t ty) (.agg ws.toArray)
  | cell1 {t b o : Nat} {T ty : TypeId} {cs : List Value} {v : Value} : env.lookup t = some (.pointer (some ⟨b, o, none⟩)) → rowSz P ty = some none → Has L b (C T cs) → cs[o]? = some v → ResO P L env (.cell t ty) v
theorem ResO.run {r : ResultVar} {v : Value} (h : ResO P L env r v) (hS : St w0 X L w) {a : Act} (ha : Ag N env a) : (∃ t, r = .tmp t ∧ a.tmps[t]? = some v) ∨ (∃ t ty p, r = .cell t ty ∧ a.tmps[t]? = some (.pointer (some p)) ∧ (loadVar ty p).run P w = .ok v w) := by
  cases h with
  | tmp hv => exact .inl ⟨_, rfl, ha.2.2 _ _ hv⟩
  | cellN hv hz hm hseg =>
    have h2 := run_loadN (P := P) (w := w) (rowSzL_eq hz) hseg.spec.1 (fun j v hj => hS.cellAt hm (hseg.spec.2 j v hj))
    simp only [Instr.loadAt, Instr.sureAddr, Sem.run_bind, Sem.run_pure, Result.andThen_ok] at h2
    exact .inr ⟨_, _, _, rfl, ha.2.2 _ _ hv, h2⟩
  | cell1 hv hz hm hc =>
    have h2 := run_load1 (P := P) (w := w) hz (hS.cellAt hm hc)
    simp only [Instr.loadAt, Instr.sureAddr, Sem.run_bind, Sem.run_pure, Result.andThen_ok] at h2
    exact .inr ⟨_, _, _, rfl, ha.2.2 _ _ hv, h2⟩
theorem SatE.retG1 {fn : Func} {R : Value → World → Prop} {r1 : ResultVar} {v1 : Value} (hS : St w0 X L w) (hr : fn.results = #[r1]) (h1 : ResO P L env r1 v1) (h : R v1 w) :
    SatE N (bodyPost P fn fun e w' => ∃ v, e = .returned v ∧ R v w') .ret env w :=
  SatE.retX (fun a ha => by
    rcases h1.run hS ha with ⟨t, rfl, e1⟩ | ⟨t, ty, p, rfl, e1, l1⟩ <;> simp_all [results, asAddr]) h
theorem SatE.retG2 {fn : Func} {R : Value → World → Prop} {r1 r2 : ResultVar} {v1 v2 : Value} (hS : St w0 X L w) (hr : fn.results = #[r1, r2]) (h1 : ResO P L env r1 v1) (h2 : ResO P L env r2 v2) (h : R (.tuple #[v1, v2]) w) :
    SatE N (bodyPost P fn fun e w' => ∃ v, e = .returned v ∧ R v w') .ret env w :=
  SatE.retX (fun a ha => by
    rcases h1.run hS ha with ⟨t, rfl, e1⟩ | ⟨t, ty, p, rfl, e1, l1⟩ <;> rcases h2.run hS ha with ⟨t, rfl, e2⟩ | ⟨t, ty, p, rfl, e2, l2⟩ <;> simp_all [results, asAddr]) h
theorem SatE.retG3 {fn : Func} {R : Value → World → Prop} {r1 r2 r3 : ResultVar} {v1 v2 v3 : Value} (hS : St w0 X L w) (hr : fn.results = #[r1, r2, r3]) (h1 : ResO P L env r1 v1) (h2 : ResO P L env r2 v2) (h3 : ResO P L env r3 v3) (h : R (.tuple #[v1, v2, v3]) w) :
    SatE N (bodyPost P fn fun e w' => ∃ v, e = .returned v ∧ R v w') .ret env w :=
  SatE.retX (fun a ha => by
    rcases h1.run hS ha with ⟨t, rfl, e1⟩ | ⟨t, ty, p, rfl, e1, l1⟩ <;> rcases h2.run hS ha with ⟨t, rfl, e2⟩ | ⟨t, ty, p, rfl, e2, l2⟩ <;> rcases h3.run hS ha with ⟨t, rfl, e3⟩ | ⟨t, ty, p, rfl, e3, l3⟩ <;> simp_all [results, asAddr]) h
end
end Go.Proofs.Ytdoinfpkfbfjaaa
