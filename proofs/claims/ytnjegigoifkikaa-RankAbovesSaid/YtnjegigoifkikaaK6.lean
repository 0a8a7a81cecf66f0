/- Loads, stores, new blocks; a region whose order is drawn. Over any program; no condition. -/
import Derived.Test.YtnjegigoifkikaaK5
set_option linter.unusedVariables false
set_option linter.unusedSimpArgs false
namespace Go.Proofs.Ytnjegigoifkikaa
open Go.RowKit

section
variable {P : Program} {N : Nat} {Q : Exit → Act → World → Prop} {env : Env} {w w0 : World} {X : List Nat} {L L' : List (Nat × Obj)} {K : Env → World → Prop}
variable {d : Nat} {ty : TypeId} {pos : String} {af : Array Edge} {g : Option (Nat × Bool)}

/-- A load of a cell that is known. -/
theorem RunV.loadC {t : TypeId} {x : Operand} {b o : Nat} {v : Value} {dd : Option Nat} (hx : evO env x = some (.pointer (some ⟨b, o, none⟩))) (hr : rowSz P t = some none) (hc : w.cell? ⟨b, o, none⟩ = some v) : RunV P N env w ⟨dd, .load t x, ty, pos, af, g⟩ v := ⟨fun a ha => by
  have := run_load1 (P := P) (w := w) hr hc
  simp only [execOp, ha.ev hx, Sem.run_bind, this, Result.andThen_ok, Sem.run_pure]⟩
theorem RunV.loadCN {t : TypeId} {x : Operand} {b o n : Nat} {vs : List Value} {dd : Option Nat} (hx : evO env x = some (.pointer (some ⟨b, o, none⟩))) (hr : rowSz P t = some (some n)) (hl : vs.length = n) (hc : ∀ j v, vs[j]? = some v → w.cell? ⟨b, o + j, none⟩ = some v) :
    RunV P N env w ⟨dd, .load t x, ty, pos, af, g⟩ (.agg vs.toArray) := ⟨fun a ha => by
  have := run_loadN (P := P) (w := w) hr hl hc
  simp only [execOp, ha.ev hx, Sem.run_bind, this, Result.andThen_ok, Sem.run_pure]⟩
/-- A load out of a block of one's own. -/
theorem RunV.load1 {t T : TypeId} {x : Operand} {b o : Nat} {cs : List Value} {v : Value} {dd : Option Nat} (hS : St w0 X L w) (hx : evO env x = some (.pointer (some ⟨b, o, none⟩))) (hr : rowSz P t = some none) (hm : Has L b (C T cs)) (hv : cs[o]? = some v) :
    RunV P N env w ⟨dd, .load t x, ty, pos, af, g⟩ v := RunV.loadC hx hr (hS.cellAt hm hv)
theorem RunV.loadN {t T : TypeId} {x : Operand} {b o n : Nat} {cs vs : List Value} {dd : Option Nat} (hS : St w0 X L w) (hx : evO env x = some (.pointer (some ⟨b, o, none⟩))) (hr : rowSzL P t = some n) (hm : Has L b (C T cs)) (hv : IsSeg cs o n vs) :
    RunV P N env w ⟨dd, .load t x, ty, pos, af, g⟩ (.agg vs.toArray) := RunV.loadCN hx (rowSzL_eq hr) hv.spec.1 (fun j v hj => hS.cellAt hm (hv.spec.2 j v hj))

/-! ### Stores -/
inductive IsSet : List Value → Nat → List Value → List Value → Prop
  | nil {cs : List Value} : IsSet cs 0 [] cs
  | cons {c v : Value} {cs vs cs' : List Value} : IsSet cs 0 vs cs' → IsSet (c :: cs) 0 (v :: vs) (v :: cs')
  | skip {c : Value} {cs vs cs' : List Value} {o : Nat} : IsSet cs o vs cs' → IsSet (c :: cs) (o + 1) vs (c :: cs')
theorem IsSet.spec {cs vs cs' : List Value} {o : Nat} (h : IsSet cs o vs cs') : o + vs.length ≤ cs.length ∧ cs' = cs.take o ++ vs ++ cs.drop (o + vs.length) := by
  induction h with
  | nil => exact ⟨by simp, by simp⟩
  | cons _ ih => exact ⟨by have := ih.1; simp at this ⊢; omega, by have := ih.2; simp at this ⊢; exact this⟩
  | @skip c cs vs cs' o _ ih =>
    refine ⟨by have := ih.1; simp at this ⊢; omega, ?_⟩
    rw [ih.2]
    simp [show o + 1 + vs.length = (o + vs.length) + 1 from by omega]
theorem run_storeRow {t T : TypeId} {b o : Nat} {cs vs : List Value} {v : Value} (hcells : IsCells v vs) (hsz : (P.info? t).map (·.size) = some vs.length)
    (h1 : (vs.all (·.oneCell')) = true) (hb : w.heap[b]? = some (C T cs)) (hle : o + vs.length ≤ cs.length) :
    (Instr.storeAt t (.pointer (some ⟨b, o, none⟩)) v).run P w = .ok () (w.setRow b (cs.take o ++ vs ++ cs.drop (o + vs.length)).toArray) := by
  have hst := run_storeCells_at P b o T vs 0 cs.toArray w hb (by simpa using hle) (fun u hu => List.all_eq_true.1 h1 u hu)
  simp only [Nat.add_zero] at hst
  cases hq : P.info? t with
  | none => simp [hq] at hsz
  | some i =>
    have hi : i.size = vs.length := by simpa [hq] using hsz
    simp only [Instr.storeAt, Instr.sureAddr, Sem.run_bind, Sem.run_pure, Result.andThen_ok, storeVar, hcells.eq, sizeOf, typeInfo, run_program, hq, hi]
    simp [hst]
theorem Repl.memL {b : Nat} {o o' : Obj} (hm : Repl L b o o' L') : (b, o) ∈ L := by
  obtain ⟨R, h1, _⟩ := hm.perm
  exact h1.mem_iff.2 List.mem_cons_self
theorem St.setRow {T : TypeId} {b : Nat} {cs cs' : List Value} (h : St w0 X L w) (hm : Repl L b (C T cs) (C T cs') L') : St w0 X L' (w.setRow b cs'.toArray) := by
  have hb := h.own _ hm.memL
  exact h.put hm rfl rfl rfl (by simp) (setRow_heap w b _ _ T _ hb) (fun k hk => setRow_other w b k _ hk)
/-- A store into a block of one's own at an offset that is reckoned. -/
theorem OpW.storeG {t T : TypeId} {x y : Operand} {b o : Nat} {cs vs cs' : List Value} {v : Value} (hS : St w0 X L w) (hx : evO env x = some (.pointer (some ⟨b, o, none⟩))) (hy : evO env y = some v)
    (hcells : IsCells v vs) (hsz : (P.info? t).map (·.size) = some vs.length) (h1 : (vs.all (·.oneCell')) = true) (hle : o + vs.length ≤ cs.length) (hset : cs.take o ++ vs ++ cs.drop (o + vs.length) = cs') (hm : Repl L b (C T cs) (C T cs') L')
    (h : ∀ w', St w0 X L' w' → K env w') : OpW P N ⟨none, .store t x y, ty, pos, af, g⟩ env w K := by
  have hb := hS.own _ hm.memL
  refine OpW.base0 (w' := w.setRow b (cs.take o ++ vs ++ cs.drop (o + vs.length)).toArray) (fun a ha => ?_) (h _ ?_)
  · have := run_storeRow (P := P) (o := o) hcells hsz h1 hb hle
    simp only [execOp, ha.ev hx, ha.ev hy, Sem.run_bind, this, Result.andThen_ok, Sem.run_pure]
  · rw [hset]
    exact hS.setRow hm
theorem OpW.store {t T : TypeId} {x y : Operand} {b o : Nat} {cs vs cs' : List Value} {v : Value} (hS : St w0 X L w) (hx : evO env x = some (.pointer (some ⟨b, o, none⟩))) (hy : evO env y = some v)
    (hcells : IsCells v vs) (hm : Repl L b (C T cs) (C T cs') L') (hset : IsSet cs o vs cs') (hsz : (P.info? t).map (·.size) = some vs.length) (h1 : (vs.all (·.oneCell')) = true)
    (h : ∀ w', St w0 X L' w' → K env w') : OpW P N ⟨none, .store t x y, ty, pos, af, g⟩ env w K :=
  OpW.storeG hS hx hy hcells hsz h1 hset.spec.1 hset.spec.2.symm hm h

/-! ### New blocks -/
theorem OpW.alloc {e : TypeId} {z : Value} {cs : List Value} (hS : St w0 X L w) (hd : Nat.blt d N = true) (hz : (P.info? e).bind (·.zero) = some z) (hcells : IsCells z cs)
    (h : ∀ b w', b = w.heap.size → St w0 X ((b, C e cs) :: L) w' → K ((d, .pointer (some ⟨b, 0, none⟩)) :: env) w') : OpW P N ⟨some d, .alloc e, ty, pos, af, g⟩ env w K := by
  refine OpW.base (v := .pointer (some ⟨w.heap.size, 0, none⟩)) (w' := w.alloc (C e cs)) (fun a ha => ?_) hd (h _ _ rfl (hS.alloc _))
  obtain ⟨i, hi, hz'⟩ := Option.bind_eq_some_iff.1 hz
  simp only [execOp, Instr.alloc, Sem.run_bind, zeroValue, typeInfo, run_program, hi, Sem.run_pure, Result.andThen_ok, hz', newVar, newRow, hcells.eq]
  rfl
theorem OpW.box {e : TypeId} {x : Operand} {v : Value} {cs : List Value} (hS : St w0 X L w) (hd : Nat.blt d N = true) (hx : evO env x = some v) (hcells : IsCells v cs)
    (h : ∀ b w', b = w.heap.size → St w0 X ((b, C e cs) :: L) w' → K ((d, .pointer (some ⟨b, 0, none⟩)) :: env) w') : OpW P N ⟨some d, .box e x, ty, pos, af, g⟩ env w K := by
  refine OpW.base (v := .pointer (some ⟨w.heap.size, 0, none⟩)) (w' := w.alloc (C e cs)) (fun a ha => ?_) hd (h _ _ rfl (hS.alloc _))
  simp only [execOp, Instr.box, Sem.run_bind, Sem.run_pure, newVar, newRow, ha.ev hx, hcells.eq]
  rfl

/-! ### A region whose order is drawn -/
structure SatD (P : Program) (N : Nat) (ops : Array Oper) (Q : Exit → Act → World → Prop) (S : World → Prop) (fuel : Nat) (listed : Array Bool) (env : Env) (w : World) : Prop where mk :: (out : ∀ a, Ag N env a → wpAnyH P .any ops Q S fuel listed a w)
def guardOk (ops : Array Oper) (env : Env) : Option (Nat × Bool) → Bool
  | none => true
  | some (j, b) => match (ops[j]?).bind (·.dst) with
    | some t => match env.lookup t with
      | some (.bool c) => c == b
      | _ => false
    | none => false
def guardNo (ops : Array Oper) (env : Env) : Option (Nat × Bool) → Bool
  | none => false
  | some (j, b) => match (ops[j]?).bind (·.dst) with
    | some t => match env.lookup t with
      | some (.bool c) => c != b
      | some (.tuple _) => true
      | _ => false
    | none => false
theorem guardOk_wanted {ops : Array Oper} {o : Oper} {a : Act} (ha : Ag N env a) (h : guardOk ops env o.guard = true) : Region.wanted o (yielded ops a.tmps) = true := by
  unfold guardOk at h
  cases hg : o.guard with
  | none => simp [Region.wanted, hg]
  | some p =>
    obtain ⟨j, b⟩ := p
    rw [hg] at h
    dsimp only at h
    split at h
    · rename_i t ht
      split at h
      · rename_i c hc
        have := ha.2.2 t _ hc
        simp only [beq_iff_eq] at h
        simp [Region.wanted, hg, yielded, ht, this, h]
      · cases h
    · cases h
theorem guardNo_wanted {ops : Array Oper} {o : Oper} {a : Act} (ha : Ag N env a) (h : guardNo ops env o.guard = true) : Region.wanted o (yielded ops a.tmps) = false := by
  unfold guardNo at h
  cases hg : o.guard with
  | none => rw [hg] at h; cases h
  | some p =>
    obtain ⟨j, b⟩ := p
    rw [hg] at h
    dsimp only at h
    split at h
    · rename_i t ht
      split at h
      · rename_i c hc
        have := ha.2.2 t _ hc
        simp only [bne_iff_ne, ne_eq] at h
        simp [Region.wanted, hg, yielded, ht, this, h]
      · rename_i vs hc
        have := ha.2.2 t _ hc
        simp [Region.wanted, hg, yielded, ht, this]
      · cases h
    · cases h
/-- A region that draws: S is what every operation that is carried out keeps. -/
theorem SatC.drawn {id : Nat} {l : List Oper} (S : World → Prop) (hm : P.follows .mixedOrders = true) (h : ∀ w', w'.heap = w.heap → (∀ X L, St w0 X L w → St w0 X L w') → SatD P N l.toArray Q S l.length (List.replicate l.length false).toArray env w') : SatC P N (.region id l.toArray true) Q env w :=
  ⟨fun a ha => wp_region_held (S := S) hm (by have := (h { w with drawn := w.drawn + 1 } rfl (fun X L hS => hS.drew)).out a ha; simpa using this)⟩
theorem SatC.drawnS {id : Nat} {l : List Oper} (hS : St w0 X L w) (hm : P.follows .mixedOrders = true) (h : ∀ w', w'.heap = w.heap → St w0 X L w' → St w0 X L w' → SatD P N l.toArray Q (St w0 X L) l.length (List.replicate l.length false).toArray env w') : SatC P N (.region id l.toArray true) Q env w :=
  SatC.drawn _ hm (fun w' e k => h w' e (k _ _ hS) (k _ _ hS))
theorem SatD.done {ops : Array Oper} {S : World → Prop} {listed : Array Bool} (fuel : Nat) (hr : Region.ready .any ops listed = []) (h : SatE N Q .normal env w) : SatD P N ops Q S fuel listed env w := ⟨fun a ha => wpAnyH_done hr (h.out a ha) fuel⟩
/-- An operation that may be taken first. -/
def takable (ops : Array Oper) (listed : Array Bool) (i : Nat) : Bool := Region.noSelect ops && Region.free .any ops listed i && (Region.ready .any ops listed).contains i
theorem SatD.take {ops : Array Oper} {S : World → Prop} {fuel : Nat} {listed : Array Bool} {op : Op} {v : Value} (i : Nat) (ho : ops[i]? = some ⟨some d, op, ty, pos, af, g⟩) (ht : takable ops listed i = true)
    (hQ : ∀ c a w, Q (.panic c) (a.put (some d) v) w → Q (.panic c) a w) (hg : guardOk ops env g = true) (hd : Nat.blt d N = true) (hS : S w)
    (hv : ∀ w, S w → RunV P N env w ⟨some d, op, ty, pos, af, g⟩ v) (h : SatD P N ops Q S fuel (listed.setIfInBounds i true) ((d, v) :: env) w) : SatD P N ops Q S (fuel + 1) listed env w := by
  simp only [takable, Bool.and_eq_true] at ht
  exact ⟨fun a ha => wpAnyH_take (v := v) ho ht.1.1 ht.1.2 ht.2 hQ (.inl ⟨guardOk_wanted ha hg, fun w' hw' => (hv w' hw').out a ha⟩) hS (h.out _ (ha.put (by simpa [Nat.blt_eq] using hd)))⟩
theorem SatD.skip {ops : Array Oper} {S : World → Prop} {fuel : Nat} {listed : Array Bool} {op : Op} (i : Nat) (ho : ops[i]? = some ⟨some d, op, ty, pos, af, g⟩) (ht : takable ops listed i = true)
    (hQ : ∀ c a w, Q (.panic c) (a.put (some d) undef) w → Q (.panic c) a w) (hg : guardNo ops env g = true) (hd : Nat.blt d N = true) (hS : S w)
    (h : SatD P N ops Q S fuel (listed.setIfInBounds i true) ((d, undef) :: env) w) : SatD P N ops Q S (fuel + 1) listed env w := by
  simp only [takable, Bool.and_eq_true] at ht
  exact ⟨fun a ha => wpAnyH_take (v := undef) ho ht.1.1 ht.1.2 ht.2 hQ (.inr ⟨guardNo_wanted ha hg, rfl⟩) hS (h.out _ (ha.put (by simpa [Nat.blt_eq] using hd)))⟩
theorem SatD.eff {ops : Array Oper} {S : World → Prop} {fuel : Nat} {listed : Array Bool} {o : Oper} (i : Nat) (hr : Region.ready .any ops listed = [i]) (ho : ops[i]? = some o) (hg : guardOk ops env o.guard = true)
    (h : OpW P N o env w (fun env' w' => S w' ∧ SatD P N ops Q S fuel (listed.setIfInBounds i true) env' w')) : SatD P N ops Q S (fuel + 1) listed env w := by
  refine ⟨fun a ha => wpAnyH_all hr (by simp) fun j hj => ?_⟩
  obtain rfl : j = i := by simpa using hj
  unfold wpOp
  simp only [ho]
  rw [if_pos (guardOk_wanted ha hg)]
  exact .inl (h.out a Q _ ha (fun env' a' w' hs hA => ⟨hs.1, hs.2.out a' hA⟩))
theorem SatD.eff2 {ops : Array Oper} {S : World → Prop} {fuel : Nat} {listed : Array Bool} {o o' : Oper} (i j : Nat) (hr : Region.ready .any ops listed = [i, j]) (ho : ops[i]? = some o) (hg : guardOk ops env o.guard = true) (ho' : ops[j]? = some o') (hg' : guardOk ops env o'.guard = true)
    (h : OpW P N o env w (fun env' w' => S w' ∧ SatD P N ops Q S fuel (listed.setIfInBounds i true) env' w')) (h' : OpW P N o' env w (fun env' w' => S w' ∧ SatD P N ops Q S fuel (listed.setIfInBounds j true) env' w')) : SatD P N ops Q S (fuel + 1) listed env w := by
  refine ⟨fun a ha => wpAnyH_all hr (by simp) fun k hk => ?_⟩
  simp only [List.mem_cons, List.not_mem_nil, or_false] at hk
  rcases hk with rfl | rfl
  · unfold wpOp
    simp only [ho]
    rw [if_pos (guardOk_wanted ha hg)]
    exact .inl (h.out a Q _ ha (fun env' a' w' hs hA => ⟨hs.1, hs.2.out a' hA⟩))
  · unfold wpOp
    simp only [ho']
    rw [if_pos (guardOk_wanted ha hg')]
    exact .inl (h'.out a Q _ ha (fun env' a' w' hs hA => ⟨hs.1, hs.2.out a' hA⟩))
inductive SubL : List (Nat × Obj) → List (Nat × Obj) → Prop
  | refl {L : List (Nat × Obj)} : SubL L L
  | drop {c : Nat × Obj} {L L' : List (Nat × Obj)} : SubL L' L → SubL L' (c :: L)
theorem SubL.sub {L L' : List (Nat × Obj)} (h : SubL L' L) : L'.Sublist L := by
  induction h with
  | refl => exact List.Sublist.refl _
  | drop _ ih => exact ih.cons _
theorem St.sb (hS : St w0 X L w) (h : SubL L' L) : St w0 X L' w := hS.sub h.sub
theorem keepS {S T : Prop} (h : S) (k : S → T) : S ∧ T := ⟨h, k h⟩
/-- Every operation that is ready may be the next one. -/
def AllEff (P : Program) (N : Nat) (ops : Array Oper) (Q : Exit → Act → World → Prop) (S : World → Prop) (fuel : Nat) (listed : Array Bool) (env : Env) (w : World) : List Nat → Prop
  | [] => True
  | i :: is => (∃ o, ops[i]? = some o ∧ guardOk ops env o.guard = true ∧ OpW P N o env w (fun env' w' => S w' ∧ SatD P N ops Q S fuel (listed.setIfInBounds i true) env' w')) ∧ AllEff P N ops Q S fuel listed env w is
theorem AllEff.get {ops : Array Oper} {S : World → Prop} {fuel : Nat} {listed : Array Bool} : ∀ {is : List Nat}, AllEff P N ops Q S fuel listed env w is → ∀ i ∈ is, ∃ o, ops[i]? = some o ∧ guardOk ops env o.guard = true ∧ OpW P N o env w (fun env' w' => S w' ∧ SatD P N ops Q S fuel (listed.setIfInBounds i true) env' w')
  | [], _, i, hi => by cases hi
  | j :: is, h, i, hi => by
    rcases List.mem_cons.1 hi with rfl | hi
    · exact h.1
    · exact h.2.get i hi
theorem SatD.effs {ops : Array Oper} {S : World → Prop} {fuel : Nat} {listed : Array Bool} (is : List Nat) (hr : Region.ready .any ops listed = is) (h : AllEff P N ops Q S fuel listed env w is) (hne : is ≠ [] := by decide) : SatD P N ops Q S (fuel + 1) listed env w := by
  refine ⟨fun a ha => wpAnyH_all hr hne fun k hk => ?_⟩
  obtain ⟨o, ho, hg, h1⟩ := h.get k hk
  unfold wpOp
  simp only [ho]
  rw [if_pos (guardOk_wanted ha hg)]
  exact .inl (h1.out a Q _ ha (fun env' a' w' hs hA => ⟨hs.1, hs.2.out a' hA⟩))
theorem SatE.weak {x : Exit} {e' : Env} (hs : EnvSub env e') (h : SatE N Q x e' w) : SatE N Q x env w := ⟨fun a ha => h.out a (ha.weak hs.look)⟩
theorem SatD.join0 {ops : Array Oper} {S : World → Prop} {fuel : Nat} {listed : Array Bool} {L : List (Nat × Obj)} {E : Env} (h1 : (∀ (w' : World), St w0 X L w' → SatE N Q .normal E w') → SatD P N ops Q S fuel listed env w) (h2 : ∀ (w' : World), St w0 X L w' → SatE N Q .normal E w') : SatD P N ops Q S fuel listed env w := h1 h2
theorem SatD.join1 {ops : Array Oper} {S : World → Prop} {fuel : Nat} {listed : Array Bool} {L : Nat → List (Nat × Obj)} {E : Nat → Env} (h1 : (∀ (b0 : Nat) (w' : World), St w0 X (L b0) w' → SatE N Q .normal (E b0) w') → SatD P N ops Q S fuel listed env w) (h2 : ∀ (b0 : Nat) (w' : World), St w0 X (L b0) w' → SatE N Q .normal (E b0) w') : SatD P N ops Q S fuel listed env w := h1 h2
theorem SatD.join2 {ops : Array Oper} {S : World → Prop} {fuel : Nat} {listed : Array Bool} {L : Nat → Nat → List (Nat × Obj)} {E : Nat → Nat → Env} (h1 : (∀ (b0 b1 : Nat) (w' : World), St w0 X (L b0 b1) w' → SatE N Q .normal (E b0 b1) w') → SatD P N ops Q S fuel listed env w) (h2 : ∀ (b0 b1 : Nat) (w' : World), St w0 X (L b0 b1) w' → SatE N Q .normal (E b0 b1) w') : SatD P N ops Q S fuel listed env w := h1 h2
theorem SatD.join3 {ops : Array Oper} {S : World → Prop} {fuel : Nat} {listed : Array Bool} {L : Nat → Nat → Nat → List (Nat × Obj)} {E : Nat → Nat → Nat → Env} (h1 : (∀ (b0 b1 b2 : Nat) (w' : World), St w0 X (L b0 b1 b2) w' → SatE N Q .normal (E b0 b1 b2) w') → SatD P N ops Q S fuel listed env w) (h2 : ∀ (b0 b1 b2 : Nat) (w' : World), St w0 X (L b0 b1 b2) w' → SatE N Q .normal (E b0 b1 b2) w') : SatD P N ops Q S fuel listed env w := h1 h2
theorem SatD.join4 {ops : Array Oper} {S : World → Prop} {fuel : Nat} {listed : Array Bool} {L : Nat → Nat → Nat → Nat → List (Nat × Obj)} {E : Nat → Nat → Nat → Nat → Env} (h1 : (∀ (b0 b1 b2 b3 : Nat) (w' : World), St w0 X (L b0 b1 b2 b3) w' → SatE N Q .normal (E b0 b1 b2 b3) w') → SatD P N ops Q S fuel listed env w) (h2 : ∀ (b0 b1 b2 b3 : Nat) (w' : World), St w0 X (L b0 b1 b2 b3) w' → SatE N Q .normal (E b0 b1 b2 b3) w') : SatD P N ops Q S fuel listed env w := h1 h2
theorem SatD.join5 {ops : Array Oper} {S : World → Prop} {fuel : Nat} {listed : Array Bool} {L : Nat → Nat → Nat → Nat → Nat → List (Nat × Obj)} {E : Nat → Nat → Nat → Nat → Nat → Env} (h1 : (∀ (b0 b1 b2 b3 b4 : Nat) (w' : World), St w0 X (L b0 b1 b2 b3 b4) w' → SatE N Q .normal (E b0 b1 b2 b3 b4) w') → SatD P N ops Q S fuel listed env w) (h2 : ∀ (b0 b1 b2 b3 b4 : Nat) (w' : World), St w0 X (L b0 b1 b2 b3 b4) w' → SatE N Q .normal (E b0 b1 b2 b3 b4) w') : SatD P N ops Q S fuel listed env w := h1 h2
theorem SatD.join6 {ops : Array Oper} {S : World → Prop} {fuel : Nat} {listed : Array Bool} {L : Nat → Nat → Nat → Nat → Nat → Nat → List (Nat × Obj)} {E : Nat → Nat → Nat → Nat → Nat → Nat → Env} (h1 : (∀ (b0 b1 b2 b3 b4 b5 : Nat) (w' : World), St w0 X (L b0 b1 b2 b3 b4 b5) w' → SatE N Q .normal (E b0 b1 b2 b3 b4 b5) w') → SatD P N ops Q S fuel listed env w) (h2 : ∀ (b0 b1 b2 b3 b4 b5 : Nat) (w' : World), St w0 X (L b0 b1 b2 b3 b4 b5) w' → SatE N Q .normal (E b0 b1 b2 b3 b4 b5) w') : SatD P N ops Q S fuel listed env w := h1 h2
theorem SatL.alt {ops : Array Oper} {l : List Oper} (t : Nat) {v v' : Value} (hv : env.lookup t = some v) (e : v = v') (h : SatL P N ops Q l ((t, v') :: env) w) : SatL P N ops Q l env w := ⟨fun a ha => h.out a (ha.alt (e ▸ hv))⟩
theorem SatD.alt {ops : Array Oper} {S : World → Prop} {fuel : Nat} {listed : Array Bool} (t : Nat) {v v' : Value} (hv : env.lookup t = some v) (e : v = v') (h : SatD P N ops Q S fuel listed ((t, v') :: env) w) : SatD P N ops Q S fuel listed env w := ⟨fun a ha => h.out a (ha.alt (e ▸ hv))⟩
/-- A test's outcome in a place, in both ways. -/
theorem SatD.ways {ops : Array Oper} {S : World → Prop} {fuel : Nat} {listed : Array Bool} (t : Nat) {c : Bool} (hv : env.lookup t = some (.bool c)) (h1 : c = true → SatD P N ops Q S fuel listed ((t, .bool true) :: env) w) (h2 : c = false → SatD P N ops Q S fuel listed ((t, .bool false) :: env) w) : SatD P N ops Q S fuel listed env w := by
  cases c
  · exact SatD.alt t hv rfl (h2 rfl)
  · exact SatD.alt t hv rfl (h1 rfl)
theorem SatC.alt {c : Code} (t : Nat) {v v' : Value} (hv : env.lookup t = some v) (e : v = v') (h : SatC P N c Q ((t, v') :: env) w) : SatC P N c Q env w := ⟨fun a ha => h.out a (ha.alt (e ▸ hv))⟩
theorem St.callN {w' : World} (h : St w0 X L w) (h' : St w [] [] w') : St w0 X L w' := h.call0 h'
/-- One result that lies in memory. -/
theorem SatE.retcell {fn : Func} {R : Value → World → Prop} {t b o n : Nat} {T ty : TypeId} {cs vs : List Value} (hS : St w0 X L w) (hr : fn.results = #[.cell t ty]) (hv : env.lookup t = some (.pointer (some ⟨b, o, none⟩))) (hz : rowSzL P ty = some n) (hm : Has L b (C T cs)) (hseg : IsSeg cs o n vs) (h : R (.agg vs.toArray) w) :
    SatE N (bodyPost P fn fun e w' => ∃ v, e = .returned v ∧ R v w') .ret env w :=
  SatE.retX (v := .agg vs.toArray) (fun a ha => by
    have h1 := ha.getD hv
    have h2 := run_loadN (P := P) (w := w) (b := b) (o := o) (rowSzL_eq hz) hseg.spec.1 (fun j v hj => hS.cellAt hm (hseg.spec.2 j v hj))
    simp only [Instr.loadAt, Instr.sureAddr, Sem.run_bind, Sem.run_pure, Result.andThen_ok] at h2
    simp [results, hr, ha.2.2 t _ hv, asAddr, h2]) h
end
end Go.Proofs.Ytnjegigoifkikaa
