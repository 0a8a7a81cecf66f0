/- A walk by small laws: the temporaries as a list of pairs, the memory of one's own as a list of blocks. Over any program; no condition. -/
import Derived.WalkKit
import Derived.OrdersHeld
set_option linter.unusedVariables false
namespace Go.Proofs.Ytdoinfpkfbfjaaa
open Go.RowKit

/-! ### The temporaries -/
abbrev Env := List (Nat × Value)
def Ag (N : Nat) (env : Env) (a : Act) : Prop := a.tmps.size = N ∧ a.defers = [] ∧ ∀ t v, env.lookup t = some v → a.tmps[t]? = some v
def evO (env : Env) : Operand → Option Value
  | .tmp t => env.lookup t
  | .const v => some v
  | .global g => some (.pointer (some ⟨g, 0, none⟩))
  | .func f => some (.func (.func f) #[] #[])
theorem Ag.ev {N : Nat} {env : Env} {a : Act} (h : Ag N env a) {x : Operand} {v : Value} (hx : evO env x = some v) : a.eval x = v := by
  cases x with
  | tmp t =>
    have := h.2.2 t v hx
    simp [Act.eval, Array.getD_eq_getD_getElem?, this]
  | const u => simpa [evO, Act.eval] using hx
  | global g => simpa [evO, Act.eval] using hx
  | func f => simpa [evO, Act.eval] using hx
def evL (env : Env) : List Operand → Option (List Value)
  | [] => some []
  | x :: xs => match evO env x, evL env xs with
    | some v, some vs => some (v :: vs)
    | _, _ => none
theorem Ag.evL {N : Nat} {env : Env} {a : Act} (h : Ag N env a) : ∀ {xs : List Operand} {vs : List Value}, evL env xs = some vs → xs.map a.eval = vs
  | [], vs, e => by simpa [Proofs.Ytdoinfpkfbfjaaa.evL] using e
  | x :: xs, vs, e => by
    unfold Proofs.Ytdoinfpkfbfjaaa.evL at e
    split at e
    · rename_i v vs' h1 h2
      simp only [Option.some.injEq] at e
      subst e
      simp [h.ev h1, h.evL h2]
    · cases e
def argEnv : Nat → List Value → Env
  | _, [] => []
  | i, v :: vs => (i, v) :: argEnv (i + 1) vs

theorem Ag.put {N : Nat} {env : Env} {a : Act} (h : Ag N env a) {d : Nat} {v : Value} (hd : d < N) : Ag N ((d, v) :: env) (a.put (some d) v) := by
  refine ⟨by simp [Act.put, h.1], h.2.1, fun t u ht => ?_⟩
  simp only [Act.put]
  simp only [List.lookup_cons] at ht
  by_cases e : t = d
  · subst e
    simp only [beq_self_eq_true] at ht
    obtain rfl : v = u := by simpa using ht
    have : t < a.tmps.size := by rw [h.1]; exact hd
    simp [this]
  · rw [show (t == d) = false from by simpa using e] at ht
    rw [Array.getElem?_setIfInBounds_ne (fun he => e he.symm)]
    exact h.2.2 t u ht
theorem Ag.weak {N : Nat} {env env' : Env} {a : Act} (h : Ag N env a) (hs : ∀ t v, env'.lookup t = some v → env.lookup t = some v) : Ag N env' a := ⟨h.1, h.2.1, fun t v ht => h.2.2 t v (hs t v ht)⟩
theorem argEnv_look : ∀ (l : List Value) (k t : Nat) (v : Value), (argEnv k l).lookup t = some v → k ≤ t ∧ l[t - k]? = some v
  | [], k, t, v, h => by simp [argEnv] at h
  | x :: l, k, t, v, h => by
    simp only [argEnv, List.lookup_cons] at h
    by_cases e : t = k
    · subst e
      simp only [beq_self_eq_true] at h
      exact ⟨Nat.le_refl _, by simpa using h⟩
    · rw [show (t == k) = false from by simpa using e] at h
      obtain ⟨h1, h2⟩ := argEnv_look l (k + 1) t v h
      refine ⟨by omega, ?_⟩
      rw [show t - k = (t - (k + 1)) + 1 from by omega]
      simpa using h2
theorem Ag.init {N : Nat} (args : Array Value) (hN : args.size ≤ N) : Ag N (argEnv 0 args.toList) { tmps := args ++ Array.replicate (N - args.size) undef, defers := [] } := by
  refine ⟨by simp; omega, rfl, fun t v ht => ?_⟩
  obtain ⟨_, h2⟩ := argEnv_look args.toList 0 t v ht
  simp only [Nat.sub_zero, Array.getElem?_toList] at h2
  rw [Array.getElem?_append_left (Array.getElem?_eq_some_iff.1 h2).1]
  exact h2

/-! ### The memory -/
structure St (w0 : World) (X : List Nat) (L : List (Nat × Obj)) (w : World) : Prop where
  os : w.os = w0.os
  tape : w.tape = w0.tape
  output : w.output = w0.output
  size : w0.heap.size ≤ w.heap.size
  old : ∀ k, k < w0.heap.size → k ∉ X → w.heap[k]? = w0.heap[k]?
  own : ∀ c ∈ L, w.heap[c.1]? = some c.2
  nd : (L.map Prod.fst).Nodup
  wr : ∀ c ∈ L, c.1 ∈ X ∨ w0.heap.size ≤ c.1
def Own (w : World) (A : List (Nat × Obj)) : Prop := (∀ c ∈ A, w.heap[c.1]? = some c.2) ∧ (A.map Prod.fst).Nodup
theorem St.init {w : World} {A : List (Nat × Obj)} (h : Own w A) : St w (A.map Prod.fst) A w :=
  ⟨rfl, rfl, rfl, Nat.le_refl _, fun _ _ _ => rfl, h.1, h.2, fun c hc => .inl (List.mem_map_of_mem hc)⟩
theorem St.init0 (w : World) : St w [] [] w := St.init (A := []) ⟨fun _ h => (by cases h), List.nodup_nil⟩
theorem St.toOwn {w0 w : World} {X : List Nat} {L : List (Nat × Obj)} (h : St w0 X L w) : Own w L := ⟨h.own, h.nd⟩
theorem St.below {w0 w : World} {L : List (Nat × Obj)} (h : St w0 [] L w) : Below w0.heap.size w0 w := ⟨h.os, h.tape, h.output, h.size, fun k hk => h.old k hk (by simp)⟩
theorem St.toBelow {w0 w : World} {L : List (Nat × Obj)} (h : St w0 [] L w) : Below w0.heap.size w0 w := h.below
theorem St.lt {w0 w : World} {X : List Nat} {L : List (Nat × Obj)} (h : St w0 X L w) {c : Nat × Obj} (hc : c ∈ L) : c.1 < w.heap.size := (Array.getElem?_eq_some_iff.1 (h.own c hc)).1
theorem St.perm {w0 w : World} {X : List Nat} {L L' : List (Nat × Obj)} (h : St w0 X L w) (hp : L.Perm L') : St w0 X L' w :=
  ⟨h.os, h.tape, h.output, h.size, h.old, fun c hc => h.own c (hp.mem_iff.2 hc), (hp.map _).nodup_iff.1 h.nd, fun c hc => h.wr c (hp.mem_iff.2 hc)⟩
theorem St.sub {w0 w : World} {X : List Nat} {L L' : List (Nat × Obj)} (h : St w0 X L w) (hp : L'.Sublist L) : St w0 X L' w :=
  ⟨h.os, h.tape, h.output, h.size, h.old, fun c hc => h.own c (hp.subset hc), List.Pairwise.sublist (hp.map _) h.nd, fun c hc => h.wr c (hp.subset hc)⟩
theorem perm_pick {α : Type} : ∀ (L : List α) (i : Nat) (c : α), L[i]? = some c → L.Perm (c :: L.eraseIdx i)
  | [], i, c, h => by simp at h
  | x :: L, 0, c, h => by
    obtain rfl : x = c := by simpa using h
    exact .refl _
  | x :: L, i + 1, c, h => by
    have := perm_pick L i c (by simpa using h)
    exact (this.cons x).trans (List.Perm.swap c x _)
theorem St.pick {w0 w : World} {X : List Nat} {L L' : List (Nat × Obj)} (i : Nat) (h : St w0 X L w) {c : Nat × Obj} (hc : L[i]? = some c) (hL : L.eraseIdx i = L') : St w0 X (c :: L') w :=
  hL ▸ h.perm (perm_pick L i c hc)
/-- The world has drawn. -/
theorem St.drew {w0 w : World} {X : List Nat} {L : List (Nat × Obj)} (h : St w0 X L w) : St w0 X L { w with drawn := w.drawn + 1 } := ⟨h.os, h.tape, h.output, h.size, h.old, h.own, h.nd, h.wr⟩
/-- A callee that was handed the blocks A, and has left A'. -/
theorem St.call {w0 w w' : World} {X : List Nat} {A A' B : List (Nat × Obj)} (h : St w0 X (A ++ B) w) (h' : St w (A.map Prod.fst) A' w') : St w0 X (A' ++ B) w' := by
  have hnd := h.nd
  rw [List.map_append, List.nodup_append] at hnd
  obtain ⟨hA, hB, hAB⟩ := hnd
  have ltB : ∀ c ∈ B, c.1 < w.heap.size := fun c hc => h.lt (List.mem_append_right _ hc)
  have outA : ∀ c ∈ B, c.1 ∉ A.map Prod.fst := fun c hc hm => hAB _ hm _ (List.mem_map_of_mem hc) rfl
  refine ⟨h'.os.trans h.os, h'.tape.trans h.tape, h'.output.trans h.output, Nat.le_trans h.size h'.size, fun k hk hX => ?_, fun c hc => ?_, ?_, fun c hc => ?_⟩
  · have hkA : k ∉ A.map Prod.fst := fun hm => by
      obtain ⟨c, hc, rfl⟩ := List.mem_map.1 hm
      rcases h.wr c (List.mem_append_left _ hc) with h1 | h1
      · exact hX h1
      · omega
    exact (h'.old k (Nat.lt_of_lt_of_le hk h.size) hkA).trans (h.old k hk hX)
  · rcases List.mem_append.1 hc with hc | hc
    · exact h'.own c hc
    · exact (h'.old c.1 (ltB c hc) (outA c hc)).trans (h.own c (List.mem_append_right _ hc))
  · rw [List.map_append, List.nodup_append]
    refine ⟨h'.nd, hB, fun a ha b hb e => ?_⟩
    subst e
    obtain ⟨c, hc, rfl⟩ := List.mem_map.1 ha
    obtain ⟨c', hc', e⟩ := List.mem_map.1 hb
    rcases h'.wr c hc with h1 | h1
    · exact outA c' hc' (e ▸ h1)
    · have := ltB c' hc'
      omega
  · rcases List.mem_append.1 hc with hc | hc
    · rcases h'.wr c hc with h1 | h1
      · obtain ⟨c', hc', e⟩ := List.mem_map.1 h1
        exact e ▸ h.wr c' (List.mem_append_left _ hc')
      · exact .inr (Nat.le_trans h.size h1)
    · exact h.wr c (List.mem_append_right _ hc)
theorem St.call0 {w0 w w' : World} {X : List Nat} {A' L : List (Nat × Obj)} (h : St w0 X L w) (h' : St w [] A' w') : St w0 X (A' ++ L) w' := St.call (A := []) (B := L) h h'
theorem St.callB {w0 w w' : World} {X : List Nat} {L : List (Nat × Obj)} (h : St w0 X L w) (h' : Below w.heap.size w w') : St w0 X L w' :=
  St.call (A := []) (A' := []) (B := L) h ⟨h'.os, h'.tape, h'.output, h'.size, fun k hk _ => h'.block k hk, fun c hc => (by cases hc), List.nodup_nil, fun c hc => (by cases hc)⟩
/-- A new block. -/
theorem St.alloc {w0 w : World} {X : List Nat} {L : List (Nat × Obj)} (h : St w0 X L w) (o : Obj) : St w0 X ((w.heap.size, o) :: L) (w.alloc o) := by
  have hb : ∀ k, k < w.heap.size → (w.alloc o).heap[k]? = w.heap[k]? := fun k hk => Below.heap_alloc w o k hk
  refine ⟨h.os, h.tape, h.output, Nat.le_trans h.size (by simp), fun k hk hX => (hb k (Nat.lt_of_lt_of_le hk h.size)).trans (h.old k hk hX), fun c hc => ?_, ?_, fun c hc => ?_⟩
  · rcases List.mem_cons.1 hc with rfl | hc
    · show (w.heap.push o)[w.heap.size]? = some o
      simp
    · exact (hb c.1 (h.lt hc)).trans (h.own c hc)
  · rw [List.map_cons, List.nodup_cons]
    refine ⟨fun hm => ?_, h.nd⟩
    obtain ⟨c, hc, e⟩ := List.mem_map.1 hm
    have h1 := h.lt hc
    have h2 : c.1 = w.heap.size := e
    omega
  · rcases List.mem_cons.1 hc with rfl | hc
    · exact .inr h.size
    · exact h.wr c hc
/-- A block of one's own is given another object. -/
theorem St.setObj {w0 w w' : World} {X : List Nat} {L : List (Nat × Obj)} {b : Nat} {o o' : Obj} (h : St w0 X ((b, o) :: L) w) (hos : w'.os = w.os) (htape : w'.tape = w.tape) (hout : w'.output = w.output)
    (hsz : w'.heap.size = w.heap.size) (hb : w'.heap[b]? = some o') (hk : ∀ k, k ≠ b → w'.heap[k]? = w.heap[k]?) : St w0 X ((b, o') :: L) w' := by
  have hnd := h.nd
  rw [List.map_cons, List.nodup_cons] at hnd
  refine ⟨hos.trans h.os, htape.trans h.tape, hout.trans h.output, by rw [hsz]; exact h.size, fun k hk' hX => ?_, fun c hc => ?_, ?_, fun c hc => ?_⟩
  · refine (hk k fun e => ?_).trans (h.old k hk' hX)
    subst e
    rcases h.wr _ (List.mem_cons_self) with h1 | h1
    · exact hX h1
    · exact absurd hk' (Nat.not_lt.2 h1)
  · rcases List.mem_cons.1 hc with rfl | hc
    · exact hb
    · exact (hk c.1 fun e => hnd.1 (e ▸ (List.mem_map_of_mem hc : c.1 ∈ L.map Prod.fst))).trans (h.own c (List.mem_cons_of_mem _ hc))
  · rw [List.map_cons, List.nodup_cons]
    exact hnd
  · rcases List.mem_cons.1 hc with rfl | hc
    · exact h.wr (b, o) List.mem_cons_self
    · exact h.wr c (List.mem_cons_of_mem _ hc)

/-- Where a block stands in the list: 'by first | exact .here | exact .there .here | ..'. -/
inductive Has : List (Nat × Obj) → Nat → Obj → Prop
  | here {b : Nat} {o : Obj} {L : List (Nat × Obj)} : Has ((b, o) :: L) b o
  | there {b : Nat} {o : Obj} {c : Nat × Obj} {L : List (Nat × Obj)} : Has L b o → Has (c :: L) b o
  | app {b : Nat} {o : Obj} {B L : List (Nat × Obj)} : Has L b o → Has (B ++ L) b o
theorem Has.mem {L : List (Nat × Obj)} {b : Nat} {o : Obj} (h : Has L b o) : (b, o) ∈ L := by
  induction h with
  | here => exact List.mem_cons_self
  | there _ ih => exact List.mem_cons_of_mem _ ih
  | app _ ih => exact List.mem_append_right _ ih
/-- The list with another object in a block's place. -/
inductive Repl : List (Nat × Obj) → Nat → Obj → Obj → List (Nat × Obj) → Prop
  | here {b : Nat} {o o' : Obj} {L : List (Nat × Obj)} : Repl ((b, o) :: L) b o o' ((b, o') :: L)
  | there {b : Nat} {o o' : Obj} {c : Nat × Obj} {L L' : List (Nat × Obj)} : Repl L b o o' L' → Repl (c :: L) b o o' (c :: L')
  | app {b : Nat} {o o' : Obj} {B L L' : List (Nat × Obj)} : Repl L b o o' L' → Repl (B ++ L) b o o' (B ++ L')
theorem Repl.perm {L L' : List (Nat × Obj)} {b : Nat} {o o' : Obj} (h : Repl L b o o' L') : ∃ R, L.Perm ((b, o) :: R) ∧ L'.Perm ((b, o') :: R) := by
  induction h with
  | here => exact ⟨_, .refl _, .refl _⟩
  | @there _ _ _ c _ _ _ ih =>
    obtain ⟨R, h1, h2⟩ := ih
    exact ⟨c :: R, (h1.cons c).trans (List.Perm.swap ..), (h2.cons c).trans (List.Perm.swap ..)⟩
  | @app _ _ _ B _ _ _ ih =>
    obtain ⟨R, h1, h2⟩ := ih
    exact ⟨B ++ R, (h1.append_left B).trans List.perm_middle, (h2.append_left B).trans List.perm_middle⟩
theorem St.put {w0 w w' : World} {X : List Nat} {L L' : List (Nat × Obj)} {b : Nat} {o o' : Obj} (h : St w0 X L w) (hr : Repl L b o o' L') (hos : w'.os = w.os) (htape : w'.tape = w.tape) (hout : w'.output = w.output)
    (hsz : w'.heap.size = w.heap.size) (hb : w'.heap[b]? = some o') (hk : ∀ k, k ≠ b → w'.heap[k]? = w.heap[k]?) : St w0 X L' w' := by
  obtain ⟨R, h1, h2⟩ := hr.perm
  exact ((h.perm h1).setObj hos htape hout hsz hb hk).perm h2.symm
end Go.Proofs.Ytdoinfpkfbfjaaa
