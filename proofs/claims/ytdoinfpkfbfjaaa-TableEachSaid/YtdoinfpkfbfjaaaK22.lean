/- The range over a function, for a caller whose round keeps more than what the iterator reads: all rows of one type, too. -/
import Derived.Test.YtdoinfpkfbfjaaaK21
set_option linter.unusedVariables false
namespace Go.Proofs.Ytdoinfpkfbfjaaa
open Go.RowKit
section
variable {P : Program} {N l n D : Nat} {Q Q' : Exit → Act → World → Prop} {env : Env} {w w0 : World} {X : List Nat} {L L' : List (Nat × Obj)}
theorem SatC.rangeOwnK {α G A : Type} {gop : Operand} {ps : Array Tmp} {assign body : Code} {gf : Nat} {lb : List Value} {encs : α → Array Value} {S Sp : List α → Prop} {M : Nat} {Kp : World → World → Prop}
    (Pr : List α → G → Prop) (Px : Code → List α → G → Prop) (Lg : G → List (Nat × Obj)) (La : α → A → List (Nat × Obj)) (V : α → A → Env) (Cn : Env) (g0 : G) (hcn : EnvSub env Cn)
    (hseq : SeqStopsK Fence.wide 7 P gf lb.toArray encs Kp S Sp M w)
    (hKt : ∀ {A B C : World}, Kp A B → Kp B C → Kp A C) (hKb : ∀ (W : World) (l : Nat) (o o' : Obj), w.heap.size ≤ l → W.heap[l]? = some o → o.isCells = false → o.isWalk = false → Kp W (W.putObj l o'))
    (hS : St w0 X (Lg g0) w) (hP0 : Pr [] g0)
    (hg : evO env gop = some (.func (.func gf) #[] lb.toArray)) (hent : enters P gf = true) (hps : ∀ x, (encs x).size = ps.size) (hpN : ps.toList.all (Nat.blt · N) = true)
    (hLow : ∀ pre g, Pr pre g → Low w.heap.size (Lg g)) (hLowx : ∀ c pre g, Px c pre g → Low w.heap.size (Lg g)) (hLa : ∀ x a, ∀ c ∈ La x a, c.2.isCells = true)
    (hdet : ∀ pre g pre' g' W, Pr pre g → Pr pre' g' → Own W (Lg g) → Own W (Lg g') → ∀ c ∈ Lg g, c.1 ∈ (Lg g').map Prod.fst)
    (hKa : ∀ pre x a g W W', Pr pre g → Own W (Lg g) → St W ((Lg g).map Prod.fst) (La x a ++ Lg g) W' → Kp W W')
    (hKs : ∀ pre x a g g' W W', Pr pre g → Own W (La x a ++ Lg g) → Pr (pre ++ [x]) g' → St W ((La x a ++ Lg g).map Prod.fst) (Lg g') W' → Kp W W')
    (hassign : ∀ l pre x g W, Pr pre g → Own W (Lg g) → SatF l 6 P N assign (Exit.then (laidPost N (fun a => V x a ++ Cn) (La x) (Lg g) W) (fun _ _ _ => False)) ((ps.toList.zip (encs x).toList).reverse ++ env) W)
    (hbody : ∀ l pre x a g W, Pr pre g → Own W (La x a ++ Lg g) → pre.length < M → SatF l 6 P N body (roundPost Pr Px Lg (pre ++ [x]) ((La x a ++ Lg g).map Prod.fst) W) (V x a ++ Cn) W)
    (hdone : ∀ D xs g W, S xs → Pr xs g → St w0 X ((D, .deferred (some [])) :: Lg g) W → SatEM D N Q .normal env W)
    (hstop : ∀ D c pre g W, Sp pre → Px c pre g → St w0 X ((D, .deferred (some [])) :: Lg g) W → SatM D P N c Q env W) :
    SatC P N (.rangeFunc gop ps assign body) Q env w := by
  have hB : w0.heap.size ≤ w.heap.size := hS.size
  refine SatC.rangeFunc (α := α) (G := A) (gf := gf) (lb := lb) (encs := encs) (Kp := Kp) (M := M) (w0 := w) hg hent hseq (fun h k => hKt h k) hKb (Below.refl _ w) hps
    (fun p hp => by simpa [Nat.blt_eq] using List.all_eq_true.1 hpN p hp)
    (fun pre W => ∃ g, Pr pre g ∧ St w0 X (Lg g) W) (fun c pre W => ∃ g, Px c pre g ∧ St w0 X (Lg g) W)
    (fun s W W' row hs hg hr => by obtain ⟨g, h1, h2⟩ := hs; exact ⟨g, h1, h2.grown (hLow _ _ h1) hB hg hr⟩)
    (fun c s W W' row hs hg hr => by obtain ⟨g, h1, h2⟩ := hs; exact ⟨g, h1, h2.grown (hLowx _ _ _ h1) hB hg hr⟩)
    ⟨g0, hP0, hS⟩ (fun x a => V x a ++ Cn) (fun x a W => ∃ pre g, Pr pre g ∧ St w0 X (La x a ++ Lg g) W)
    (fun x a s W W' row hs hg hr => by obtain ⟨pre, g, h1, h2⟩ := hs; exact ⟨pre, g, h1, h2.grown (low_append (hLa x a) (hLow _ _ h1)) hB hg hr⟩)
    ?_ ?_ ?_ ?_
  · rintro l pre x W ⟨g, hp, hs⟩
    refine (hassign l pre x g W hp hs.toOwn).mono fun e a' W' he => ?_
    cases e with
    | normal =>
      obtain ⟨a, ha, hs'⟩ := he
      refine ⟨⟨a, ha, pre, g, hp, hs.whole hs'⟩, hs'.keepsFrom hs.toOwn (hLow _ _ hp), hKa pre x a g W W' hp hs.toOwn hs', g, hp, ?_⟩
      exact (hs.whole hs').sub (List.sublist_append_right _ _)
    | _ => exact he
  · rintro l pre x a W hl hr ⟨g, hp, hs⟩ ⟨pre', g', hp', hs'⟩ hlen
    have hown : Own W (La x a ++ Lg g) := own_append hs'.toOwn hs.toOwn (hdet _ _ _ _ W hp hp' hs.toOwn (hs'.sub (List.sublist_append_right _ _)).toOwn)
    have hs2 : St w0 X (La x a ++ Lg g) W := ⟨hs.os, hs.tape, hs.output, hs.size, hs.old, hown.1, hown.2, fun c hc => by
      rcases List.mem_append.1 hc with hc | hc
      · exact hs'.wr c (List.mem_append_left _ hc)
      · exact hs.wr c hc⟩
    have hlow := low_append (hLa x a) (hLow _ _ hp)
    refine (hbody l pre x a g W hp hown hlen).mono fun e a' W' he => ?_
    cases e with
    | normal =>
      obtain ⟨g2, hp2, hs3⟩ := he
      exact ⟨hs3.keepsFrom hown hlow, hKs pre x a g g2 W W' hp hown hp2 hs3, g2, hp2, hs2.whole hs3⟩
    | ret =>
      obtain ⟨g2, hp2, hs3⟩ := he
      exact ⟨hs3.keepsFrom hown hlow, g2, hp2, hs2.whole hs3⟩
    | exit id =>
      obtain ⟨g2, hp2, hs3⟩ := he
      exact ⟨hs3.keepsFrom hown hlow, g2, hp2, hs2.whole hs3⟩
    | _ => exact he.elim
  · rintro D xs W hD hs ⟨g, hp, h⟩ hm
    exact hdone D xs g W hs hp (h.mark (hLow _ _ hp) hB hD hm rfl)
  · rintro D c pre W hD hs ⟨g, hp, h⟩ hm
    exact hstop D c pre g W hs hp (h.mark (hLowx _ _ _ hp) hB hD hm rfl)

def tyOf : Obj → Option TypeId
  | .cells _ t _ => some t
  | _ => none
/-- What the iterator reads stays, and so does every block of the type T. -/
def StaysT (T : TypeId) (R : List (Nat × Obj)) (W W' : World) : Prop := Stays R W W' ∧ ∀ (k : Nat) (o : Obj), W.heap[k]? = some o → tyOf o = some T → W'.heap[k]? = some o
theorem staysT_trans {T : TypeId} {R : List (Nat × Obj)} {A B C : World} (h : StaysT T R A B) (k : StaysT T R B C) : StaysT T R A C := ⟨stays_trans h.1 k.1, fun i o h1 h2 => k.2 i o (h.2 i o h1 h2) h2⟩
theorem staysT_of {T : TypeId} {R L L' : List (Nat × Obj)} {W W' : World} (hown : Own W L) (h : St W (L.map Prod.fst) L' W') (hT : ∀ c ∈ L, tyOf c.2 ≠ some T ∨ c ∈ R) (hR : ∀ c ∈ R, c ∈ L') : StaysT T R W W' := by
  refine ⟨h.stays hR, fun k o hk ho => ?_⟩
  by_cases hm : k ∈ L.map Prod.fst
  · obtain ⟨c, hc, rfl⟩ := List.mem_map.1 hm
    have h1 := hown.1 c hc
    rw [hk] at h1
    have h2 : o = c.2 := Option.some.inj h1
    rcases hT c hc with h3 | h3
    · exact absurd (h2 ▸ ho) h3
    · rw [h2]; exact h.own c (hR c h3)
  · rw [h.old k (Array.getElem?_eq_some_iff.1 hk).1 hm]; exact hk
theorem staysT_putObj {T B : Nat} {R : List (Nat × Obj)} (hR : ∀ c ∈ R, c.1 < B) (W : World) (l : Nat) (o o' : Obj) (hl : B ≤ l) (h : W.heap[l]? = some o) (hc : o.isCells = false) (hw : o.isWalk = false) : StaysT T R W (W.putObj l o') := by
  refine ⟨stays_putObj hR W l o o' hl h hc hw, fun k o2 hk ht => ?_⟩
  by_cases e : k = l
  · subst e
    rw [h] at hk
    obtain rfl := Option.some.inj hk
    cases o <;> simp_all [tyOf, Obj.isCells]
  · rw [World.putObj_heap_other e]; exact hk
/-- One's own blocks, of the type T, lie there still behind a round. -/
theorem Own.staysT {T : TypeId} {R B : List (Nat × Obj)} {W W' : World} (hown : Own W (R ++ B)) (h : StaysT T R W W') (hB : ∀ c ∈ B, tyOf c.2 = some T) : Own W' (R ++ B) := ⟨fun c hc => by
  rcases List.mem_append.1 hc with hc' | hc'
  · exact h.1 c hc' (hown.1 c hc)
  · exact h.2 c.1 c.2 (hown.1 c hc) (hB c hc'), hown.2⟩
theorem Sl.ty {T k : Nat} {v : Value} {r : List (List Value)} {A : List (Nat × Obj)} (h : Sl T k v r A) : ∀ c ∈ A, tyOf c.2 = some T := by
  cases h with
  | nil => intro c hc; cases hc
  | own => intro c hc; simp only [List.mem_singleton] at hc; subst hc; rfl
/-- None but what the iterator reads is of the type T. -/
def NT (T : TypeId) (R L : List (Nat × Obj)) : Prop := ∀ c ∈ L, tyOf c.2 ≠ some T ∨ c ∈ R
theorem NT.self {T : TypeId} {R : List (Nat × Obj)} : NT T R R := fun c hc => .inr hc
theorem NT.cell {T T' b : Nat} {cs : List Value} {R L : List (Nat × Obj)} (hn : Nat.beq T' T = false) (h : NT T R L) : NT T R ((b, C T' cs) :: L) := fun c hc => by
  rcases List.mem_cons.1 hc with rfl | hc
  · refine .inl fun e => ?_
    have e' : T' = T := Option.some.inj e
    subst e'
    simp at hn
  · exact h c hc
theorem NT.sl {T T' k : Nat} {v : Value} {r : List (List Value)} {R A L : List (Nat × Obj)} (hn : Nat.beq T' T = false) (hsl : Sl T' k v r A) (h : NT T R L) : NT T R (A ++ L) := fun c hc => by
  rcases List.mem_append.1 hc with hc | hc
  · refine .inl fun e => ?_
    rw [hsl.ty c hc] at e
    have e' : T' = T := Option.some.inj e
    subst e'
    simp at hn
  · exact h c hc
end
end Go.Proofs.Ytdoinfpkfbfjaaa
