/- A range over an iterator that has loops of its own under way: it may turn the records of these loops, too. -/
import Derived.Test.YtdoinfpkfbfjaaaK22
import Derived.Test.YtdoinfpkfbfjaaaK33
set_option linter.unusedVariables false
namespace Go.Proofs.Ytdoinfpkfbfjaaa
open Go.RowKit
/-- What such an iterator is told, and tells: the caller's word abides any turn of what is no cells and was laid since; a round keeps all of that. -/
def SeqOver {α : Type} (P : Program) (g : Nat) (lb : Array Value) (encs : α → Array Value) (Kp : World → World → Prop) (S Sp : List α → Prop) (M : Nat) (w : World) : Prop :=
  ∀ (l : Nat) (J Jx : List α → World → Prop) (W : World), Below w.heap.size w W → OwnFrom W.heap.size J → OwnFrom W.heap.size Jx →
    (∀ pre x W1, J pre W1 → pre.length < M → YieldAt Fence.wide 6 P l (encs x) W1 fun e W' => KeepsFrom W.heap.size W1 W' ∧
      ((e = .returned (.bool true) ∧ J (pre ++ [x]) W' ∧ Kp W1 W') ∨ (e = .returned (.bool false) ∧ Jx (pre ++ [x]) W'))) →
    J [] W → CallsIn Fence.wide 7 P g (#[.func (.yield l) #[] #[]] ++ lb) W fun e W' => (∃ v, e = .returned v) ∧ ((∃ xs, S xs ∧ J xs W') ∨ (∃ pre, Sp pre ∧ Jx pre W'))
/-- A loop's record. -/
@[reducible] def lrec (fn : FuncId) (tmps : Array Value) (ps : Array Tmp) (assign body : Code) (D : Nat) (s : LoopState) (p : Option Code) : Loop := { state := s, pending := p, fn := fn, tmps := tmps, params := ps, assign := assign, body := body, defers := D }
/-- The loop's two blocks: the mark's, and behind it the record's. -/
structure Bk (B : Nat) (r : Loop) (W : World) : Prop where
  rcd : W.heap[B + 1]? = some (.loop r)
  mrk : W.heap[B]? = some (.deferred (some []))
section
variable {B : Nat} {r r' : Loop} {W W' : World}
theorem Bk.grown (E : Nat) (hE : B + 2 ≤ E) : OwnFrom E (fun (_ : Unit) W => Bk B r W) := fun _ W W' row h hg hr =>
  ⟨(hg.block _ (Array.getElem?_eq_some_iff.1 h.rcd).1 (fun e => by have := (hr _ e.symm).1; omega)).trans h.rcd, (hg.block _ (Array.getElem?_eq_some_iff.1 h.mrk).1 (fun e => by have := (hr _ e.symm).1; omega)).trans h.mrk⟩
theorem Bk.put (h : Bk B r W) (r' : Loop) : Bk B r' (W.putObj (B + 1) (.loop r')) := ⟨World.putObj_heap_same (Array.getElem?_eq_some_iff.1 h.rcd).1, (World.putObj_heap_other (by omega)).trans h.mrk⟩
theorem Bk.keeps (h : Bk B r W) (hk : KeepsFrom B W W') : Bk B r W' := ⟨hk.same _ _ (by omega) h.rcd rfl, hk.same _ _ (Nat.le_refl _) h.mrk rfl⟩
theorem keeps_put (W : World) (l : Nat) (o : Obj) (E : Nat) (h : l < E) : KeepsFrom E W (W.putObj l o) := KeepsFrom.of_grownBy (grownBy_putObj' W l o) (fun j e => by cases e; exact h)
theorem keeps_up {E : Nat} (hk : KeepsFrom B W W') (h : B ≤ E) : KeepsFrom E W W' := ⟨hk.size, fun k o hE => hk.same k o (Nat.le_trans h hE)⟩
theorem own_up {β : Type} {I : β → World → Prop} {E : Nat} (h : OwnFrom B I) (hE : B ≤ E) : OwnFrom E I := fun s W W' row hs hg hr => h s W W' row hs hg (fun r e => ⟨Nat.le_trans hE (hr r e).1, (hr r e).2⟩)
end
theorem over_law {α : Type} {P : Program} {g : Operand} {ps : Array Tmp} {assign body : Code} {Q : Exit → Act → World → Prop} {a : Act} {w : World} {gf : Nat} {lb : Array Value} (hg : a.eval g = .func (.func gf) #[] lb) (eg : ∀ args w, (callFunc gf args).run P w = .ok (.enter gf args) w)
    {encs : α → Array Value} {Kp : World → World → Prop} {S Sp : List α → Prop} {M : Nat} {w0 : World} (hseq : SeqOver P gf lb encs Kp S Sp M w0)
    (hKt : ∀ {A B C : World}, Kp A B → Kp B C → Kp A C) (hKb : ∀ (W : World) (l : Nat) (o o' : Obj), w.heap.size ≤ l → W.heap[l]? = some o → o.isCells = false → o.isWalk = false → Kp W (W.putObj l o')) (hb0 : Below w0.heap.size w0 w) (hps : ∀ x, (encs x).size = ps.size)
    (I : List α → World → Prop) (Ix : Code → List α → World → Prop) (hI : OwnFrom w.heap.size I) (hIx : ∀ c, OwnFrom w.heap.size (Ix c)) (h0 : I [] w) (Ax : α → Act → World → Prop) (hAx : ∀ x a', OwnFrom w.heap.size (fun (_ : Unit) W => Ax x a' W))
    (hassign : ∀ (l : Nat) (pre : List α) (x : α) (W : World) (K : Act → World → Prop), I pre W → (∀ a' W', KeepsFrom w.heap.size W W' → Kp W W' → I pre W' → Ax x a' W' → K a' W') →
      assign.wpIn (Fence.wide.inRound l) 6 P (Exit.then K (fun _ _ _ => False)) { tmps := (ps.zip (encs x)).foldl (fun t (p, v) => t.setIfInBounds p v) a.tmps, defers := [] } W)
    (hbody : ∀ (l : Nat) (pre : List α) (x : α) (a' : Act) (W : World), I pre W → Ax x a' W → pre.length < M → body.wpIn (Fence.wide.inRound l) 6 P (ownPostG w.heap.size Kp I Ix (pre ++ [x]) W) a' W)
    (hdone : ∀ (D : Nat) (xs : List α) (W : World), w.heap.size ≤ D → S xs → I xs W → W.heap[D]? = some (.deferred (some [])) → Q .normal { a with defers := mark D :: a.defers } W)
    (hstop : ∀ (D : Nat) (c : Code) (pre : List α) (W : World), w.heap.size ≤ D → Sp pre → Ix c pre W → W.heap[D]? = some (.deferred (some [])) → c.wpIn Fence.wide 8 P Q { a with defers := mark D :: a.defers } W) :
    (Code.rangeFunc g ps assign body).wpIn Fence.wide 8 P Q a w := by
  refine wpIn_rangeFunc (F := Fence.wide) (n := 8) fun fn hfn => ?_
  let rc := lrec fn a.tmps ps assign body w.heap.size
  have hbk1 : Bk w.heap.size (rc .ready none) ((w.alloc (.deferred (some []))).alloc (.loop (rc .ready none))) := by
    constructor
    · have := World.alloc_heap_new (w.alloc (.deferred (some []))) (.loop (rc .ready none))
      rwa [World.size_alloc] at this
    · exact (Below.heap_alloc _ _ _ (by simp)).trans (World.alloc_heap_new w _)
  have hI1 : I [] ((w.alloc (.deferred (some []))).alloc (.loop (rc .ready none))) := hI.alloc _ (hI.alloc _ h0)
  have hb1 : Below w0.heap.size w0 ((w.alloc (.deferred (some []))).alloc (.loop (rc .ready none))) := hb0.trans ((((Below.refl _ w).alloc (Nat.le_refl _) _).alloc (by simp) _).mono hb0.size)
  have hsz : ((w.alloc (.deferred (some []))).alloc (.loop (rc .ready none))).heap.size = w.heap.size + 2 := by simp
  have hent := run_enterLoop_outer (P := P) (w := w) fn a.tmps ps assign body
  generalize hW1 : (w.alloc (.deferred (some []))).alloc (.loop (rc .ready none)) = W1 at hbk1 hI1 hb1 hsz
  refine ⟨w.heap.size + 1, [mark w.heap.size], W1, { target := .fn (.func gf) lb, args := #[.func (.yield (w.heap.size + 1)) #[] #[]] }, W1, gf, #[.func (.yield (w.heap.size + 1)) #[] #[]] ++ lb, W1, by rw [← hW1]; exact hent, ?_, fun _ _ => trivial, ?_, fun h => (by cases h), ?_⟩
  · simp only [resolve, hg]
    simp [go_sem]
  · simp [invoke, go_sem, eg]
  refine (hseq (w.heap.size + 1) (fun pre W => I pre W ∧ Bk w.heap.size (rc .ready none) W) (fun pre W => ∃ c, Ix c pre W ∧ Bk w.heap.size (rc .done (some c)) W) W1 hb1
    (fun s A C row hs hg' hr => ⟨own_up hI (by omega) s A C row hs.1 hg' hr, Bk.grown W1.heap.size (by omega) () A C row hs.2 hg' hr⟩)
    (fun s A C row hs hg' hr => by
      obtain ⟨c, h1, h2⟩ := hs
      exact ⟨c, own_up (hIx c) (by omega) s A C row h1 hg' hr, Bk.grown W1.heap.size (by omega) () A C row h2 hg' hr⟩) ?_ ⟨hI1, hbk1⟩).mono ?_
  · -- one round
    rintro pre x W ⟨hi, hb⟩ hlen
    refine ⟨fn, _, assign, body, run_yield (P := P) (args := encs x) hb.rcd (hps x), roundIn_of_wpIn hfn (hassign _ pre x W _ hi ?_)⟩
    intro a' Wa hkf hkp hia hax
    have hba := hb.keeps hkf
    refine ⟨_, run_beginRound hba.rcd rfl, ?_⟩
    have hbb := hba.put (rc .busy none)
    have hkb : Kp Wa (Wa.putObj (w.heap.size + 1) (.loop (rc .busy none))) := hKb _ _ _ _ (by omega) hba.rcd rfl rfl
    refine wpIn_mono (hbody _ pre x a' _ (hI.putObj _ hia (by omega) hba.rcd rfl) ((hAx x a').putObj (s := ()) _ hax (by omega) hba.rcd rfl) hlen) ?_
    have hk0 : KeepsFrom W1.heap.size W (Wa.putObj (w.heap.size + 1) (.loop (rc .busy none))) := (keeps_up hkf (by omega)).trans (keeps_put _ _ _ _ (by omega))
    have hfin : ∀ (jump : Option Code) (W3 : World), KeepsFrom w.heap.size (Wa.putObj (w.heap.size + 1) (.loop (rc .busy none))) W3 → (Instr.endRound (w.heap.size + 1) jump).run P W3 = .ok (.bool jump.isNone) (W3.putObj (w.heap.size + 1) (.loop (rc (if jump.isNone then .ready else .done) jump))) ∧
        Bk w.heap.size (rc .busy none) W3 ∧ KeepsFrom W1.heap.size W (W3.putObj (w.heap.size + 1) (.loop (rc (if jump.isNone then .ready else .done) jump))) := fun jump W3 hk3 =>
      ⟨run_endRound (P := P) jump (hbb.keeps hk3).rcd, hbb.keeps hk3, (hk0.trans (keeps_up hk3 (by omega))).trans (keeps_put _ _ _ _ (by omega))⟩
    rintro e a3 W3 hp
    cases e with
    | normal =>
      obtain ⟨hk3, hp3, hi3⟩ := hp
      obtain ⟨h1, h2, h3⟩ := hfin none W3 hk3
      exact ⟨_, _, h1, h3, .inl ⟨rfl, ⟨hI.putObj _ hi3 (by omega) h2.rcd rfl, h2.put _⟩, hKt hkp (hKt (hKt hkb hp3) (hKb _ _ _ _ (by omega) h2.rcd rfl rfl))⟩⟩
    | ret =>
      obtain ⟨hk3, hi3⟩ := hp
      obtain ⟨h1, h2, h3⟩ := hfin (some .ret) W3 hk3
      exact ⟨_, _, h1, h3, .inr ⟨rfl, .ret, (hIx _).putObj _ hi3 (by omega) h2.rcd rfl, h2.put _⟩⟩
    | exit id =>
      obtain ⟨hk3, hi3⟩ := hp
      obtain ⟨h1, h2, h3⟩ := hfin (some (.exit id)) W3 hk3
      exact ⟨_, _, h1, h3, .inr ⟨rfl, .exit id, (hIx _).putObj _ hi3 (by omega) h2.rcd rfl, h2.put _⟩⟩
    | goto t =>
      obtain ⟨hk3, hi3⟩ := hp
      obtain ⟨h1, h2, h3⟩ := hfin (some (.goto t)) W3 hk3
      exact ⟨_, _, h1, h3, .inr ⟨rfl, .goto t, (hIx _).putObj _ hi3 (by omega) h2.rcd rfl, h2.put _⟩⟩
    | panic ch => exact hp.elim
    | outgrown => exact hp.elim
  · -- behind the iterator
    rintro e W2 ⟨⟨v, rfl⟩, (⟨xs, hS, hi, hb⟩ | ⟨pre, hSp, c, hi, hb⟩)⟩
    · exact ⟨none, _, run_endLoop (P := P) hb.rcd (by simp [rc]), hdone _ xs _ (Nat.le_refl _) hS (hI.putObj _ hi (by omega) hb.rcd rfl) ((World.putObj_heap_other (by omega)).trans hb.mrk)⟩
    · exact ⟨some c, _, run_endLoop (P := P) hb.rcd (by simp [rc]), hstop _ c pre _ (Nat.le_refl _) hSp ((hIx c).putObj _ hi (by omega) hb.rcd rfl) ((World.putObj_heap_other (by omega)).trans hb.mrk)⟩
section
variable {P : Program} {N l n D : Nat} {Q : Exit → Act → World → Prop} {env : Env} {w w0 : World} {X : List Nat} {L L' : List (Nat × Obj)}
theorem SatC.rangeOver {α G : Type} {gop : Operand} {ps : Array Tmp} {assign body : Code} {gf : Nat} {lb : List Value} {encs : α → Array Value} {Kp : World → World → Prop} {S Sp : List α → Prop} {M : Nat} {w0 : World}
    (hg : evO env gop = some (.func (.func gf) #[] lb.toArray)) (hent : enters P gf = true) (hseq : SeqOver P gf lb.toArray encs Kp S Sp M w0)
    (hKt : ∀ {A B C : World}, Kp A B → Kp B C → Kp A C) (hKb : ∀ (W : World) (l : Nat) (o o' : Obj), w.heap.size ≤ l → W.heap[l]? = some o → o.isCells = false → o.isWalk = false → Kp W (W.putObj l o')) (hb0 : Below w0.heap.size w0 w)
    (hps : ∀ x, (encs x).size = ps.size) (hpN : ∀ p ∈ ps.toList, p < N)
    (I : List α → World → Prop) (Ix : Code → List α → World → Prop) (hI : OwnFrom w.heap.size I) (hIx : ∀ c, OwnFrom w.heap.size (Ix c)) (h0 : I [] w) (Er : α → G → Env) (J : α → G → World → Prop) (hJ : ∀ x g, OwnFrom w.heap.size (fun (_ : Unit) W => J x g W))
    (hassign : ∀ (l : Nat) (pre : List α) (x : α) (W : World), I pre W → SatF l 6 P N assign (Exit.then (fun a' W' => (∃ g, Ag N (Er x g) a' ∧ J x g W') ∧ KeepsFrom w.heap.size W W' ∧ Kp W W' ∧ I pre W') (fun _ _ _ => False)) ((ps.toList.zip (encs x).toList).reverse ++ env) W)
    (hbody : ∀ (l : Nat) (pre : List α) (x : α) (g : G) (W : World), I pre W → J x g W → pre.length < M → SatF l 6 P N body (ownPostG w.heap.size Kp I Ix (pre ++ [x]) W) (Er x g) W)
    (hdone : ∀ (D : Nat) (xs : List α) (W : World), w.heap.size ≤ D → S xs → I xs W → W.heap[D]? = some (.deferred (some [])) → SatEM D N Q .normal env W)
    (hstop : ∀ (D : Nat) (c : Code) (pre : List α) (W : World), w.heap.size ≤ D → Sp pre → Ix c pre W → W.heap[D]? = some (.deferred (some [])) → SatM D P N c Q env W) :
    SatC P N (.rangeFunc gop ps assign body) Q env w := by
  refine ⟨fun a ha => (wpIn_wide (n := 8)).1 ?_⟩
  have hd0 : a.defers = [] := ha.2.1
  have hbare : ∀ D, bare { a with defers := mark D :: a.defers } = a := fun D => by
    cases a
    simp only at hd0
    subst hd0
    rfl
  refine over_law (gf := gf) (lb := lb.toArray) (ha.ev hg) (fun args w => run_callFunc hent) hseq hKt hKb hb0 hps I Ix hI hIx h0 (fun x a' W => ∃ g, Ag N (Er x g) a' ∧ J x g W) (fun x a' s A B row hs h1 h2 => by
    obtain ⟨g, hg, hj⟩ := hs
    exact ⟨g, hg, hJ x g s A B row hj h1 h2⟩) ?_ ?_ ?_ ?_
  · intro l pre x W K hi hK
    have h1 := (hassign l pre x W hi).out { tmps := (ps.zip (encs x)).foldl (fun t (p, v) => t.setIfInBounds p v) a.tmps, defers := [] } (by
      have := Ag.pars (N := N) (ps.toList.zip (encs x).toList) env a ha (fun p hp => hpN _ (List.of_mem_zip hp).1)
      rw [← Array.foldl_toList, Array.toList_zip]
      exact this)
    refine wpIn_mono h1 fun e a' W' he => ?_
    cases e with
    | normal => exact hK a' W' he.2.1 he.2.2.1 he.2.2.2 he.1
    | _ => exact he
  · rintro l pre x a' W hi ⟨g, hA, hj⟩ hlen
    exact (hbody l pre x g W hi hj hlen).out a' hA
  · intro D xs W hD hS hi hm
    exact (hdone D xs W hD hS hi hm).out _ (by rw [hbare]; exact ha) (by show mark D :: a.defers = [mark D]; rw [hd0])
  · intro D c pre W hD hS hi hm
    exact (wpIn_wide (n := 8)).2 ((hstop D c pre W hD hS hi hm).out _ (by rw [hbare]; exact ha) (by show mark D :: a.defers = [mark D]; rw [hd0]))
theorem SatC.rangeOwnO {α G A : Type} {gop : Operand} {ps : Array Tmp} {assign body : Code} {gf : Nat} {lb : List Value} {encs : α → Array Value} {S Sp : List α → Prop} {M : Nat} {Kp : World → World → Prop}
    (Pr : List α → G → Prop) (Px : Code → List α → G → Prop) (Lg : G → List (Nat × Obj)) (La : α → A → List (Nat × Obj)) (V : α → A → Env) (Cn : Env) (g0 : G) (hcn : EnvSub env Cn)
    (hseq : SeqOver P gf lb.toArray encs Kp S Sp M w)
    (hKt : ∀ {A B C : World}, Kp A B → Kp B C → Kp A C) (hKb : ∀ (W : World) (l : Nat) (o o' : Obj), w.heap.size ≤ l → W.heap[l]? = some o → o.isCells = false → o.isWalk = false → Kp W (W.putObj l o'))
    (hS : St w0 X (Lg g0) w) (hP0 : Pr [] g0)
    (hg : evO env gop = some (.func (.func gf) #[] lb.toArray)) (hent : enters P gf = true) (hps : ∀ x, (encs x).size = ps.size) (hpN : ps.toList.all (Nat.blt · N) = true)
    (hLow : ∀ pre g, Pr pre g → Low w.heap.size (Lg g)) (hLowx : ∀ c pre g, Px c pre g → Low w.heap.size (Lg g)) (hLa : ∀ x a, ∀ c ∈ La x a, c.2.isCells = true)
    (hdet : ∀ pre g pre' g' W, Pr pre g → Pr pre' g' → Own W (Lg g) → Own W (Lg g') → ∀ c ∈ Lg g, c.1 ∈ (Lg g').map Prod.fst)
    (hKa : ∀ pre x a g W W', Pr pre g → Own W (Lg g) → St W ((Lg g).map Prod.fst) (La x a ++ Lg g) W' → Kp W W')
    (hKs : ∀ pre x a g g' W W', Pr pre g → Own W (La x a ++ Lg g) → Pr (pre ++ [x]) g' → St W ((La x a ++ Lg g).map Prod.fst) (Lg g') W' → Kp W W')
    (hassign : ∀ l pre x g W, Pr pre g → Own W (Lg g) → SatF l 6 P N assign (Exit.then (laidPost N (fun a => V x a ++ Cn) (La x) (Lg g) W) (fun _ _ _ => False)) ((ps.toList.zip (encs x).toList).reverse ++ env) W)
    (hbody : ∀ l pre x a g W, Pr pre g → Own W (La x a ++ Lg g) → pre.length < M → SatF l 6 P N body (roundPost Pr Px Lg (pre ++ [x]) ((La x a ++ Lg g).map Prod.fst) W) (V x a ++ Cn) W)
    (hdone : ∀ D xs g W, S xs → Pr xs g → St w0 X ((D, .deferred (some [])) :: Lg g) W → SatEM D N Q .normal env W)
    (hstop : ∀ D c pre g W, Sp pre → Px c pre g → St w0 X ((D, .deferred (some [])) :: Lg g) W → SatM D P N c Q env W) :
    SatC P N (.rangeFunc gop ps assign body) Q env w := by
  have hB : w0.heap.size ≤ w.heap.size := hS.size
  refine SatC.rangeOver (α := α) (G := A) (gf := gf) (lb := lb) (encs := encs) (Kp := Kp) (M := M) (w0 := w) hg hent hseq (fun h k => hKt h k) hKb (Below.refl _ w) hps
    (fun p hp => by simpa [Nat.blt_eq] using List.all_eq_true.1 hpN p hp)
    (fun pre W => ∃ g, Pr pre g ∧ St w0 X (Lg g) W) (fun c pre W => ∃ g, Px c pre g ∧ St w0 X (Lg g) W)
    (fun s W W' row hs hg hr => by obtain ⟨g, h1, h2⟩ := hs; exact ⟨g, h1, h2.grown (hLow _ _ h1) hB hg hr⟩)
    (fun c s W W' row hs hg hr => by obtain ⟨g, h1, h2⟩ := hs; exact ⟨g, h1, h2.grown (hLowx _ _ _ h1) hB hg hr⟩)
    ⟨g0, hP0, hS⟩ (fun x a => V x a ++ Cn) (fun x a W => ∃ pre g, Pr pre g ∧ St w0 X (La x a ++ Lg g) W)
    (fun x a s W W' row hs hg hr => by obtain ⟨pre, g, h1, h2⟩ := hs; exact ⟨pre, g, h1, h2.grown (low_append (hLa x a) (hLow _ _ h1)) hB hg hr⟩)
    ?_ ?_ ?_ ?_
  · rintro l pre x W ⟨g, hp, hs⟩
    refine (hassign l pre x g W hp hs.toOwn).mono fun e a' W' he => ?_
    cases e with
    | normal =>
      obtain ⟨a, ha, hs'⟩ := he
      refine ⟨⟨a, ha, pre, g, hp, hs.whole hs'⟩, hs'.keepsFrom hs.toOwn (hLow _ _ hp), hKa pre x a g W W' hp hs.toOwn hs', g, hp, ?_⟩
      exact (hs.whole hs').sub (List.sublist_append_right _ _)
    | _ => exact he
  · rintro l pre x a W ⟨g, hp, hs⟩ ⟨pre', g', hp', hs'⟩ hlen
    have hown : Own W (La x a ++ Lg g) := own_append hs'.toOwn hs.toOwn (hdet _ _ _ _ W hp hp' hs.toOwn (hs'.sub (List.sublist_append_right _ _)).toOwn)
    have hs2 : St w0 X (La x a ++ Lg g) W := ⟨hs.os, hs.tape, hs.output, hs.size, hs.old, hown.1, hown.2, fun c hc => by
      rcases List.mem_append.1 hc with hc | hc
      · exact hs'.wr c (List.mem_append_left _ hc)
      · exact hs.wr c hc⟩
    have hlow := low_append (hLa x a) (hLow _ _ hp)
    refine (hbody l pre x a g W hp hown hlen).mono fun e a' W' he => ?_
    cases e with
    | normal =>
      obtain ⟨g2, hp2, hs3⟩ := he
      exact ⟨hs3.keepsFrom hown hlow, hKs pre x a g g2 W W' hp hown hp2 hs3, g2, hp2, hs2.whole hs3⟩
    | ret =>
      obtain ⟨g2, hp2, hs3⟩ := he
      exact ⟨hs3.keepsFrom hown hlow, g2, hp2, hs2.whole hs3⟩
    | exit id =>
      obtain ⟨g2, hp2, hs3⟩ := he
      exact ⟨hs3.keepsFrom hown hlow, g2, hp2, hs2.whole hs3⟩
    | _ => exact he.elim
  · rintro D xs W hD hs ⟨g, hp, h⟩ hm
    exact hdone D xs g W hs hp (h.mark (hLow _ _ hp) hB hD hm rfl)
  · rintro D c pre W hD hs ⟨g, hp, h⟩ hm
    exact hstop D c pre g W hs hp (h.mark (hLowx _ _ _ hp) hB hD hm rfl)
/-- A round calls the yield of the loop around it. -/
theorem SatG.yield {m l' : Nat} {ops : Array Oper} {rest : List Oper} {d : Nat} {fo : Operand} {xs : List Operand} {vs : List Value} {ats : Array TypeId} {ty : TypeId} {pos : String} {af : Array Edge} {R : Ending → World → Prop} (hf : evO env fo = some (.func (.yield l') #[] #[])) (hx : evL env xs = some vs) (hd : Nat.blt d N = true)
    (hy : YieldAt Fence.wide m P l' vs.toArray w R) (h : ∀ e w', R e w' → ∃ v, e = .returned v ∧ SatG l n P N ops Q rest ((d, v) :: env) w') : SatG l n P N ops Q (⟨some d, .call { callee := .value fo, args := xs.toArray, argTypes := ats }, ty, pos, af, none⟩ :: rest) env w := by
  refine ⟨fun a ha => wpListIn_plain rfl fun K hK => ?_⟩
  obtain ⟨fn, tmps, assign, body, hrun, hR⟩ := hy
  have h1 := ha.ev hf
  have h2 := ha.evL hx
  have h3 : (xs.toArray.map a.eval) = vs.toArray := by rw [← h2]; simp
  refine ⟨fun f _ => trivial, ?_⟩
  rw [Oper.semAt_eq _ _ _ (noDefer_ne rfl)]
  have hr : (execOp a.eval ⟨some d, .call { callee := .value fo, args := xs.toArray, argTypes := ats }, ty, pos, af, none⟩).run P w = .ok (.round l' fn tmps assign body) w := by
    simp only [execOp, resolve, h1, h3, Deferred.ofValue, Sem.run_bind, Sem.run_pure, Result.andThen_ok, invoke]
    simpa using hrun
  rw [hr, Oper.uponIn_round]
  refine ⟨fun h => (by cases h), ?_⟩
  have hR' : RoundIn (Fence.wide.inRound l) (n - 1) P l' fn tmps assign body w R := roundIn_any hR
  refine hR'.mono fun e w' he => ?_
  obtain ⟨v, rfl, hs⟩ := h e w' he
  exact hK _ _ (hs.out _ (ha.put (by simpa [Nat.blt_eq] using hd)))
theorem SatEM.ret0 {fn : Func} {R : Value → World → Prop} (hr : fn.results = #[]) (hD : w.heap[D]? = some (.deferred (some []))) (h : R (.tuple #[]) (w.putObj D (.deferred none))) : SatEM D N (bodyPostM Fence.wide 8 P fn fun e w' => ∃ v, e = .returned v ∧ R v w') .ret env w :=
  ⟨fun a ha hd => by
    show LeavesInM Fence.wide 8 P fn a.tmps _ a.defers .returning w
    rw [hd]
    refine ⟨by simp, .inl ⟨D, _, rfl, run_takeDeferred hD, ?_⟩⟩
    exact ⟨.tuple #[], results_none hr _ _ _, _, rfl, h⟩⟩
theorem SatEM.fin0 {fn : Func} {R : Value → World → Prop} (hr : fn.results = #[]) (hD : w.heap[D]? = some (.deferred (some []))) (h : R (.tuple #[]) (w.putObj D (.deferred none))) : SatEM D N (bodyPostM Fence.wide 8 P fn fun e w' => ∃ v, e = .returned v ∧ R v w') .normal env w := ⟨fun a ha hd => (SatEM.ret0 hr hD h).out a ha hd⟩
/-- A region that draws, ahead of a range over a function. -/
theorem SatC.drawnP {id : Nat} {l : List Oper} {X2 : List Nat} {L2 : List (Nat × Obj)} (F : Nat) (hS : St w0 X L w) (hD : St w0 X2 L2 w) (hm : P.follows .mixedOrders = true) (h : ∀ w', w'.heap = w.heap → St w0 X L w' → St w0 X2 L2 w' → SatD P N l.toArray (NoPanic Q) (St w0 X2 L2) F l.length (List.replicate l.length false).toArray env w') : SatC P N (.region id l.toArray true) Q env w :=
  ⟨fun a ha => Go.wp_mono ((SatC.drawnT F hS hD hm h).out a ha) fun e a' w' he => noPanic_imp he⟩
theorem SatD.doneP {ops : Array Oper} {S : World → Prop} {F : Nat} {listed : Array Bool} (fuel : Nat) (hr : Region.ready .any ops listed = []) (h : SatE N Q .normal env w) : SatD P N ops (NoPanic Q) S F fuel listed env w := SatD.done fuel hr ⟨h.out⟩
/-- A result that lies in memory. -/
theorem SatEM.retC {fn : Func} {R : Value → World → Prop} {r1 : ResultVar} {v1 : Value} (hS : St w0 X L w) (hr : fn.results = #[r1]) (hm : RemB [(D, .deferred (some []))] L L') (h1 : ResO P L' env r1 v1) (h : ∀ w', St w0 X L' w' → R v1 w') :
    SatEM D N (bodyPostM Fence.wide 8 P fn fun e w' => ∃ v, e = .returned v ∧ R v w') .ret env w :=
  ⟨fun a ha hd => by
    show LeavesInM Fence.wide 8 P fn a.tmps _ a.defers .returning w
    rw [hd]
    have hD : w.heap[D]? = some (.deferred (some [])) := (hS.rem hm).own (D, .deferred (some [])) (by simp)
    have hS2 : St w0 X L' (w.putObj D (.deferred none)) := hS.unmark hm
    refine ⟨by simp, .inl ⟨D, _, rfl, run_takeDeferred hD, ?_⟩⟩
    refine ⟨v1, ?_, _, rfl, h _ hS2⟩
    rcases h1.run hS2 ha with ⟨t, rfl, e1⟩ | ⟨t, ty, p, rfl, e1, l1⟩
    · rw [results_tmp hr]; simp_all
    · simp_all [results, asAddr]⟩
theorem own_low {B : Nat} (hL : Low B L) : OwnFrom B (fun (_ : Unit) W => Own W L) := fun _ W W' row h hg hr => ⟨fun c hc => by
  have h1 := h.1 c hc
  rw [hg.block c.1 (Array.getElem?_eq_some_iff.1 h1).1 (fun e => ?_)]
  · exact h1
  · obtain ⟨h2, o, h3, h4⟩ := hr c.1 e.symm
    rw [h1] at h3
    have h5 : c.2 = o := Option.some.inj h3
    rcases hL c hc with h6 | h6
    · rw [h5, h4] at h6; cases h6
    · omega, h.2⟩
end
end Go.Proofs.Ytdoinfpkfbfjaaa
