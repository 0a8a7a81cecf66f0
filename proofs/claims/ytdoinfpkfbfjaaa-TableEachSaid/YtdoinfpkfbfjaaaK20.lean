/- The range over a function, for a caller that says its memory as a list of its own blocks. -/
import Derived.Test.YtdoinfpkfbfjaaaK17
import Derived.Test.YtdoinfpkfbfjaaaK19
set_option linter.unusedVariables false
namespace Go.Proofs.Ytdoinfpkfbfjaaa
open Go.RowKit
section
variable {P : Program} {N l n D : Nat} {Q Q' : Exit → Act → World → Prop} {env : Env} {w w0 : World} {X : List Nat} {L L' : List (Nat × Obj)}
theorem SatF.mono {c : Code} (h : SatF l n P N c Q env w) (hq : ∀ e a w', Q e a w' → Q' e a w') : SatF l n P N c Q' env w := ⟨fun a ha => Go.wpIn_mono (h.out a ha) hq⟩
/-- How a round's body may be left: at a state of the loop's, told by a datum. -/
def roundPost {α G : Type} (Pr : List α → G → Prop) (Px : Code → List α → G → Prop) (Lg : G → List (Nat × Obj)) (xs : List α) (bs : List Nat) (W : World) : Exit → Act → World → Prop
  | .normal, _, W' => ∃ g, Pr xs g ∧ St W bs (Lg g) W'
  | .ret, _, W' => ∃ g, Px .ret xs g ∧ St W bs (Lg g) W'
  | .exit id, _, W' => ∃ g, Px (.exit id) xs g ∧ St W bs (Lg g) W'
  | _, _, _ => False
section
variable {α G : Type} {Pr : List α → G → Prop} {Px : Code → List α → G → Prop} {Lg : G → List (Nat × Obj)} {xs : List α} {bs : List Nat} {W : World}
theorem SatE.round (g : G) (hp : Pr xs g) (hS : St W bs (Lg g) w) : SatE N (roundPost Pr Px Lg xs bs W) .normal env w := ⟨fun _ _ => ⟨g, hp, hS⟩⟩
theorem SatE.roundRet (g : G) (hp : Px .ret xs g) (hS : St W bs (Lg g) w) : SatE N (roundPost Pr Px Lg xs bs W) .ret env w := ⟨fun _ _ => ⟨g, hp, hS⟩⟩
theorem SatE.roundExit {id : Nat} (g : G) (hp : Px (.exit id) xs g) (hS : St W bs (Lg g) w) : SatE N (roundPost Pr Px Lg xs bs W) (.exit id) env w := ⟨fun _ _ => ⟨g, hp, hS⟩⟩
end
/-- What the assign code leaves: the loop variables' slots and blocks. -/
def laidPost {A : Type} (N : Nat) (E : A → Env) (La : A → List (Nat × Obj)) (L : List (Nat × Obj)) (W : World) : Act → World → Prop := fun a' W' => ∃ a, Ag N (E a) a' ∧ St W (L.map Prod.fst) (La a ++ L) W'
theorem SatE.laid {A : Type} {E : A → Env} {La : A → List (Nat × Obj)} {W : World} (a : A) (hS : St W (L.map Prod.fst) (La a ++ L) w) (hs : EnvSub env (E a)) : SatE N (Exit.then (laidPost N E La L W) (fun _ _ _ => False)) .normal env w := ⟨fun c hc => ⟨a, hc.weak hs.look, hS⟩⟩
/-- One's own memory, in a world where another list of one's own blocks lies. -/
theorem St.whole {w' : World} (h : St w0 X L w) (h' : St w (L.map Prod.fst) L' w') : St w0 X L' w' := by
  have := St.call (A := L) (A' := L') (B := []) (by rw [List.append_nil]; exact h) h'
  rwa [List.append_nil] at this
theorem own_append {A L L' : List (Nat × Obj)} (h : Own w (A ++ L')) (h' : Own w L) (hd : ∀ c ∈ L, c.1 ∈ L'.map Prod.fst) : Own w (A ++ L) := by
  have h1 := h.2
  rw [List.map_append, List.nodup_append] at h1
  refine ⟨fun c hc => ?_, ?_⟩
  · rcases List.mem_append.1 hc with hc | hc
    · exact h.1 c (List.mem_append_left _ hc)
    · exact h'.1 c hc
  · rw [List.map_append, List.nodup_append]
    refine ⟨h1.1, h'.2, fun a ha b hb e => ?_⟩
    obtain ⟨c, hc, rfl⟩ := List.mem_map.1 hb
    exact h1.2.2 a ha c.1 (hd c hc) e
theorem low_append {B : Nat} {A L : List (Nat × Obj)} (hA : ∀ c ∈ A, c.2.isCells = true) (hL : Low B L) : Low B (A ++ L) := fun c hc => by
  rcases List.mem_append.1 hc with hc | hc
  · exact .inl (hA c hc)
  · exact hL c hc
theorem low_sub {B : Nat} (hL : Low B L) (h : ∀ c ∈ L', c ∈ L) : Low B L' := fun c hc => hL c (h c hc)
/-- The mark's block is none of one's own. -/
theorem St.mark {B : Nat} {o : Obj} (hS : St w0 X L w) (hL : Low B L) (hB : w0.heap.size ≤ B) (hD : B ≤ D) (h : w.heap[D]? = some o) (ho : o.isCells = false) : St w0 X ((D, o) :: L) w := by
  refine ⟨hS.os, hS.tape, hS.output, hS.size, hS.old, fun c hc => ?_, ?_, fun c hc => ?_⟩
  · rcases List.mem_cons.1 hc with rfl | hc
    · exact h
    · exact hS.own c hc
  · rw [List.map_cons, List.nodup_cons]
    refine ⟨fun hm => ?_, hS.nd⟩
    obtain ⟨c, hc, e⟩ := List.mem_map.1 hm
    have h1 := hS.own c hc
    dsimp only at e
    rw [e, h] at h1
    have h2 : o = c.2 := Option.some.inj h1
    rcases hL c hc with h3 | h3
    · rw [← h2, ho] at h3; cases h3
    · omega
  · rcases List.mem_cons.1 hc with rfl | hc
    · exact .inr (Nat.le_trans hB hD)
    · exact hS.wr c hc
theorem SatC.rangeOwn {α G A : Type} {gop : Operand} {ps : Array Tmp} {assign body : Code} {gf : Nat} {lb : List Value} {encs : α → Array Value} {S Sp : List α → Prop} {M : Nat} {R : List (Nat × Obj)}
    (Pr : List α → G → Prop) (Px : Code → List α → G → Prop) (Lg : G → List (Nat × Obj)) (La : α → A → List (Nat × Obj)) (V : α → A → Env) (Cn : Env) (g0 : G) (hcn : EnvSub env Cn)
    (hseq : SeqStopsK Fence.wide 7 P gf lb.toArray encs (Stays R) S Sp M w)
    (hS : St w0 X (Lg g0) w) (hP0 : Pr [] g0)
    (hg : evO env gop = some (.func (.func gf) #[] lb.toArray)) (hent : enters P gf = true) (hps : ∀ x, (encs x).size = ps.size) (hpN : ps.toList.all (Nat.blt · N) = true)
    (hLow : ∀ pre g, Pr pre g → Low w.heap.size (Lg g)) (hLowx : ∀ c pre g, Px c pre g → Low w.heap.size (Lg g)) (hLa : ∀ x a, ∀ c ∈ La x a, c.2.isCells = true)
    (hdet : ∀ pre g pre' g' W, Pr pre g → Pr pre' g' → Own W (Lg g) → Own W (Lg g') → ∀ c ∈ Lg g, c.1 ∈ (Lg g').map Prod.fst)
    (hR : ∀ pre g, Pr pre g → ∀ c ∈ R, c ∈ Lg g)
    (hassign : ∀ l pre x g W, Pr pre g → Own W (Lg g) → SatF l 6 P N assign (Exit.then (laidPost N (fun a => V x a ++ Cn) (La x) (Lg g) W) (fun _ _ _ => False)) ((ps.toList.zip (encs x).toList).reverse ++ env) W)
    (hbody : ∀ l pre x a g W, Pr pre g → Own W (La x a ++ Lg g) → pre.length < M → SatF l 6 P N body (roundPost Pr Px Lg (pre ++ [x]) ((La x a ++ Lg g).map Prod.fst) W) (V x a ++ Cn) W)
    (hdone : ∀ D xs g W, S xs → Pr xs g → St w0 X ((D, .deferred (some [])) :: Lg g) W → SatEM D N Q .normal env W)
    (hstop : ∀ D c pre g W, Sp pre → Px c pre g → St w0 X ((D, .deferred (some [])) :: Lg g) W → SatM D P N c Q env W) :
    SatC P N (.rangeFunc gop ps assign body) Q env w := by
  have hB : w0.heap.size ≤ w.heap.size := hS.size
  have hRlt : ∀ c ∈ R, c.1 < w.heap.size := fun c hc => hS.lt (hR [] g0 hP0 c hc)
  refine SatC.rangeFunc (α := α) (G := A) (gf := gf) (lb := lb) (encs := encs) (Kp := Stays R) (M := M) (w0 := w) hg hent hseq stays_trans (fun W l o o' h1 h2 h3 h4 => stays_putObj hRlt W l o o' h1 h2 h3 h4) (Below.refl _ w) hps
    (fun p hp => by simpa [Nat.blt_eq] using List.all_eq_true.1 hpN p hp)
    (fun pre W => ∃ g, Pr pre g ∧ St w0 X (Lg g) W) (fun c pre W => ∃ g, Px c pre g ∧ St w0 X (Lg g) W)
    (fun s W W' row hs hg hr => by obtain ⟨g, h1, h2⟩ := hs; exact ⟨g, h1, h2.grown (hLow _ _ h1) hB hg hr⟩)
    (fun c s W W' row hs hg hr => by obtain ⟨g, h1, h2⟩ := hs; exact ⟨g, h1, h2.grown (hLowx _ _ _ h1) hB hg hr⟩)
    ⟨g0, hP0, hS⟩ (fun x a => V x a ++ Cn) (fun x a W => ∃ pre g, Pr pre g ∧ St w0 X (La x a ++ Lg g) W)
    (fun x a s W W' row hs hg hr => by obtain ⟨pre, g, h1, h2⟩ := hs; exact ⟨pre, g, h1, h2.grown (low_append (hLa x a) (hLow _ _ h1)) hB hg hr⟩)
    ?_ ?_ ?_ ?_
  · rintro l pre x W ⟨g, hp, hs⟩
    refine (hassign l pre x g W hp hs.toOwn).mono fun e a' W' he => ?_
    cases e with
    | normal =>
      obtain ⟨a, ha, hs'⟩ := he
      refine ⟨⟨a, ha, pre, g, hp, hs.whole hs'⟩, hs'.keepsFrom hs.toOwn (hLow _ _ hp), hs'.stays (fun c hc => List.mem_append_right _ (hR _ _ hp c hc)), g, hp, ?_⟩
      exact (hs.whole hs').sub (List.sublist_append_right _ _)
    | _ => exact he
  · rintro l pre x a W hl hr ⟨g, hp, hs⟩ ⟨pre', g', hp', hs'⟩ hlen
    have hown : Own W (La x a ++ Lg g) := own_append hs'.toOwn hs.toOwn (hdet _ _ _ _ W hp hp' hs.toOwn (hs'.sub (List.sublist_append_right _ _)).toOwn)
    have hs2 : St w0 X (La x a ++ Lg g) W := ⟨hs.os, hs.tape, hs.output, hs.size, hs.old, hown.1, hown.2, fun c hc => by
      rcases List.mem_append.1 hc with hc | hc
      · exact hs'.wr c (List.mem_append_left _ hc)
      · exact hs.wr c hc⟩
    have hlow := low_append (hLa x a) (hLow _ _ hp)
    refine (hbody l pre x a g W hp hown hlen).mono fun e a' W' he => ?_
    cases e with
    | normal =>
      obtain ⟨g2, hp2, hs3⟩ := he
      exact ⟨hs3.keepsFrom hown hlow, hs3.stays (hR _ _ hp2), g2, hp2, hs2.whole hs3⟩
    | ret =>
      obtain ⟨g2, hp2, hs3⟩ := he
      exact ⟨hs3.keepsFrom hown hlow, g2, hp2, hs2.whole hs3⟩
    | exit id =>
      obtain ⟨g2, hp2, hs3⟩ := he
      exact ⟨hs3.keepsFrom hown hlow, g2, hp2, hs2.whole hs3⟩
    | _ => exact he.elim
  · rintro D xs W hD hs ⟨g, hp, h⟩ hm
    exact hdone D xs g W hs hp (h.mark (hLow _ _ hp) hB hD hm rfl)
  · rintro D c pre W hD hs ⟨g, hp, h⟩ hm
    exact hstop D c pre g W hs hp (h.mark (hLowx _ _ _ hp) hB hD hm rfl)
/-! ### Behind the loop -/
theorem SatM.cond_t {c : Operand} {x y : Code} (hc : evO env c = some (.bool true)) (h1 : SatM D P N x Q env w) : SatM D P N (.cond c x y) Q env w := SatM.cond hc (fun _ => h1) (fun h => by cases h)
theorem SatM.cond_f {c : Operand} {x y : Code} (hc : evO env c = some (.bool false)) (h2 : SatM D P N y Q env w) : SatM D P N (.cond c x y) Q env w := SatM.cond hc (fun h => by cases h) (fun _ => h2)
theorem SatM.weak {c : Code} {e' : Env} (hs : EnvSub env e') (h : SatM D P N c Q e' w) : SatM D P N c Q env w := ⟨fun a ha hd => h.out a (ha.weak hs.look) hd⟩
theorem SatEM.weak {x : Exit} {e' : Env} (hs : EnvSub env e') (h : SatEM D N Q x e' w) : SatEM D N Q x env w := ⟨fun a ha hd => h.out a (ha.weak hs.look) hd⟩
theorem SatM.block {id : Nat} {c : Code} (h : SatM D P N c (Exit.inBlock id Q) env w) : SatM D P N (.block id c) Q env w := ⟨fun a ha hd => wp_block (h.out a ha hd)⟩
theorem SatM.exit {id : Nat} (h : SatEM D N Q (.exit id) env w) : SatM D P N (.exit id) Q env w := ⟨fun a ha hd => wp_exit (h.out a ha hd)⟩
theorem SatEM.then_exit {K : Act → World → Prop} {id : Nat} (h : SatEM D N Q (.exit id) env w) : SatEM D N (Exit.then K Q) (.exit id) env w := ⟨h.out⟩
theorem SatEM.blk_ret {id : Nat} (h : SatEM D N Q .ret env w) : SatEM D N (Exit.inBlock id Q) .ret env w := ⟨h.out⟩
theorem SatEM.blk_exit {id : Nat} (h : SatEM D N Q .normal env w) : SatEM D N (Exit.inBlock id Q) (.exit id) env w := ⟨fun a ha hd => by simpa [Exit.inBlock] using h.out a ha hd⟩
theorem SatEM.blk_other {id id' : Nat} (hn : Nat.beq id' id = false) (h : SatEM D N Q (.exit id') env w) : SatEM D N (Exit.inBlock id Q) (.exit id') env w := ⟨fun a ha hd => by
  have : ¬ id' = id := fun e => by subst e; simp at hn
  simpa [Exit.inBlock, this] using h.out a ha hd⟩
theorem SatLM.guard {ops : Array Oper} {d : Nat} {op : Op} {ty : TypeId} {pos : String} {af : Array Edge} {j t : Nat} {b c : Bool} {rest : List Oper} (hd : (ops[j]?).bind (·.dst) = some t) (hv : env.lookup t = some (.bool c)) (hdd : Nat.blt d N = true)
    (h1 : c = b → SatLM D P N ops Q (⟨some d, op, ty, pos, af, none⟩ :: rest) ((t, .bool b) :: env) w) (h2 : c = (!b) → SatLM D P N ops Q rest ((d, undef) :: (t, .bool (!b)) :: env) w) : SatLM D P N ops Q (⟨some d, op, ty, pos, af, some (j, b)⟩ :: rest) env w := by
  refine ⟨fun a ha hD => ?_⟩
  have hy : yielded ops a.tmps j = some c := by
    have : a.tmps[t]? = _ := ha.2.2 t _ hv
    simp [yielded, hd, this]
  by_cases e : c = b
  · have := (h1 e).out a (ha.alt (e ▸ hv)) hD
    unfold wpList at this ⊢
    rw [if_pos (by simp [Region.wanted, hy, e])]
    rw [if_pos (by simp [Region.wanted])] at this
    exact this
  · have hc : c = !b := by cases b <;> cases c <;> simp_all
    unfold wpList
    rw [if_neg (by simp [Region.wanted, hy, e])]
    exact (h2 hc).out _ (by rw [← bare_put]; exact (ha.alt (hc ▸ hv)).put (by simpa [Nat.blt_eq] using hdd)) (by rw [put_defers]; exact hD)
theorem SatLM.guard_y {ops : Array Oper} {d : Option Nat} {op : Op} {ty : TypeId} {pos : String} {af : Array Edge} {j t : Nat} {b : Bool} {rest : List Oper} (hd : (ops[j]?).bind (·.dst) = some t) (hv : env.lookup t = some (.bool b))
    (h1 : SatLM D P N ops Q (⟨d, op, ty, pos, af, none⟩ :: rest) env w) : SatLM D P N ops Q (⟨d, op, ty, pos, af, some (j, b)⟩ :: rest) env w := by
  refine ⟨fun a ha hD => ?_⟩
  have hy : yielded ops a.tmps j = some b := by
    have : a.tmps[t]? = _ := ha.2.2 t _ hv
    simp [yielded, hd, this]
  have := h1.out a ha hD
  unfold wpList at this ⊢
  rw [if_pos (by simp [Region.wanted, hy])]
  rw [if_pos (by simp [Region.wanted])] at this
  exact this
theorem SatLM.guard_n {ops : Array Oper} {d : Nat} {op : Op} {ty : TypeId} {pos : String} {af : Array Edge} {j t : Nat} {b c : Bool} {rest : List Oper} (hd : (ops[j]?).bind (·.dst) = some t) (hv : env.lookup t = some (.bool c)) (hn : (c == b) = false) (hdd : Nat.blt d N = true)
    (h1 : SatLM D P N ops Q rest ((d, undef) :: env) w) : SatLM D P N ops Q (⟨some d, op, ty, pos, af, some (j, b)⟩ :: rest) env w := by
  refine ⟨fun a ha hD => ?_⟩
  have hy : yielded ops a.tmps j = some c := by
    have : a.tmps[t]? = _ := ha.2.2 t _ hv
    simp [yielded, hd, this]
  unfold wpList
  rw [if_neg (by simpa [Region.wanted, hy] using hn)]
  exact h1.out _ (by rw [← bare_put]; exact ha.put (by simpa [Nat.blt_eq] using hdd)) (by rw [put_defers]; exact hD)
theorem SatF.weakE {x : Exit} {e' : Env} (hs : EnvSub env e') (h : SatE N Q x e' w) : SatE N Q x env w := SatE.weak hs h
/-- The mark's block is turned at the function's return. -/
theorem St.unmark {o o' : Obj} (hS : St w0 X L w) (hr : RemB [(D, o)] L L') : St w0 X L' (w.putObj D o') := by
  have h := hS.rem hr
  rw [List.cons_append, List.nil_append] at h
  have hlt : D < w.heap.size := h.lt (c := (D, o)) List.mem_cons_self
  have := h.setObj (w' := w.putObj D o') (o' := o') rfl rfl rfl (by simp) (World.putObj_heap_same hlt) (fun k hk => World.putObj_heap_other hk)
  exact this.sub (List.sublist_cons_self _ _)
theorem SatEM.retX {fn : Func} {R : Value → World → Prop} {v : Value} (hv : ∀ a w, Ag N env (bare a) → (results fn a.tmps).run P w = .ok v w) (hS : St w0 X L w) (hr : RemB [(D, .deferred (some []))] L L') (h : ∀ w', St w0 X L' w' → R v w') :
    SatEM D N (bodyPostM Fence.wide 8 P fn fun e w' => ∃ v, e = .returned v ∧ R v w') .ret env w :=
  ⟨fun a ha hd => by
    show LeavesInM Fence.wide 8 P fn a.tmps _ a.defers .returning w
    rw [hd]
    have hD : w.heap[D]? = some (.deferred (some [])) := (hS.rem hr).own (D, .deferred (some [])) (by simp)
    refine ⟨by simp, .inl ⟨D, _, rfl, run_takeDeferred hD, ?_⟩⟩
    exact ⟨v, hv a _ ha, _, rfl, h _ (hS.unmark hr)⟩⟩
theorem SatEM.finX {fn : Func} {R : Value → World → Prop} {v : Value} (hv : ∀ a w, Ag N env (bare a) → (results fn a.tmps).run P w = .ok v w) (hS : St w0 X L w) (hr : RemB [(D, .deferred (some []))] L L') (h : ∀ w', St w0 X L' w' → R v w') :
    SatEM D N (bodyPostM Fence.wide 8 P fn fun e w' => ∃ v, e = .returned v ∧ R v w') .normal env w := ⟨fun a ha hd => (SatEM.retX hv hS hr h).out a ha hd⟩
theorem SatEM.ret1S {fn : Func} {R : Value → World → Prop} {t : Nat} {v : Value} (hS : St w0 X L w) (hr : fn.results = #[.tmp t]) (hv : env.lookup t = some v) (hm : RemB [(D, .deferred (some []))] L L') (h : ∀ w', St w0 X L' w' → R v w') :
    SatEM D N (bodyPostM Fence.wide 8 P fn fun e w' => ∃ v, e = .returned v ∧ R v w') .ret env w :=
  SatEM.retX (fun a w ha => by rw [results_tmp hr, show a.tmps.getD t undef = v from ha.getD hv]) hS hm h
theorem SatEM.ret2S {fn : Func} {R : Value → World → Prop} {t u : Nat} {v x : Value} (hS : St w0 X L w) (hr : fn.results = #[.tmp t, .tmp u]) (hv : env.lookup t = some v) (hx : env.lookup u = some x) (hm : RemB [(D, .deferred (some []))] L L') (h : ∀ w', St w0 X L' w' → R (.tuple #[v, x]) w') :
    SatEM D N (bodyPostM Fence.wide 8 P fn fun e w' => ∃ v, e = .returned v ∧ R v w') .ret env w :=
  SatEM.retX (fun a w ha => by rw [results_tmp2 hr, show a.tmps.getD t undef = v from ha.getD hv, show a.tmps.getD u undef = x from ha.getD hx]) hS hm h
theorem SatEM.ret0S {fn : Func} {R : Value → World → Prop} (hS : St w0 X L w) (hr : fn.results = #[]) (hm : RemB [(D, .deferred (some []))] L L') (h : ∀ w', St w0 X L' w' → R (.tuple #[]) w') :
    SatEM D N (bodyPostM Fence.wide 8 P fn fun e w' => ∃ v, e = .returned v ∧ R v w') .ret env w := SatEM.retX (fun a w ha => results_none hr _ _ _) hS hm h
theorem SatEM.fin0S {fn : Func} {R : Value → World → Prop} (hS : St w0 X L w) (hr : fn.results = #[]) (hm : RemB [(D, .deferred (some []))] L L') (h : ∀ w', St w0 X L' w' → R (.tuple #[]) w') :
    SatEM D N (bodyPostM Fence.wide 8 P fn fun e w' => ∃ v, e = .returned v ∧ R v w') .normal env w := SatEM.finX (fun a w ha => results_none hr _ _ _) hS hm h
theorem SatE.retM2 {fn : Func} {R : Value → World → Prop} {t u : Nat} {v x : Value} (hr : fn.results = #[.tmp t, .tmp u]) (hv : env.lookup t = some v) (hx : env.lookup u = some x) (h : R (.tuple #[v, x]) w) : SatE N (bodyPostM Fence.wide 8 P fn fun e w' => ∃ v, e = .returned v ∧ R v w') .ret env w :=
  ⟨fun a ha => by
    show LeavesInM Fence.wide 8 P fn a.tmps _ a.defers .returning w
    rw [ha.2.1]
    exact ⟨.tuple #[v, x], by rw [results_tmp2 hr, ha.getD hv, ha.getD hx], _, rfl, h⟩⟩
theorem SatE.retM0 {fn : Func} {R : Value → World → Prop} (hr : fn.results = #[]) (h : R (.tuple #[]) w) : SatE N (bodyPostM Fence.wide 8 P fn fun e w' => ∃ v, e = .returned v ∧ R v w') .ret env w :=
  ⟨fun a ha => by
    show LeavesInM Fence.wide 8 P fn a.tmps _ a.defers .returning w
    rw [ha.2.1]
    exact ⟨.tuple #[], results_none hr _ _ _, _, rfl, h⟩⟩
/-- Two readings of one slice of one's own, in one world, lie in the same blocks. -/
theorem Sl.det {T k : Nat} {v : Value} {r r' : List (List Value)} {B B' : List (Nat × Obj)} (h : Sl T k v r B) (h' : Sl T k v r' B') : ∀ c ∈ B, c.1 ∈ B'.map Prod.fst := by
  cases h with
  | nil => intro c hc; cases hc
  | @own g cap cur rows h1 h2 h3 h4 h5 =>
    generalize hv : Value.slice (some ⟨g, 0, none⟩) r.length cap = v at h'
    cases h' with
    | nil => cases hv
    | @own g' cap' cur' rows' h1' h2' h3' h4' h5' =>
      injection hv with e1
      injection e1 with e2
      injection e2 with e3
      subst e3
      intro c hc
      simp only [List.mem_singleton] at hc
      subst hc
      simp
/-- A slice of one's own is stored in a variable. -/
theorem OpW.storeSv {t T T' k : TypeId} {x y : Operand} {b o : Nat} {cs cs' : List Value} {v : Value} {rows : List (List Value)} {B : List (Nat × Obj)} {K : Env → World → Prop} {ty : TypeId} {pos : String} {af : Array Edge} {g : Option (Nat × Bool)} (hS : St w0 X L w) (hx : evO env x = some (.pointer (some ⟨b, o, none⟩))) (hy : evO env y = some v) (hsl : Sl T' k v rows B) (hm : Repl L b (C T cs) (C T cs') L') (hset : IsSet cs o [v] cs')
    (hsz : (P.info? t).map (·.size) = some 1) (h : ∀ w', St w0 X L' w' → K env w') : OpW P N ⟨none, .store t x y, ty, pos, af, g⟩ env w K :=
  OpW.store hS hx hy (.one hsl.one) hm hset hsz (by simp [hsl.one]) h
theorem Low.nil {B : Nat} : Low B [] := fun c hc => by cases hc
theorem Low.cell {B b T : Nat} {cs : List Value} (h : Low B L) : Low B ((b, C T cs) :: L) := fun c hc => by
  rcases List.mem_cons.1 hc with rfl | hc
  · exact .inl rfl
  · exact h c hc
theorem Low.lt {B : Nat} {c : Nat × Obj} (h1 : c.1 < B) (h : Low B L) : Low B (c :: L) := fun d hd => by
  rcases List.mem_cons.1 hd with rfl | hd
  · exact .inr h1
  · exact h d hd
theorem Low.app {B : Nat} (h : Low B L) (h' : Low B L') : Low B (L ++ L') := fun c hc => by
  rcases List.mem_append.1 hc with hc | hc
  · exact h c hc
  · exact h' c hc
theorem Sl.low {B T k : Nat} {v : Value} {r : List (List Value)} {A : List (Nat × Obj)} (h : Sl T k v r A) : Low B A := by
  cases h with
  | nil => exact .nil
  | own => exact .cell .nil
theorem St.low (hS : St w0 X L w) : Low w.heap.size L := fun c hc => .inr (hS.lt hc)
def Among (L L' : List (Nat × Obj)) : Prop := ∀ c ∈ L, c.1 ∈ L'.map Prod.fst
theorem Among.refl : Among L L := fun c hc => List.mem_map_of_mem hc
theorem Among.cons {b : Nat} {o o' : Obj} (h : Among L L') : Among ((b, o) :: L) ((b, o') :: L') := fun c hc => by
  rcases List.mem_cons.1 hc with rfl | hc
  · exact List.mem_cons_self
  · exact List.mem_cons_of_mem _ (h c hc)
theorem Among.app {A A' : List (Nat × Obj)} (h : Among A A') (h' : Among L L') : Among (A ++ L) (A' ++ L') := fun c hc => by
  rw [List.map_append]
  rcases List.mem_append.1 hc with hc | hc
  · exact List.mem_append_left _ (h c hc)
  · exact List.mem_append_right _ (h' c hc)
theorem Among.sl {T k : Nat} {v v' : Value} {r r' : List (List Value)} {B B' : List (Nat × Obj)} (e : v = v') (h : Sl T k v r B) (h' : Sl T k v' r' B') : Among B B' := by
  subst e
  exact h.det h'
theorem Own.val {b : Nat} {T : TypeId} {cs cs' : List Value} (h : Own w L) (h' : Own w L') (hm : (b, C T cs) ∈ L) (hm' : (b, C T cs') ∈ L') : cs = cs' := by
  have h1 := h.1 _ hm
  have h2 := h'.1 _ hm'
  dsimp only at h1 h2
  rw [h1] at h2
  injection h2 with h3
  injection h3 with h4
  exact List.toArray_inj h4
theorem Own.val1 {b : Nat} {T : TypeId} {v v' : Value} (h : Own w ((b, C T [v]) :: L)) (h' : Own w ((b, C T [v']) :: L')) : v = v' := by
  have := Own.val h h' List.mem_cons_self List.mem_cons_self
  injection this
end
end Go.Proofs.Ytdoinfpkfbfjaaa
