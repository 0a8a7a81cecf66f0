/- The small laws of a walk: codes, regions in one order, and the operations. Over any program; no condition. -/
import Derived.Test.YtdoinfpkfbfjaaaK3
import Derived.Laws.CopyRow
import Derived.Deep.MidRow
set_option linter.unusedVariables false
namespace Go.Proofs.Ytdoinfpkfbfjaaa
open Go.RowKit

/-- A contract: the call returns, and R holds of what it returns and of the world behind. -/
def Ret (P : Program) (f : FuncId) (args : Array Value) (w : World) (R : Value → World → Prop) : Prop := Calls P f args w fun e w' => ∃ v, e = .returned v ∧ R v w'
theorem Ret.mono {P : Program} {f : FuncId} {args : Array Value} {w : World} {R R' : Value → World → Prop} (h : Ret P f args w R) (hr : ∀ v w', R v w' → R' v w') : Ret P f args w R' :=
  Calls.mono h fun _ _ ⟨v, e, r⟩ => ⟨v, e, hr _ _ r⟩

section
variable {P : Program} {N : Nat} {Q : Exit → Act → World → Prop} {env : Env} {w : World}

structure SatC (P : Program) (N : Nat) (c : Code) (Q : Exit → Act → World → Prop) (env : Env) (w : World) : Prop where mk :: (out : ∀ a, Ag N env a → c.wp P Q a w)
structure SatE (N : Nat) (Q : Exit → Act → World → Prop) (x : Exit) (env : Env) (w : World) : Prop where mk :: (out : ∀ a, Ag N env a → Q x a w)
structure SatL (P : Program) (N : Nat) (ops : Array Oper) (Q : Exit → Act → World → Prop) (rest : List Oper) (env : Env) (w : World) : Prop where mk :: (out : ∀ a, Ag N env a → wpList P ops Q rest a w)
/-- What an operation's run comes to, and what holds of the slots then. -/
inductive OpRes (P : Program) (N : Nat) (o : Oper) (a : Act) (w : World) (K : Env → World → Prop) : Prop
  | val {v : Value} {w' : World} {env' : Env} : (execOp a.eval o).run P w = .ok (.value v) w' → K env' w' → Ag N env' (a.put o.dst v) → OpRes P N o a w K
  | skip {w' : World} {env' : Env} : (execOp a.eval o).run P w = .ok .skip w' → K env' w' → Ag N env' (a.put o.dst undef) → OpRes P N o a w K
  | enter {f : FuncId} {args : Array Value} {R : Value → World → Prop} : (execOp a.eval o).run P w = .ok (.enter f args) w → Ret P f args w R → (∀ v w', R v w' → ∃ env', K env' w' ∧ Ag N env' (a.put o.dst v)) → OpRes P N o a w K
structure OpW (P : Program) (N : Nat) (o : Oper) (env : Env) (w : World) (K : Env → World → Prop) : Prop where mk :: (res : ∀ a, Ag N env a → OpRes P N o a w K)
theorem OpW.out {o : Oper} {K : Env → World → Prop} (h : OpW P N o env w K) (a : Act) (Q : Exit → Act → World → Prop) (K' : Act → World → Prop) (ha : Ag N env a) (hK : ∀ env' a' w', K env' w' → Ag N env' a' → K' a' w') : o.wp P a w K' Q := by
  cases h.res a ha with
  | val hv hk hA =>
    unfold Oper.wp
    rw [hv]
    exact hK _ _ _ hk hA
  | skip hv hk hA =>
    unfold Oper.wp
    rw [hv]
    exact hK _ _ _ hk hA
  | enter hv hc hR =>
    unfold Oper.wp
    rw [hv, Oper.upon_enter]
    refine Calls.mono hc fun e w' ⟨v, he, hr⟩ => ?_
    subst he
    obtain ⟨env', hk, hA⟩ := hR v w' hr
    exact hK _ _ _ hk hA

theorem Ret.enter {f : FuncId} {fn : Func} {c : Code} {args : List Value} {R : Value → World → Prop} (hf : P.funcs[f]? = some fn) (hN : fn.ntmps = N) (hb : fn.body = some c) (ha : Nat.ble args.length N = true)
    (h : SatC P N c (bodyPost P fn fun e w' => ∃ v, e = .returned v ∧ R v w') (argEnv 0 args) w) : Ret P f args.toArray w R := by
  subst hN
  exact calls_of_wp hf hb (h.out _ (Ag.init args.toArray (by simpa [Nat.ble_eq] using ha)))

/-- What a test's outcome says. -/
theorem cx : (∀ (p : Prop) [Decidable p], (decide p = true) = p) ∧ (∀ (p : Prop) [Decidable p], (decide p = false) = ¬ p) ∧ ((!true) = false) ∧ ((!false) = true) ∧ (∀ b : Bool, ((!b) = true) = (b = false)) ∧ (∀ b : Bool, ((!b) = false) = (b = true)) ∧ (∀ a b : Bool, ((a == b) = true) = (a = b)) ∧ (∀ a b : Bool, ((a == b) = false) = ¬ (a = b)) ∧ (∀ a b : Bool, ((a != b) = true) = ¬ (a = b)) ∧ (∀ a b : Bool, ((a != b) = false) = (a = b)) ∧ (∀ a b : Int, (¬ a < b) = (b ≤ a)) ∧ (∀ a b : Int, (¬ a ≤ b) = (b < a)) ∧ (∀ p : Prop, (¬ ¬ p) = p) :=
  ⟨fun p _ => by simp, fun p _ => by simp, rfl, rfl, fun b => by simp, fun b => by simp, fun a b => by simp, fun a b => by simp, fun a b => by simp, fun a b => by simp, fun a b => by simp, fun a b => by simp, fun p => by simp⟩
/-! ### Codes -/
theorem SatC.seq {x y : Code} (h : SatC P N x (Exit.then (y.wp P Q) Q) env w) : SatC P N (.seq x y) Q env w := ⟨fun a ha => wp_seq (h.out a ha)⟩
theorem SatC.skip (h : SatE N Q .normal env w) : SatC P N .skip Q env w := ⟨fun a ha => wp_skip (h.out a ha)⟩
theorem SatC.ret (h : SatE N Q .ret env w) : SatC P N .ret Q env w := ⟨fun a ha => wp_ret (h.out a ha)⟩
theorem SatC.exit {id : Nat} (h : SatE N Q (.exit id) env w) : SatC P N (.exit id) Q env w := ⟨fun a ha => wp_exit (h.out a ha)⟩
theorem SatC.block {id : Nat} {c : Code} (h : SatC P N c (Exit.inBlock id Q) env w) : SatC P N (.block id c) Q env w := ⟨fun a ha => wp_block (h.out a ha)⟩
theorem SatC.region {id : Nat} {l : List Oper} (h : SatL P N l.toArray Q l env w) : SatC P N (.region id l.toArray false) Q env w := ⟨fun a ha => wp_region_lit (h.out a ha)⟩
theorem SatC.cond {c : Operand} {x y : Code} {b : Bool} (hc : evO env c = some (.bool b)) (h1 : b = true → SatC P N x Q env w) (h2 : b = false → SatC P N y Q env w) : SatC P N (.cond c x y) Q env w :=
  ⟨fun a ha => wp_cond (t := b) (ha.ev hc) (by cases b <;> first | exact (h1 rfl).out a ha | exact (h2 rfl).out a ha)⟩
theorem SatC.cond_t {c : Operand} {x y : Code} (hc : evO env c = some (.bool true)) (h1 : SatC P N x Q env w) : SatC P N (.cond c x y) Q env w := SatC.cond hc (fun _ => h1) (fun h => by cases h)
theorem SatC.cond_f {c : Operand} {x y : Code} (hc : evO env c = some (.bool false)) (h2 : SatC P N y Q env w) : SatC P N (.cond c x y) Q env w := SatC.cond hc (fun h => by cases h) (fun _ => h2)
theorem SatE.thenC {y : Code} (h : SatC P N y Q env w) : SatE N (Exit.then (y.wp P Q) Q) .normal env w := ⟨h.out⟩
theorem SatE.then_ret {K : Act → World → Prop} (h : SatE N Q .ret env w) : SatE N (Exit.then K Q) .ret env w := ⟨h.out⟩
theorem SatE.then_exit {K : Act → World → Prop} {id : Nat} (h : SatE N Q (.exit id) env w) : SatE N (Exit.then K Q) (.exit id) env w := ⟨h.out⟩
theorem SatE.blk_normal {id : Nat} (h : SatE N Q .normal env w) : SatE N (Exit.inBlock id Q) .normal env w := ⟨h.out⟩
theorem SatE.blk_ret {id : Nat} (h : SatE N Q .ret env w) : SatE N (Exit.inBlock id Q) .ret env w := ⟨h.out⟩
theorem SatE.blk_exit {id : Nat} (h : SatE N Q .normal env w) : SatE N (Exit.inBlock id Q) (.exit id) env w := ⟨fun a ha => by simpa [Exit.inBlock] using h.out a ha⟩
theorem SatE.blk_other {id id' : Nat} (hn : Nat.beq id' id = false) (h : SatE N Q (.exit id') env w) : SatE N (Exit.inBlock id Q) (.exit id') env w := ⟨fun a ha => by
  have : ¬ id' = id := fun e => by subst e; simp at hn
  simpa [Exit.inBlock, this] using h.out a ha⟩

inductive EnvSub (env : Env) : Env → Prop
  | nil : EnvSub env []
  | cons {t : Nat} {v : Value} {r : Env} : env.lookup t = some v → EnvSub env r → EnvSub env ((t, v) :: r)
theorem EnvSub.look {env : Env} {e' : Env} (hs : EnvSub env e') : ∀ t v, e'.lookup t = some v → env.lookup t = some v := by
  induction hs with
  | nil => intro t v h; simp at h
  | @cons t' v' r h1 _ ih =>
    intro t v h
    simp only [List.lookup_cons] at h
    by_cases e : t = t'
    · subst e
      simp only [beq_self_eq_true] at h
      obtain rfl : v' = v := by simpa using h
      exact h1
    · rw [show (t == t') = false from by simpa using e] at h
      exact ih t v h
theorem SatC.weak {c : Code} {e' : Env} (hs : EnvSub env e') (h : SatC P N c Q e' w) : SatC P N c Q env w := ⟨fun a ha => h.out a (ha.weak hs.look)⟩
theorem SatL.weak {ops : Array Oper} {l : List Oper} {e' : Env} (hs : EnvSub env e') (h : SatL P N ops Q l e' w) : SatL P N ops Q l env w := ⟨fun a ha => h.out a (ha.weak hs.look)⟩
/-- What a round must come to. -/
def Again {G : Type} (N : Nat) (E : G → Env) (I : G → World → Prop) (μ : G → Nat) (g : G) (a : Act) (w : World) : Prop := ∃ g', I g' w ∧ μ g' < μ g ∧ Ag N (E g') a
/-- A loop: the state at the round's head is told by a datum g: what is known of the temporaries, and of the world. -/
theorem SatC.loop {G : Type} {c : Code} (E : G → Env) (I : G → World → Prop) (μ : G → Nat) (g0 : G) (h0 : I g0 w) (he : EnvSub env (E g0))
    (round : ∀ g w', I g w' → SatC P N c (Exit.then (Again N E I μ g) Q) (E g) w') : SatC P N (.loop c) Q env w := by
  refine ⟨fun a ha => ?_⟩
  have key : ∀ n g a w, μ g < n → I g w → Ag N (E g) a → Code.rounds P c Q n a w := by
    intro n
    induction n with
    | zero => intro g a w hn; omega
    | succ n ih =>
      intro g a w hn hI hA
      rw [rounds_succ]
      refine Go.wp_mono ((round g w hI).out a hA) fun e a' w' he => ?_
      cases e with
      | normal =>
        obtain ⟨g', h1, h2, h3⟩ := he
        exact ih g' a' w' (by omega) h1 h3
      | _ => exact he
  exact wp_loop_rounds (μ g0 + 1) (key _ g0 a w (Nat.lt_succ_self _) h0 (ha.weak he.look))
/-- The same with the slots that stay, and those that turn, told apart. -/
theorem SatC.loopK {G : Type} {c : Code} (V : G → Env) (Cn : Env) (I : G → World → Prop) (μ : G → Nat) (g0 : G) (h0 : I g0 w) (he : EnvSub env (V g0 ++ Cn))
    (round : ∀ g w', I g w' → SatC P N c (Exit.then (Again N (fun g => V g ++ Cn) I μ g) Q) (V g ++ Cn) w') : SatC P N (.loop c) Q env w := SatC.loop (fun g => V g ++ Cn) I μ g0 h0 he round
theorem SatE.again {G : Type} {E : G → Env} {I : G → World → Prop} {μ : G → Nat} {g : G} (g' : G) (h1 : I g' w) (h2 : μ g' < μ g) (h3 : EnvSub env (E g')) : SatE N (Exit.then (Again N E I μ g) Q) .normal env w :=
  ⟨fun a ha => ⟨g', h1, h2, ha.weak h3.look⟩⟩

/-! ### The function's end -/
theorem SatE.fin0 {fn : Func} {R : Value → World → Prop} (hr : fn.results = #[]) (h : R (.tuple #[]) w) : SatE N (bodyPost P fn fun e w' => ∃ v, e = .returned v ∧ R v w') .normal env w :=
  ⟨fun a ha => bodyPost_end (results_none hr _ _ _) ha.2.1 ⟨_, rfl, h⟩⟩
theorem SatE.ret0 {fn : Func} {R : Value → World → Prop} (hr : fn.results = #[]) (h : R (.tuple #[]) w) : SatE N (bodyPost P fn fun e w' => ∃ v, e = .returned v ∧ R v w') .ret env w :=
  ⟨fun a ha => bodyPost_ret (results_none hr _ _ _) ha.2.1 ⟨_, rfl, h⟩⟩
theorem Ag.getD {a : Act} (ha : Ag N env a) {t : Nat} {v : Value} (h : env.lookup t = some v) : a.tmps.getD t undef = v := by
  have := ha.2.2 t v h
  simp [Array.getD_eq_getD_getElem?, this]
theorem SatE.ret1 {fn : Func} {R : Value → World → Prop} {t : Nat} {v : Value} (hr : fn.results = #[.tmp t]) (hv : env.lookup t = some v) (h : R v w) : SatE N (bodyPost P fn fun e w' => ∃ v, e = .returned v ∧ R v w') .ret env w :=
  ⟨fun a ha => bodyPost_ret (v := v) (by rw [results_tmp hr, ha.getD hv]) ha.2.1 ⟨_, rfl, h⟩⟩
theorem SatE.ret2 {fn : Func} {R : Value → World → Prop} {t u : Nat} {v x : Value} (hr : fn.results = #[.tmp t, .tmp u]) (hv : env.lookup t = some v) (hx : env.lookup u = some x) (h : R (.tuple #[v, x]) w) : SatE N (bodyPost P fn fun e w' => ∃ v, e = .returned v ∧ R v w') .ret env w :=
  ⟨fun a ha => bodyPost_ret (v := .tuple #[v, x]) (by rw [results_tmp2 hr, ha.getD hv, ha.getD hx]) ha.2.1 ⟨_, rfl, h⟩⟩
/-- Any results: what they come to is told by a run. -/
theorem SatE.retX {fn : Func} {R : Value → World → Prop} {v : Value} (hv : ∀ a, Ag N env a → (results fn a.tmps).run P w = .ok v w) (h : R v w) : SatE N (bodyPost P fn fun e w' => ∃ v, e = .returned v ∧ R v w') .ret env w :=
  ⟨fun a ha => bodyPost_ret (hv a ha) ha.2.1 ⟨_, rfl, h⟩⟩

/-! ### A region in the text's order -/
theorem SatL.nil {ops : Array Oper} (h : SatE N Q .normal env w) : SatL P N ops Q [] env w := ⟨h.out⟩
theorem SatL.op {ops : Array Oper} {o : Oper} {rest : List Oper} (hg : o.guard = none) (h : OpW P N o env w (SatL P N ops Q rest)) : SatL P N ops Q (o :: rest) env w := by
  refine ⟨fun a ha => ?_⟩
  unfold wpList
  rw [if_pos (by simp [Region.wanted, hg])]
  exact .inl (h.out a Q _ ha (fun env' a' w' hs hA => hs.out a' hA))
theorem Ag.alt {a : Act} {t : Nat} {v : Value} (ha : Ag N env a) (hv : env.lookup t = some v) : Ag N ((t, v) :: env) a := ⟨ha.1, ha.2.1, fun t' u hu => by
  simp only [List.lookup_cons] at hu
  by_cases e : t' = t
  · subst e
    simp only [beq_self_eq_true] at hu
    exact ha.2.2 t' u (hv.trans hu)
  · rw [show (t' == t) = false from by simpa using e] at hu
    exact ha.2.2 t' u hu⟩
/-- A guarded operation: the guard's value is known to be a bool. -/
theorem SatL.guard {ops : Array Oper} {d : Nat} {op : Op} {ty : TypeId} {pos : String} {af : Array Edge} {j t : Nat} {b c : Bool} {rest : List Oper} (hd : (ops[j]?).bind (·.dst) = some t) (hv : env.lookup t = some (.bool c)) (hdd : Nat.blt d N = true)
    (h1 : c = b → SatL P N ops Q (⟨some d, op, ty, pos, af, none⟩ :: rest) ((t, .bool b) :: env) w) (h2 : c = (!b) → SatL P N ops Q rest ((d, undef) :: (t, .bool (!b)) :: env) w) : SatL P N ops Q (⟨some d, op, ty, pos, af, some (j, b)⟩ :: rest) env w := by
  refine ⟨fun a ha => ?_⟩
  have hy : yielded ops a.tmps j = some c := by
    have := ha.2.2 t _ hv
    simp [yielded, hd, this]
  by_cases e : c = b
  · have := (h1 e).out a (ha.alt (e ▸ hv))
    unfold wpList at this ⊢
    rw [if_pos (by simp [Region.wanted, hy, e])]
    rw [if_pos (by simp [Region.wanted])] at this
    exact this
  · have hc : c = !b := by cases b <;> cases c <;> simp_all
    unfold wpList
    rw [if_neg (by simp [Region.wanted, hy, e])]
    exact (h2 hc).out _ ((ha.alt (hc ▸ hv)).put (by simpa [Nat.blt_eq] using hdd))
theorem SatL.guard_y {ops : Array Oper} {d : Option Nat} {op : Op} {ty : TypeId} {pos : String} {af : Array Edge} {j t : Nat} {b : Bool} {rest : List Oper} (hd : (ops[j]?).bind (·.dst) = some t) (hv : env.lookup t = some (.bool b))
    (h1 : SatL P N ops Q (⟨d, op, ty, pos, af, none⟩ :: rest) env w) : SatL P N ops Q (⟨d, op, ty, pos, af, some (j, b)⟩ :: rest) env w := by
  refine ⟨fun a ha => ?_⟩
  have hy : yielded ops a.tmps j = some b := by
    have := ha.2.2 t _ hv
    simp [yielded, hd, this]
  have := h1.out a ha
  unfold wpList at this ⊢
  rw [if_pos (by simp [Region.wanted, hy])]
  rw [if_pos (by simp [Region.wanted])] at this
  exact this
theorem SatL.guard_n {ops : Array Oper} {d : Nat} {op : Op} {ty : TypeId} {pos : String} {af : Array Edge} {j t : Nat} {b c : Bool} {rest : List Oper} (hd : (ops[j]?).bind (·.dst) = some t) (hv : env.lookup t = some (.bool c)) (hn : (c == b) = false) (hdd : Nat.blt d N = true)
    (h1 : SatL P N ops Q rest ((d, undef) :: env) w) : SatL P N ops Q (⟨some d, op, ty, pos, af, some (j, b)⟩ :: rest) env w := by
  refine ⟨fun a ha => ?_⟩
  have hy : yielded ops a.tmps j = some c := by
    have := ha.2.2 t _ hv
    simp [yielded, hd, this]
  unfold wpList
  rw [if_neg (by simpa [Region.wanted, hy] using hn)]
  exact h1.out _ (ha.put (by simpa [Nat.blt_eq] using hdd))

theorem SatL.guard_u {ops : Array Oper} {d : Nat} {op : Op} {ty : TypeId} {pos : String} {af : Array Edge} {j t : Nat} {b : Bool} {rest : List Oper} (hd : (ops[j]?).bind (·.dst) = some t) (hv : env.lookup t = some undef) (hdd : Nat.blt d N = true)
    (h1 : SatL P N ops Q rest ((d, undef) :: env) w) : SatL P N ops Q (⟨some d, op, ty, pos, af, some (j, b)⟩ :: rest) env w := by
  refine ⟨fun a ha => ?_⟩
  have hy : yielded ops a.tmps j = none := by
    have := ha.2.2 t _ hv
    simp [yielded, hd, this, undef]
  unfold wpList
  rw [if_neg (by simp [Region.wanted, hy])]
  exact h1.out _ (ha.put (by simpa [Nat.blt_eq] using hdd))

/-! ### Operations -/
variable {d : Nat} {op : Op} {ty : TypeId} {pos : String} {af : Array Edge} {g : Option (Nat × Bool)} {K : Env → World → Prop}
/-- What an operation that only reads comes to. -/
structure RunV (P : Program) (N : Nat) (env : Env) (w : World) (o : Oper) (v : Value) : Prop where mk :: (out : ∀ a, Ag N env a → (execOp a.eval o).run P w = .ok (.value v) w)
theorem OpW.base {v : Value} {w' : World} (hv : ∀ a, Ag N env a → (execOp a.eval ⟨some d, op, ty, pos, af, g⟩).run P w = .ok (.value v) w') (hd : Nat.blt d N = true) (h : K ((d, v) :: env) w') : OpW P N ⟨some d, op, ty, pos, af, g⟩ env w K :=
  ⟨fun a ha => .val (hv a ha) h (ha.put (by simpa [Nat.blt_eq] using hd))⟩
theorem OpW.base0 {w' : World} (hv : ∀ a, Ag N env a → (execOp a.eval ⟨none, op, ty, pos, af, g⟩).run P w = .ok .skip w') (h : K env w') : OpW P N ⟨none, op, ty, pos, af, g⟩ env w K :=
  ⟨fun a ha => .skip (hv a ha) h ha⟩
theorem OpW.base0v {v : Value} {w' : World} (hv : ∀ a, Ag N env a → (execOp a.eval ⟨none, op, ty, pos, af, g⟩).run P w = .ok (.value v) w') (h : K env w') : OpW P N ⟨none, op, ty, pos, af, g⟩ env w K :=
  ⟨fun a ha => .val (hv a ha) h ha⟩
theorem OpW.pure {v : Value} (hv : RunV P N env w ⟨some d, op, ty, pos, af, g⟩ v) (hd : Nat.blt d N = true) (h : K ((d, v) :: env) w) : OpW P N ⟨some d, op, ty, pos, af, g⟩ env w K := OpW.base hv.out hd h
theorem SatL.pu {ops : Array Oper} {rest : List Oper} {v : Value} (hv : RunV P N env w ⟨some d, op, ty, pos, af, none⟩ v) (hd : Nat.blt d N = true) (h : SatL P N ops Q rest ((d, v) :: env) w) : SatL P N ops Q (⟨some d, op, ty, pos, af, none⟩ :: rest) env w := SatL.op rfl (OpW.pure hv hd h)
/-- A call of a Go function, by its contract. -/
theorem OpW.enterX {f : FuncId} {args : Array Value} {R : Value → World → Prop} (hv : ∀ a, Ag N env a → (execOp a.eval ⟨some d, op, ty, pos, af, g⟩).run P w = .ok (.enter f args) w) (hd : Nat.blt d N = true) (hc : Ret P f args w R)
    (h : ∀ v w', R v w' → K ((d, v) :: env) w') : OpW P N ⟨some d, op, ty, pos, af, g⟩ env w K :=
  ⟨fun a ha => .enter (hv a ha) hc fun v w' hR => ⟨_, h v w' hR, ha.put (by simpa [Nat.blt_eq] using hd)⟩⟩
theorem OpW.enterX0 {f : FuncId} {args : Array Value} {R : Value → World → Prop} (hv : ∀ a, Ag N env a → (execOp a.eval ⟨none, op, ty, pos, af, g⟩).run P w = .ok (.enter f args) w) (hc : Ret P f args w R)
    (h : ∀ v w', R v w' → K env w') : OpW P N ⟨none, op, ty, pos, af, g⟩ env w K :=
  ⟨fun a ha => .enter (hv a ha) hc fun v w' hR => ⟨_, h v w' hR, ha⟩⟩
/-- The function is one that is entered. -/
def enters (P : Program) (f : FuncId) : Bool := match P.funcs[f]? with
  | some fn => !(fn.name == "runtime.NumGoroutine") && fn.body.isSome
  | none => false
theorem run_callFunc {f : FuncId} {args : Array Value} (hf : enters P f = true) : (callFunc f args).run P w = .ok (.enter f args) w := by
  unfold enters at hf
  split at hf
  · rename_i fn hfn
    simp only [Bool.and_eq_true, Bool.not_eq_true'] at hf
    have h1 : ¬ fn.name = "runtime.NumGoroutine" := by simpa using hf.1
    have h2 : ¬ fn.body = none := fun e => by rw [e] at hf; simp at hf
    simp [callFunc, Sem.run_bind, run_program, hfn, h1, h2]
  · cases hf
theorem run_call {f : FuncId} {xs : List Operand} {fo : Operand} {ats : Array TypeId} {vs : List Value} {first cap : Array Value} {dd : Option Nat} (hf : enters P f = true) (hfo : evO env fo = some (.func (.func f) first cap)) (hfirst : first = #[]) (hx : evL env xs = some vs) :
    ∀ a, Ag N env a → (execOp a.eval ⟨dd, .call { callee := .value fo, args := xs.toArray, argTypes := ats }, ty, pos, af, g⟩).run P w = .ok (.enter f (vs ++ cap.toList).toArray) w := by
  intro a ha
  subst hfirst
  have h1 := ha.ev hfo
  have h2 := ha.evL hx
  have h3 : (xs.toArray.map a.eval) = vs.toArray := by rw [← h2]; simp
  simp only [execOp, resolve, h1, h3, Deferred.ofValue, Sem.run_bind, Sem.run_pure, Result.andThen_ok, invoke]
  have : vs.toArray ++ cap = (vs ++ cap.toList).toArray := by simp
  simp [this, run_callFunc hf]
theorem OpW.enter {f : FuncId} {xs : List Operand} {fo : Operand} {ats : Array TypeId} {vs : List Value} {cap : List Value} {R : Value → World → Prop} (hfo : evO env fo = some (.func (.func f) #[] cap.toArray)) (hx : evL env xs = some vs) (hd : Nat.blt d N = true) (hf : enters P f = true)
    (hc : Ret P f (vs ++ cap).toArray w R) (h : ∀ v w', R v w' → K ((d, v) :: env) w') : OpW P N ⟨some d, .call { callee := .value fo, args := xs.toArray, argTypes := ats }, ty, pos, af, g⟩ env w K :=
  OpW.enterX (run_call hf hfo rfl hx) hd (by simpa using hc) h
theorem OpW.enter0 {f : FuncId} {xs : List Operand} {fo : Operand} {ats : Array TypeId} {vs : List Value} {cap : List Value} {R : Value → World → Prop} (hfo : evO env fo = some (.func (.func f) #[] cap.toArray)) (hx : evL env xs = some vs) (hf : enters P f = true)
    (hc : Ret P f (vs ++ cap).toArray w R) (h : ∀ v w', R v w' → K env w') : OpW P N ⟨none, .call { callee := .value fo, args := xs.toArray, argTypes := ats }, ty, pos, af, g⟩ env w K :=
  OpW.enterX0 (run_call hf hfo rfl hx) (by simpa using hc) h
/-! ### Cells -/
abbrev C (t : TypeId) (cs : List Value) : Obj := .cells cs.toArray t (0, 0)
inductive IsSeg : List Value → Nat → Nat → List Value → Prop
  | nil {cs : List Value} : IsSeg cs 0 0 []
  | cons {c : Value} {cs vs : List Value} {n : Nat} : IsSeg cs 0 n vs → IsSeg (c :: cs) 0 (n + 1) (c :: vs)
  | skip {c : Value} {cs vs : List Value} {o n : Nat} : IsSeg cs o n vs → IsSeg (c :: cs) (o + 1) n vs
theorem IsSeg.spec {cs vs : List Value} {o n : Nat} (h : IsSeg cs o n vs) : vs.length = n ∧ ∀ j v, vs[j]? = some v → cs[o + j]? = some v := by
  induction h with
  | nil => exact ⟨rfl, fun j v h => by simp at h⟩
  | cons _ ih =>
    refine ⟨by simp [ih.1], fun j v h => ?_⟩
    cases j with
    | zero => simpa using h
    | succ j =>
      have := ih.2 j v (by simpa using h)
      rw [Nat.zero_add] at this ⊢
      simpa using this
  | skip _ ih =>
    refine ⟨ih.1, fun j v h => ?_⟩
    have := ih.2 j v h
    rename_i o _ _
    rw [show o + 1 + j = (o + j) + 1 from by omega]
    simpa using this
inductive IsCells : Value → List Value → Prop
  | agg {cs : List Value} : IsCells (.agg cs.toArray) cs
  | one {v : Value} : v.oneCell' = true → IsCells v [v]
theorem IsCells.eq {v : Value} {cs : List Value} (h : IsCells v cs) : v.cells = cs.toArray := by
  cases h with
  | agg => rfl
  | one h1 => cases v <;> first | rfl | simp [Value.oneCell'] at h1

theorem St.cellAt {w0 : World} {X : List Nat} {L : List (Nat × Obj)} (h : St w0 X L w) {b : Nat} {t : TypeId} {cs : List Value} (hm : Has L b (C t cs)) {o : Nat} {v : Value} (hv : cs[o]? = some v) : w.cell? ⟨b, o, none⟩ = some v := by
  have := h.own _ hm.mem
  simp [World.cell?, this, hv]

/-- 1: how the type lies in memory: one cell, or a row of n. -/
def rowSz (P : Program) (t : TypeId) : Option (Option Nat) :=
  match P.underlying t with
  | some (.struct _) | some (.array _ _) => (P.info? t).map fun i => some i.size
  | some _ => some none
  | none => none
/-- A small number, written out. -/
def lits : List Nat := [0, 1, 2, 3, 4, 5, 6, 7, 8, 9, 10, 11, 12, 13, 14, 15, 16, 17, 18, 19, 20, 21, 22, 23, 24, 25, 26, 27, 28, 29, 30, 31, 32, 33, 34, 35, 36, 37, 38, 39, 40, 41, 42, 43, 44, 45, 46, 47, 48, 49, 50, 51, 52, 53, 54, 55, 56, 57, 58, 59, 60, 61, 62, 63, 64, 65, 66, 67, 68, 69, 70, 71, 72, 73, 74, 75, 76, 77, 78, 79, 80, 81, 82, 83, 84, 85, 86, 87, 88, 89, 90, 91, 92, 93, 94, 95, 96, 97, 98, 99, 100, 101, 102, 103, 104, 105, 106, 107, 108, 109, 110, 111, 112, 113, 114, 115, 116, 117, 118, 119, 120, 121, 122, 123, 124, 125, 126, 127, 128, 129, 130, 131, 132, 133, 134, 135, 136, 137, 138, 139]
def lit (n : Nat) : Option Nat := lits[n]?
theorem lit_eq {n k : Nat} (h : lit n = some k) : n = k := by
  have hlt : n < 140 := by
    rcases Nat.lt_or_ge n 140 with h' | h'
    · exact h'
    · have : lit n = none := List.getElem?_eq_none (by simpa [lits] using h')
      rw [this] at h; cases h
  have key : ∀ n, n < 140 → lit n = some n := by decide
  rw [key n hlt] at h
  exact Option.some.inj h
def rowSzL (P : Program) (t : TypeId) : Option Nat := match rowSz P t with
  | some (some n) => lit n
  | _ => none
theorem rowSzL_eq {t : TypeId} {n : Nat} (h : rowSzL P t = some n) : rowSz P t = some (some n) := by
  unfold rowSzL at h
  split at h
  · rename_i m hm
    rw [hm, lit_eq h]
  · cases h
theorem run_load1 {t : TypeId} {b o : Nat} {v : Value} (hr : rowSz P t = some none) (hc : w.cell? ⟨b, o, none⟩ = some v) : (Instr.loadAt t (.pointer (some ⟨b, o, none⟩))).run P w = .ok v w := by
  unfold rowSz at hr
  have hagg : (isAgg t).run P w = .ok false w := by
    unfold isAgg
    rw [Sem.run_bind]
    cases hu : P.underlying t with
    | none => rw [hu] at hr; cases hr
    | some d =>
      rw [run_underlying hu w]
      rw [hu] at hr
      cases d <;> simp_all
  simp [Instr.loadAt, Instr.sureAddr, loadVar, Sem.run_bind, hagg, hc]
theorem run_loadN {t : TypeId} {b o n : Nat} {vs : List Value} (hr : rowSz P t = some (some n)) (hl : vs.length = n) (hc : ∀ j v, vs[j]? = some v → w.cell? ⟨b, o + j, none⟩ = some v) : (Instr.loadAt t (.pointer (some ⟨b, o, none⟩))).run P w = .ok (.agg vs.toArray) w := by
  unfold rowSz at hr
  cases hu : P.underlying t with
  | none => rw [hu] at hr; cases hr
  | some d =>
    rw [hu] at hr
    have hd : d.isRow = true ∧ (P.info? t).map (·.size) = some vs.length := by
      cases d <;> simp_all [Option.map_eq_some_iff]
    exact run_loadAt_mid w b o t vs d (fun j v hj => hc j v hj) hu hd.1 hd.2
end
end Go.Proofs.Ytdoinfpkfbfjaaa
