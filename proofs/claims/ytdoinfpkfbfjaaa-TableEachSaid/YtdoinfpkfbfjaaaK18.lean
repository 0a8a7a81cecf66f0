/- The small laws of a walk inside a round of a range over a function: the same operations, under the round's fence. -/
import Derived.Test.YtdoinfpkfbfjaaaK13
import Derived.TacticsIn
import Derived.LoopNIn
import Derived.RangeFuncCalls
import Derived.RangeFuncNested
import Derived.OwnWalkIn
set_option linter.unusedVariables false
namespace Go.Proofs.Ytdoinfpkfbfjaaa
open Go.RowKit
section
variable {P : Program} {N l n : Nat} {Q : Exit → Act → World → Prop} {env : Env} {w : World}
structure SatF (l n : Nat) (P : Program) (N : Nat) (c : Code) (Q : Exit → Act → World → Prop) (env : Env) (w : World) : Prop where mk :: (out : ∀ a, Ag N env a → c.wpIn (Fence.wide.inRound l) n P Q a w)
structure SatG (l n : Nat) (P : Program) (N : Nat) (ops : Array Oper) (Q : Exit → Act → World → Prop) (rest : List Oper) (env : Env) (w : World) : Prop where mk :: (out : ∀ a, Ag N env a → wpListIn (Fence.wide.inRound l) n P ops Q rest a w)
theorem SatF.seq {x y : Code} (h : SatF l n P N x (Exit.then (y.wpIn (Fence.wide.inRound l) n P Q) Q) env w) : SatF l n P N (.seq x y) Q env w := ⟨fun a ha => wpIn_seq (h.out a ha)⟩
theorem SatF.skip (h : SatE N Q .normal env w) : SatF l n P N .skip Q env w := ⟨fun a ha => wpIn_skip (h.out a ha)⟩
theorem SatF.ret (h : SatE N Q .ret env w) : SatF l n P N .ret Q env w := ⟨fun a ha => wpIn_ret (h.out a ha)⟩
theorem SatF.exit {id : Nat} (h : SatE N Q (.exit id) env w) : SatF l n P N (.exit id) Q env w := ⟨fun a ha => wpIn_exit (h.out a ha)⟩
theorem SatF.block {id : Nat} {c : Code} (h : SatF l n P N c (Exit.inBlock id Q) env w) : SatF l n P N (.block id c) Q env w := ⟨fun a ha => wpIn_block (h.out a ha)⟩
theorem SatF.region {id : Nat} {ls : List Oper} (h : SatG l n P N ls.toArray Q ls env w) : SatF l n P N (.region id ls.toArray false) Q env w := ⟨fun a ha => wpIn_region_lit (h.out a ha)⟩
theorem SatF.cond {c : Operand} {x y : Code} {b : Bool} (hc : evO env c = some (.bool b)) (h1 : b = true → SatF l n P N x Q env w) (h2 : b = false → SatF l n P N y Q env w) : SatF l n P N (.cond c x y) Q env w :=
  ⟨fun a ha => wpIn_cond (t := b) (ha.ev hc) (by cases b <;> first | exact (h1 rfl).out a ha | exact (h2 rfl).out a ha)⟩
theorem SatF.cond_t {c : Operand} {x y : Code} (hc : evO env c = some (.bool true)) (h1 : SatF l n P N x Q env w) : SatF l n P N (.cond c x y) Q env w := SatF.cond hc (fun _ => h1) (fun h => by cases h)
theorem SatF.cond_f {c : Operand} {x y : Code} (hc : evO env c = some (.bool false)) (h2 : SatF l n P N y Q env w) : SatF l n P N (.cond c x y) Q env w := SatF.cond hc (fun h => by cases h) (fun _ => h2)
theorem SatE.thenF {y : Code} (h : SatF l n P N y Q env w) : SatE N (Exit.then (y.wpIn (Fence.wide.inRound l) n P Q) Q) .normal env w := ⟨h.out⟩
/-- It is no defer statement. -/
def noDefer (o : Oper) : Bool := match o.op with
  | .defer _ => false
  | _ => true
theorem noDefer_ne {o : Oper} (h : noDefer o = true) : ∀ c, o.op ≠ .defer c := fun c e => by
  unfold noDefer at h
  rw [e] at h
  cases h
theorem OpW.outF {o : Oper} {K : Env → World → Prop} (h : OpW P N o env w K) (hd : noDefer o = true) (a : Act) (Q : Exit → Act → World → Prop) (K' : Act → World → Prop) (ha : Ag N env a) (hK : ∀ env' a' w', K env' w' → Ag N env' a' → K' a' w') : o.wpIn (Fence.wide.inRound l) n P a w K' Q := by
  refine ⟨fun f _ => trivial, ?_⟩
  rw [Oper.semAt_eq _ _ _ (noDefer_ne hd)]
  cases h.res a ha with
  | val hv hk hA =>
    rw [hv, Oper.uponIn_value]
    exact hK _ _ _ hk hA
  | skip hv hk hA =>
    rw [hv, Oper.uponIn_skip]
    exact hK _ _ _ hk hA
  | enter hv hc hR =>
    rw [hv, Oper.uponIn_enter]
    refine ⟨fun h => (by cases h), ?_⟩
    refine CallsIn.inRound l (callsIn_wide.2 (Calls.mono hc fun e w' ⟨v, he, hr⟩ => ?_))
    subst he
    obtain ⟨env', hk, hA⟩ := hR v w' hr
    exact hK _ _ _ hk hA
theorem SatG.nil {ops : Array Oper} (h : SatE N Q .normal env w) : SatG l n P N ops Q [] env w := ⟨h.out⟩
theorem SatG.op {ops : Array Oper} {o : Oper} {rest : List Oper} (hg : o.guard = none) (hd : noDefer o = true) (h : OpW P N o env w (SatG l n P N ops Q rest)) : SatG l n P N ops Q (o :: rest) env w :=
  ⟨fun a ha => wpListIn_plain hg fun K hK => h.outF hd a Q K ha fun env' a' w' hs hA => hK _ _ (hs.out a' hA)⟩
theorem SatG.pu {ops : Array Oper} {rest : List Oper} {d : Nat} {op : Op} {ty : TypeId} {pos : String} {af : Array Edge} {v : Value} (hv : RunV P N env w ⟨some d, op, ty, pos, af, none⟩ v) (hd : Nat.blt d N = true) (hn : noDefer ⟨some d, op, ty, pos, af, none⟩ = true) (h : SatG l n P N ops Q rest ((d, v) :: env) w) : SatG l n P N ops Q (⟨some d, op, ty, pos, af, none⟩ :: rest) env w := SatG.op rfl hn (OpW.pure hv hd h)
theorem SatF.weak {c : Code} {e' : Env} (hs : EnvSub env e') (h : SatF l n P N c Q e' w) : SatF l n P N c Q env w := ⟨fun a ha => h.out a (ha.weak hs.look)⟩
/-! ### Behind a range over a function: the frame holds the mark of its rounds' deferred calls -/
abbrev mark (D : Nat) : Deferred := { target := .collected D, args := #[] }
abbrev bare (a : Act) : Act := { a with defers := [] }
theorem bare_put (a : Act) (d : Option Nat) (v : Value) : (bare a).put d v = bare (a.put d v) := by cases d <;> rfl
theorem put_defers (a : Act) (d : Option Nat) (v : Value) : (a.put d v).defers = a.defers := by cases d <;> rfl
structure SatM (D : Nat) (P : Program) (N : Nat) (c : Code) (Q : Exit → Act → World → Prop) (env : Env) (w : World) : Prop where mk :: (out : ∀ a, Ag N env (bare a) → a.defers = [mark D] → c.wp P Q a w)
structure SatEM (D N : Nat) (Q : Exit → Act → World → Prop) (x : Exit) (env : Env) (w : World) : Prop where mk :: (out : ∀ a, Ag N env (bare a) → a.defers = [mark D] → Q x a w)
structure SatLM (D : Nat) (P : Program) (N : Nat) (ops : Array Oper) (Q : Exit → Act → World → Prop) (rest : List Oper) (env : Env) (w : World) : Prop where mk :: (out : ∀ a, Ag N env (bare a) → a.defers = [mark D] → wpList P ops Q rest a w)
variable {D : Nat}
theorem SatM.seq {x y : Code} (h : SatM D P N x (Exit.then (y.wp P Q) Q) env w) : SatM D P N (.seq x y) Q env w := ⟨fun a ha hd => wp_seq (h.out a ha hd)⟩
theorem SatM.skip (h : SatEM D N Q .normal env w) : SatM D P N .skip Q env w := ⟨fun a ha hd => wp_skip (h.out a ha hd)⟩
theorem SatM.ret (h : SatEM D N Q .ret env w) : SatM D P N .ret Q env w := ⟨fun a ha hd => wp_ret (h.out a ha hd)⟩
theorem SatM.region {id : Nat} {ls : List Oper} (h : SatLM D P N ls.toArray Q ls env w) : SatM D P N (.region id ls.toArray false) Q env w := ⟨fun a ha hd => wp_region_lit (h.out a ha hd)⟩
theorem SatEM.thenM {y : Code} (h : SatM D P N y Q env w) : SatEM D N (Exit.then (y.wp P Q) Q) .normal env w := ⟨h.out⟩
theorem SatEM.then_ret {K : Act → World → Prop} (h : SatEM D N Q .ret env w) : SatEM D N (Exit.then K Q) .ret env w := ⟨h.out⟩
theorem SatEM.blk_normal {id : Nat} (h : SatEM D N Q .normal env w) : SatEM D N (Exit.inBlock id Q) .normal env w := ⟨h.out⟩
theorem SatM.cond {c : Operand} {x y : Code} {b : Bool} (hc : evO env c = some (.bool b)) (h1 : b = true → SatM D P N x Q env w) (h2 : b = false → SatM D P N y Q env w) : SatM D P N (.cond c x y) Q env w :=
  ⟨fun a ha hd => wp_cond (t := b) (ha.ev hc) (by cases b <;> first | exact (h1 rfl).out a ha hd | exact (h2 rfl).out a ha hd)⟩
theorem OpW.outM {o : Oper} {K : Env → World → Prop} (h : OpW P N o env w K) (a : Act) (Q : Exit → Act → World → Prop) (K' : Act → World → Prop) (ha : Ag N env (bare a)) (hd : a.defers = [mark D]) (hK : ∀ env' a' w', K env' w' → Ag N env' (bare a') → a'.defers = [mark D] → K' a' w') : o.wp P a w K' Q := by
  have he : (bare a).eval = a.eval := rfl
  cases h.res _ ha with
  | val hv hk hA =>
    rw [he] at hv
    rw [bare_put] at hA
    unfold Oper.wp
    rw [hv]
    exact hK _ _ _ hk hA (by rw [put_defers]; exact hd)
  | skip hv hk hA =>
    rw [he] at hv
    rw [bare_put] at hA
    unfold Oper.wp
    rw [hv]
    exact hK _ _ _ hk hA (by rw [put_defers]; exact hd)
  | enter hv hc hR =>
    rw [he] at hv
    unfold Oper.wp
    rw [hv, Oper.upon_enter]
    refine Calls.mono hc fun e w' ⟨v, he, hr⟩ => ?_
    subst he
    obtain ⟨env', hk, hA⟩ := hR v w' hr
    rw [bare_put] at hA
    exact hK _ _ _ hk hA (by rw [put_defers]; exact hd)
theorem SatLM.nil {ops : Array Oper} (h : SatEM D N Q .normal env w) : SatLM D P N ops Q [] env w := ⟨h.out⟩
theorem SatLM.op {ops : Array Oper} {o : Oper} {rest : List Oper} (hg : o.guard = none) (h : OpW P N o env w (SatLM D P N ops Q rest)) : SatLM D P N ops Q (o :: rest) env w := by
  refine ⟨fun a ha hd => ?_⟩
  unfold wpList
  rw [if_pos (by simp [Region.wanted, hg])]
  exact .inl (h.outM a Q _ ha hd (fun env' a' w' hs hA hD => hs.out a' hA hD))
theorem SatLM.pu {ops : Array Oper} {rest : List Oper} {d : Nat} {op : Op} {ty : TypeId} {pos : String} {af : Array Edge} {v : Value} (hv : RunV P N env w ⟨some d, op, ty, pos, af, none⟩ v) (hd : Nat.blt d N = true) (h : SatLM D P N ops Q rest ((d, v) :: env) w) : SatLM D P N ops Q (⟨some d, op, ty, pos, af, none⟩ :: rest) env w := SatLM.op rfl (OpW.pure hv hd h)
/-- Into a function that holds a range over a function. -/
theorem Ret.enterM {f : FuncId} {fn : Func} {c : Code} {args : List Value} {R : Value → World → Prop} (hf : P.funcs[f]? = some fn) (hN : fn.ntmps = N) (hb : fn.body = some c) (ha : Nat.ble args.length N = true)
    (h : SatC P N c (bodyPostM Fence.wide 8 P fn fun e w' => ∃ v, e = .returned v ∧ R v w') (argEnv 0 args) w) : Ret P f args.toArray w R := by
  subst hN
  exact callsIn_wide.1 (callsIn_of_wp_marks (F := Fence.wide) (n := 8) hf hb trivial (wpIn_wide.2 (h.out _ (Ag.init args.toArray (by simpa [Nat.ble_eq] using ha)))) rfl)
theorem SatEM.ret1 {fn : Func} {R : Value → World → Prop} {t : Nat} {v : Value} (hr : fn.results = #[.tmp t]) (hv : env.lookup t = some v) (hD : w.heap[D]? = some (.deferred (some []))) (h : R v (w.putObj D (.deferred none))) : SatEM D N (bodyPostM Fence.wide 8 P fn fun e w' => ∃ v, e = .returned v ∧ R v w') .ret env w :=
  ⟨fun a ha hd => by
    show LeavesInM Fence.wide 8 P fn a.tmps _ a.defers .returning w
    rw [hd]
    refine ⟨by simp, .inl ⟨D, _, rfl, run_takeDeferred hD, ?_⟩⟩
    exact ⟨v, by rw [results_tmp hr, show a.tmps.getD t undef = v from ha.getD hv], _, rfl, h⟩⟩
/-! ### The loop itself -/
theorem Ag.pars : ∀ (ls : List (Nat × Value)) (env : Env) (a : Act), Ag N env a → (∀ p ∈ ls, p.1 < N) → Ag N (ls.reverse ++ env) { tmps := ls.foldl (fun t p => t.setIfInBounds p.1 p.2) a.tmps, defers := [] }
  | [], env, a, ha, _ => ⟨ha.1, rfl, ha.2.2⟩
  | p :: ls, env, a, ha, h => by
    have h1 : Ag N ((p.1, p.2) :: env) (a.put (some p.1) p.2) := ha.put (h p List.mem_cons_self)
    have := Ag.pars ls _ _ h1 (fun q hq => h q (List.mem_cons_of_mem _ hq))
    rw [List.reverse_cons, List.append_assoc]
    exact this
theorem SatC.rangeFunc {α G : Type} {gop : Operand} {ps : Array Tmp} {assign body : Code} {gf : Nat} {lb : List Value} {encs : α → Array Value} {Kp : World → World → Prop} {S Sp : List α → Prop} {M : Nat} {w0 : World}
    (hg : evO env gop = some (.func (.func gf) #[] lb.toArray)) (hent : enters P gf = true) (hseq : SeqStopsK Fence.wide 7 P gf lb.toArray encs Kp S Sp M w0)
    (hKt : ∀ {A B C : World}, Kp A B → Kp B C → Kp A C) (hKb : ∀ (W : World) (l : Nat) (o o' : Obj), w.heap.size ≤ l → W.heap[l]? = some o → o.isCells = false → o.isWalk = false → Kp W (W.putObj l o')) (hb0 : Below w0.heap.size w0 w)
    (hps : ∀ x, (encs x).size = ps.size) (hpN : ∀ p ∈ ps.toList, p < N)
    (I : List α → World → Prop) (Ix : Code → List α → World → Prop) (hI : OwnFrom w.heap.size I) (hIx : ∀ c, OwnFrom w.heap.size (Ix c)) (h0 : I [] w) (Er : α → G → Env) (J : α → G → World → Prop) (hJ : ∀ x g, OwnFrom w.heap.size (fun (_ : Unit) W => J x g W))
    (hassign : ∀ (l : Nat) (pre : List α) (x : α) (W : World), I pre W → SatF l 6 P N assign (Exit.then (fun a' W' => (∃ g, Ag N (Er x g) a' ∧ J x g W') ∧ KeepsFrom w.heap.size W W' ∧ Kp W W' ∧ I pre W') (fun _ _ _ => False)) ((ps.toList.zip (encs x).toList).reverse ++ env) W)
    (hbody : ∀ (l : Nat) (pre : List α) (x : α) (g : G) (W : World), w.heap.size ≤ l → (∃ r, W.heap[l]? = some (.loop r)) → I pre W → J x g W → pre.length < M → SatF l 6 P N body (ownPostG w.heap.size Kp I Ix (pre ++ [x]) W) (Er x g) W)
    (hdone : ∀ (D : Nat) (xs : List α) (W : World), w.heap.size ≤ D → S xs → I xs W → W.heap[D]? = some (.deferred (some [])) → SatEM D N Q .normal env W)
    (hstop : ∀ (D : Nat) (c : Code) (pre : List α) (W : World), w.heap.size ≤ D → Sp pre → Ix c pre W → W.heap[D]? = some (.deferred (some [])) → SatM D P N c Q env W) :
    SatC P N (.rangeFunc gop ps assign body) Q env w := by
  refine ⟨fun a ha => (wpIn_wide (n := 8)).1 ?_⟩
  have hd0 : a.defers = [] := ha.2.1
  have hbare : ∀ D, bare { a with defers := mark D :: a.defers } = a := fun D => by
    cases a
    simp only at hd0
    subst hd0
    rfl
  refine wpIn_rangeFunc_ownH (F := Fence.wide) (n := 8) rfl (by decide) (gf := gf) (lb := lb.toArray) (ha.ev hg) trivial (fun args w => run_callFunc hent) hseq hKt hKb hb0 hps I Ix hI hIx h0 (fun x a' W => ∃ g, Ag N (Er x g) a' ∧ J x g W) (fun x a' s A B row hs h1 h2 => by
    obtain ⟨g, hg, hj⟩ := hs
    exact ⟨g, hg, hJ x g s A B row hj h1 h2⟩) ?_ ?_ ?_ ?_
  · intro l pre x W K hi hK
    have h1 := (hassign l pre x W hi).out { tmps := (ps.zip (encs x)).foldl (fun t (p, v) => t.setIfInBounds p v) a.tmps, defers := [] } (by
      have := Ag.pars (N := N) (ps.toList.zip (encs x).toList) env a ha (fun p hp => hpN _ (List.of_mem_zip hp).1)
      rw [← Array.foldl_toList, Array.toList_zip]
      exact this)
    refine wpIn_mono h1 fun e a' W' he => ?_
    cases e with
    | normal => exact hK a' W' he.2.1 he.2.2.1 he.2.2.2 he.1
    | _ => exact he
  · rintro l pre x a' W hl hr hi ⟨g, hA, hj⟩ hlen
    exact (hbody l pre x g W hl hr hi hj hlen).out a' hA
  · intro D xs W hD hS hi hm
    exact (hdone D xs W hD hS hi hm).out _ (by rw [hbare]; exact ha) (by show mark D :: a.defers = [mark D]; rw [hd0])
  · intro D c pre W hD hS hi hm
    exact (wpIn_wide (n := 8)).2 ((hstop D c pre W hD hS hi hm).out _ (by rw [hbare]; exact ha) (by show mark D :: a.defers = [mark D]; rw [hd0]))
/-! ### The iterator's side: a region that calls yield -/
structure SatY (P : Program) (N : Nat) (ops : Array Oper) (Q : Exit → Act → World → Prop) (rest : List Oper) (env : Env) (w : World) : Prop where mk :: (out : ∀ a, Ag N env a → wpListIn Fence.wide 8 P ops Q rest a w)
theorem SatC.regionY {id : Nat} {ls : List Oper} (h : SatY P N ls.toArray Q ls env w) : SatC P N (.region id ls.toArray false) Q env w := ⟨fun a ha => (wpIn_wide (n := 8)).1 (wpIn_region_lit (h.out a ha))⟩
theorem OpW.outW {o : Oper} {K : Env → World → Prop} (h : OpW P N o env w K) (a : Act) (Q : Exit → Act → World → Prop) (K' : Act → World → Prop) (ha : Ag N env a) (hK : ∀ env' a' w', K env' w' → Ag N env' a' → K' a' w') : o.wpIn Fence.wide 8 P a w K' Q := by
  refine ⟨fun f _ => trivial, ?_⟩
  show o.uponIn Fence.wide 8 P a K' Q ((execOp a.eval o).run P w)
  cases h.res a ha with
  | val hv hk hA =>
    rw [hv, Oper.uponIn_value]
    exact hK _ _ _ hk hA
  | skip hv hk hA =>
    rw [hv, Oper.uponIn_skip]
    exact hK _ _ _ hk hA
  | enter hv hc hR =>
    rw [hv, Oper.uponIn_enter]
    refine ⟨fun h => (by cases h), ?_⟩
    refine callsIn_wide.2 (Calls.mono hc fun e w' ⟨v, he, hr⟩ => ?_)
    subst he
    obtain ⟨env', hk, hA⟩ := hR v w' hr
    exact hK _ _ _ hk hA
theorem SatY.nil {ops : Array Oper} (h : SatE N Q .normal env w) : SatY P N ops Q [] env w := ⟨h.out⟩
theorem SatY.op {ops : Array Oper} {o : Oper} {rest : List Oper} (hg : o.guard = none) (h : OpW P N o env w (SatY P N ops Q rest)) : SatY P N ops Q (o :: rest) env w :=
  ⟨fun a ha => wpListIn_plain hg fun K hK => h.outW a Q K ha fun env' a' w' hs hA => hK _ _ (hs.out a' hA)⟩
theorem SatY.pu {ops : Array Oper} {rest : List Oper} {d : Nat} {op : Op} {ty : TypeId} {pos : String} {af : Array Edge} {v : Value} (hv : RunV P N env w ⟨some d, op, ty, pos, af, none⟩ v) (hd : Nat.blt d N = true) (h : SatY P N ops Q rest ((d, v) :: env) w) : SatY P N ops Q (⟨some d, op, ty, pos, af, none⟩ :: rest) env w := SatY.op rfl (OpW.pure hv hd h)
theorem roundIn_any {n m l : Nat} {f : FuncId} {tmps : Array Value} {assign body : Code} {R : Ending → World → Prop} (h : RoundIn Fence.wide n P l f tmps assign body w R) : RoundIn Fence.wide m P l f tmps assign body w R := ⟨h.1, fun c cs _ => h.2 c cs (room_wide _)⟩
theorem SatY.yield {m : Nat} {ops : Array Oper} {rest : List Oper} {d : Nat} {fo : Operand} {xs : List Operand} {vs : List Value} {ats : Array TypeId} {ty : TypeId} {pos : String} {af : Array Edge} {R : Ending → World → Prop} (hf : evO env fo = some (.func (.yield l) #[] #[])) (hx : evL env xs = some vs) (hd : Nat.blt d N = true)
    (hy : YieldAt Fence.wide m P l vs.toArray w R) (h : ∀ e w', R e w' → ∃ v, e = .returned v ∧ SatY P N ops Q rest ((d, v) :: env) w') : SatY P N ops Q (⟨some d, .call { callee := .value fo, args := xs.toArray, argTypes := ats }, ty, pos, af, none⟩ :: rest) env w := by
  refine ⟨fun a ha => wpListIn_plain rfl fun K hK => ?_⟩
  obtain ⟨fn, tmps, assign, body, hrun, hR⟩ := hy
  have h1 := ha.ev hf
  have h2 := ha.evL hx
  have h3 : (xs.toArray.map a.eval) = vs.toArray := by rw [← h2]; simp
  refine ⟨fun f _ => trivial, ?_⟩
  rw [show Fence.wide.round = none from rfl, Oper.semAt_none]
  have hr : (execOp a.eval ⟨some d, .call { callee := .value fo, args := xs.toArray, argTypes := ats }, ty, pos, af, none⟩).run P w = .ok (.round l fn tmps assign body) w := by
    simp only [execOp, resolve, h1, h3, Deferred.ofValue, Sem.run_bind, Sem.run_pure, Result.andThen_ok, invoke]
    simpa using hrun
  rw [hr, Oper.uponIn_round]
  refine ⟨fun h => (by cases h), (roundIn_any hR).mono fun e w' he => ?_⟩
  obtain ⟨v, rfl, hs⟩ := h e w' he
  exact hK _ _ (hs.out _ (ha.put (by simpa [Nat.blt_eq] using hd)))
theorem SatY.guard_y {ops : Array Oper} {d : Option Nat} {op : Op} {ty : TypeId} {pos : String} {af : Array Edge} {j t : Nat} {b : Bool} {rest : List Oper} (hd : (ops[j]?).bind (·.dst) = some t) (hv : env.lookup t = some (.bool b))
    (h1 : SatY P N ops Q (⟨d, op, ty, pos, af, none⟩ :: rest) env w) : SatY P N ops Q (⟨d, op, ty, pos, af, some (j, b)⟩ :: rest) env w := by
  refine ⟨fun a ha => ?_⟩
  have hy : yielded ops a.tmps j = some b := by
    have := ha.2.2 t _ hv
    simp [yielded, hd, this]
  have := h1.out a ha
  unfold wpListIn at this ⊢
  rw [if_pos (by simp [Region.wanted, hy])]
  rw [if_pos (by simp [Region.wanted])] at this
  exact this
theorem SatY.guard_n {ops : Array Oper} {d : Nat} {op : Op} {ty : TypeId} {pos : String} {af : Array Edge} {j t : Nat} {b c : Bool} {rest : List Oper} (hd : (ops[j]?).bind (·.dst) = some t) (hv : env.lookup t = some (.bool c)) (hn : (c == b) = false) (hdd : Nat.blt d N = true)
    (h1 : SatY P N ops Q rest ((d, undef) :: env) w) : SatY P N ops Q (⟨some d, op, ty, pos, af, some (j, b)⟩ :: rest) env w := by
  refine ⟨fun a ha => ?_⟩
  have hy : yielded ops a.tmps j = some c := by
    have := ha.2.2 t _ hv
    simp [yielded, hd, this]
  unfold wpListIn
  rw [if_neg (by simpa [Region.wanted, hy] using hn)]
  exact ⟨fun f _ => trivial, h1.out _ (ha.put (by simpa [Nat.blt_eq] using hdd))⟩
theorem SatY.guard_u {ops : Array Oper} {d : Nat} {op : Op} {ty : TypeId} {pos : String} {af : Array Edge} {j t : Nat} {b : Bool} {rest : List Oper} (hd : (ops[j]?).bind (·.dst) = some t) (hv : env.lookup t = some undef) (hdd : Nat.blt d N = true)
    (h1 : SatY P N ops Q rest ((d, undef) :: env) w) : SatY P N ops Q (⟨some d, op, ty, pos, af, some (j, b)⟩ :: rest) env w := by
  refine ⟨fun a ha => ?_⟩
  have hy : yielded ops a.tmps j = none := by
    have := ha.2.2 t _ hv
    simp [yielded, hd, this, undef]
  unfold wpListIn
  rw [if_neg (by simp [Region.wanted, hy])]
  exact ⟨fun f _ => trivial, h1.out _ (ha.put (by simpa [Nat.blt_eq] using hdd))⟩
theorem SatG.guard_y {ops : Array Oper} {d : Option Nat} {op : Op} {ty : TypeId} {pos : String} {af : Array Edge} {j t : Nat} {b : Bool} {rest : List Oper} (hd : (ops[j]?).bind (·.dst) = some t) (hv : env.lookup t = some (.bool b))
    (h1 : SatG l n P N ops Q (⟨d, op, ty, pos, af, none⟩ :: rest) env w) : SatG l n P N ops Q (⟨d, op, ty, pos, af, some (j, b)⟩ :: rest) env w := by
  refine ⟨fun a ha => ?_⟩
  have hy : yielded ops a.tmps j = some b := by
    have := ha.2.2 t _ hv
    simp [yielded, hd, this]
  have := h1.out a ha
  unfold wpListIn at this ⊢
  rw [if_pos (by simp [Region.wanted, hy])]
  rw [if_pos (by simp [Region.wanted])] at this
  exact this
theorem SatG.guard_n {ops : Array Oper} {d : Nat} {op : Op} {ty : TypeId} {pos : String} {af : Array Edge} {j t : Nat} {b c : Bool} {rest : List Oper} (hd : (ops[j]?).bind (·.dst) = some t) (hv : env.lookup t = some (.bool c)) (hn : (c == b) = false) (hdd : Nat.blt d N = true)
    (h1 : SatG l n P N ops Q rest ((d, undef) :: env) w) : SatG l n P N ops Q (⟨some d, op, ty, pos, af, some (j, b)⟩ :: rest) env w := by
  refine ⟨fun a ha => ?_⟩
  have hy : yielded ops a.tmps j = some c := by
    have := ha.2.2 t _ hv
    simp [yielded, hd, this]
  unfold wpListIn
  rw [if_neg (by simpa [Region.wanted, hy] using hn)]
  exact ⟨fun f _ => trivial, h1.out _ (ha.put (by simpa [Nat.blt_eq] using hdd))⟩
theorem SatG.guard_u {ops : Array Oper} {d : Nat} {op : Op} {ty : TypeId} {pos : String} {af : Array Edge} {j t : Nat} {b : Bool} {rest : List Oper} (hd : (ops[j]?).bind (·.dst) = some t) (hv : env.lookup t = some undef) (hdd : Nat.blt d N = true)
    (h1 : SatG l n P N ops Q rest ((d, undef) :: env) w) : SatG l n P N ops Q (⟨some d, op, ty, pos, af, some (j, b)⟩ :: rest) env w := by
  refine ⟨fun a ha => ?_⟩
  have hy : yielded ops a.tmps j = none := by
    have := ha.2.2 t _ hv
    simp [yielded, hd, this, undef]
  unfold wpListIn
  rw [if_neg (by simp [Region.wanted, hy])]
  exact ⟨fun f _ => trivial, h1.out _ (ha.put (by simpa [Nat.blt_eq] using hdd))⟩
theorem SatY.guard {ops : Array Oper} {d : Nat} {op : Op} {ty : TypeId} {pos : String} {af : Array Edge} {j t : Nat} {b c : Bool} {rest : List Oper} (hd : (ops[j]?).bind (·.dst) = some t) (hv : env.lookup t = some (.bool c)) (hdd : Nat.blt d N = true)
    (h1 : c = b → SatY P N ops Q (⟨some d, op, ty, pos, af, none⟩ :: rest) ((t, .bool b) :: env) w) (h2 : c = (!b) → SatY P N ops Q rest ((d, undef) :: (t, .bool (!b)) :: env) w) : SatY P N ops Q (⟨some d, op, ty, pos, af, some (j, b)⟩ :: rest) env w := by
  refine ⟨fun a ha => ?_⟩
  have hy : yielded ops a.tmps j = some c := by
    have := ha.2.2 t _ hv
    simp [yielded, hd, this]
  by_cases e : c = b
  · have := (h1 e).out a (ha.alt (e ▸ hv))
    unfold wpListIn at this ⊢
    rw [if_pos (by simp [Region.wanted, hy, e])]
    rw [if_pos (by simp [Region.wanted])] at this
    exact this
  · have hc : c = !b := by cases b <;> cases c <;> simp_all
    unfold wpListIn
    rw [if_neg (by simp [Region.wanted, hy, e])]
    exact ⟨fun f _ => trivial, (h2 hc).out _ ((ha.alt (hc ▸ hv)).put (by simpa [Nat.blt_eq] using hdd))⟩
theorem SatG.guard {ops : Array Oper} {d : Nat} {op : Op} {ty : TypeId} {pos : String} {af : Array Edge} {j t : Nat} {b c : Bool} {rest : List Oper} (hd : (ops[j]?).bind (·.dst) = some t) (hv : env.lookup t = some (.bool c)) (hdd : Nat.blt d N = true)
    (h1 : c = b → SatG l n P N ops Q (⟨some d, op, ty, pos, af, none⟩ :: rest) ((t, .bool b) :: env) w) (h2 : c = (!b) → SatG l n P N ops Q rest ((d, undef) :: (t, .bool (!b)) :: env) w) : SatG l n P N ops Q (⟨some d, op, ty, pos, af, some (j, b)⟩ :: rest) env w := by
  refine ⟨fun a ha => ?_⟩
  have hy : yielded ops a.tmps j = some c := by
    have := ha.2.2 t _ hv
    simp [yielded, hd, this]
  by_cases e : c = b
  · have := (h1 e).out a (ha.alt (e ▸ hv))
    unfold wpListIn at this ⊢
    rw [if_pos (by simp [Region.wanted, hy, e])]
    rw [if_pos (by simp [Region.wanted])] at this
    exact this
  · have hc : c = !b := by cases b <;> cases c <;> simp_all
    unfold wpListIn
    rw [if_neg (by simp [Region.wanted, hy, e])]
    exact ⟨fun f _ => trivial, (h2 hc).out _ ((ha.alt (hc ▸ hv)).put (by simpa [Nat.blt_eq] using hdd))⟩
/-- A return ahead of the loop, in a function that holds one. -/
theorem SatE.retM1 {fn : Func} {R : Value → World → Prop} {t : Nat} {v : Value} (hr : fn.results = #[.tmp t]) (hv : env.lookup t = some v) (h : R v w) : SatE N (bodyPostM Fence.wide 8 P fn fun e w' => ∃ v, e = .returned v ∧ R v w') .ret env w :=
  ⟨fun a ha => by
    show LeavesInM Fence.wide 8 P fn a.tmps _ a.defers .returning w
    rw [ha.2.1]
    exact ⟨v, by rw [results_tmp hr, ha.getD hv], _, rfl, h⟩⟩
end
end Go.Proofs.Ytdoinfpkfbfjaaa
