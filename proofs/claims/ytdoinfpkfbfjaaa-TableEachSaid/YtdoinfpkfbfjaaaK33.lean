/- A region that draws, behind a range over a function: pure operations first, then the effects that are left. -/
import Derived.Test.YtdoinfpkfbfjaaaK20
set_option linter.unusedVariables false
namespace Go.Proofs.Ytdoinfpkfbfjaaa
open Go.RowKit
section
variable {P : Program} {N D : Nat} {Q : Exit → Act → World → Prop} {env : Env} {w w0 : World} {X : List Nat} {L : List (Nat × Obj)}
/-- What is asked of the ways out, but that no panic is one. -/
def NoPanic (Q : Exit → Act → World → Prop) : Exit → Act → World → Prop
  | .panic _, _, _ => False
  | e, a, w => Q e a w
theorem noPanic_imp {Q : Exit → Act → World → Prop} {e : Exit} {a : Act} {w : World} (h : NoPanic Q e a w) : Q e a w := by
  cases e <;> first | exact h | exact h.elim
structure SatDM (D : Nat) (P : Program) (N : Nat) (ops : Array Oper) (Q : Exit → Act → World → Prop) (S : World → Prop) (F : Nat) (fuel : Nat) (listed : Array Bool) (env : Env) (w : World) : Prop where mk :: (out : ∀ a, Ag N env (bare a) → a.defers = [mark D] → ClosedL ops listed → wpB P ops Q S F fuel listed a w)
theorem SatM.drawn {id : Nat} {l : List Oper} (S : World → Prop) (F : Nat) (hm : P.follows .mixedOrders = true) (h : ∀ w', w'.heap = w.heap → (∀ X L, St w0 X L w → St w0 X L w') → SatDM D P N l.toArray (NoPanic Q) S F l.length (List.replicate l.length false).toArray env w') : SatM D P N (.region id l.toArray true) Q env w :=
  ⟨fun a ha hd => Go.wp_mono (wp_region_any hm (wpAny_of_B (S := S) (F := F) _ _ _ _ (by have := (h { w with drawn := w.drawn + 1 } rfl (fun X L hS => hS.drew)).out a ha hd (closed_none _); simpa using this))) fun e a' w' he => noPanic_imp he⟩
theorem SatM.drawnT {id : Nat} {l : List Oper} {X2 : List Nat} {L2 : List (Nat × Obj)} (F : Nat) (hS : St w0 X L w) (hD : St w0 X2 L2 w) (hm : P.follows .mixedOrders = true) (h : ∀ w', w'.heap = w.heap → St w0 X L w' → St w0 X2 L2 w' → SatDM D P N l.toArray (NoPanic Q) (St w0 X2 L2) F l.length (List.replicate l.length false).toArray env w') : SatM D P N (.region id l.toArray true) Q env w :=
  SatM.drawn _ F hm (fun w' e k => h w' e (k _ _ hS) (k _ _ hD))
theorem SatDM.done {ops : Array Oper} {S : World → Prop} {F : Nat} {listed : Array Bool} (fuel : Nat) (hr : Region.ready .any ops listed = []) (h : SatEM D N Q .normal env w) : SatDM D P N ops (NoPanic Q) S F fuel listed env w := by
  refine ⟨fun a ha hd hcl => ?_⟩
  cases fuel with
  | zero => exact ⟨hr, h.out a ha hd⟩
  | succ n => exact ⟨fun _ => h.out a ha hd, by rw [hr]; simp⟩
variable {d : Nat} {op : Op} {ty : TypeId} {pos : String} {af : Array Edge} {g : Option (Nat × Bool)}
theorem SatDM.tkp {ops : Array Oper} {S : World → Prop} {F fuel : Nat} {listed : Array Bool} {op : Op} {v : Value} (i : Nat) (ho : ops[i]? = some ⟨some d, op, ty, pos, af, g⟩) (path : List Nat) (hS : S w) (hv : ∀ w, S w → RunV P N env w ⟨some d, op, ty, pos, af, g⟩ v) (h : SatDM D P N ops Q S F fuel (listed.setIfInBounds i true) ((d, v) :: env) w)
    (ht : takable ops F listed i path = true := by kernel_rfl) (hQ : ∀ c a w, Q (.panic c) (a.put (some d) v) w → Q (.panic c) a w := by exact fun _ _ _ h => h) (hg : guardOk ops env g = true := by rfl) (hd : Nat.blt d N = true := by rfl) : SatDM D P N ops Q S F (fuel + 1) listed env w := by
  simp only [takable, Bool.and_eq_true, Bool.not_eq_true', beq_eq_false_iff_ne] at ht
  exact ⟨fun a ha hD hcl => wpB_first (v := v) ho (Region.noSelect_spec ht.1.1.2) hQ ht.1.1.1.1 ht.1.1.1.2 fuel listed a w hcl (Region.free_spec ho ht.1.2) (by simpa using ht.2) (.inl ⟨guardOk_wanted (a := bare a) ha hg, fun w' hw' => (hv w' hw').out (bare a) ha⟩) hS
    (h.out _ (by rw [← bare_put]; exact ha.put (by simpa [Nat.blt_eq] using hd)) (by rw [put_defers]; exact hD) (closed_set hcl (by simpa using ht.2)))⟩
theorem SatDM.tk {ops : Array Oper} {S : World → Prop} {F fuel : Nat} {listed : Array Bool} {op : Op} {v : Value} (i : Nat) (ho : ops[i]? = some ⟨some d, op, ty, pos, af, g⟩) (hS : S w) (hv : ∀ w, S w → RunV P N env w ⟨some d, op, ty, pos, af, g⟩ v) (h : SatDM D P N ops Q S F fuel (listed.setIfInBounds i true) ((d, v) :: env) w)
    (ht : takable ops F listed i [] = true := by kernel_rfl) (hQ : ∀ c a w, Q (.panic c) (a.put (some d) v) w → Q (.panic c) a w := by exact fun _ _ _ h => h) (hg : guardOk ops env g = true := by rfl) (hd : Nat.blt d N = true := by rfl) : SatDM D P N ops Q S F (fuel + 1) listed env w :=
  SatDM.tkp i ho [] hS hv h ht hQ hg hd
theorem SatDM.sk {ops : Array Oper} {S : World → Prop} {F fuel : Nat} {listed : Array Bool} {op : Op} (i : Nat) (ho : ops[i]? = some ⟨some d, op, ty, pos, af, g⟩) (path : List Nat) (hS : S w) (h : SatDM D P N ops Q S F fuel (listed.setIfInBounds i true) ((d, undef) :: env) w)
    (ht : takable ops F listed i path = true := by kernel_rfl) (hQ : ∀ c a w, Q (.panic c) (a.put (some d) undef) w → Q (.panic c) a w := by exact fun _ _ _ h => h) (hg : guardNo ops env g = true := by rfl) (hd : Nat.blt d N = true := by rfl) : SatDM D P N ops Q S F (fuel + 1) listed env w := by
  simp only [takable, Bool.and_eq_true, Bool.not_eq_true', beq_eq_false_iff_ne] at ht
  exact ⟨fun a ha hD hcl => wpB_first (v := undef) ho (Region.noSelect_spec ht.1.1.2) hQ ht.1.1.1.1 ht.1.1.1.2 fuel listed a w hcl (Region.free_spec ho ht.1.2) (by simpa using ht.2) (.inr ⟨guardNo_wanted (a := bare a) ha hg, rfl⟩) hS
    (h.out _ (by rw [← bare_put]; exact ha.put (by simpa [Nat.blt_eq] using hd)) (by rw [put_defers]; exact hD) (closed_set hcl (by simpa using ht.2)))⟩
theorem SatDM.ef {ops : Array Oper} {S : World → Prop} {F fuel : Nat} {listed : Array Bool} {o : Oper} (i : Nat) (ho : ops[i]? = some o)
    (h : OpW P N o env w (fun env' w' => S w' ∧ SatDM D P N ops Q S F fuel (listed.setIfInBounds i true) env' w')) (hr : Region.ready .any ops listed = [i] := by kernel_rfl) (hg : guardOk ops env o.guard = true := by rfl) : SatDM D P N ops Q S F (fuel + 1) listed env w := by
  refine ⟨fun a ha hD hcl => wpB_all hr (by simp) fun j hj => ?_⟩
  obtain rfl : j = i := by simpa using hj
  unfold wpOp
  simp only [ho]
  rw [if_pos (guardOk_wanted (a := bare a) ha hg)]
  exact .inl (h.outM a Q _ ha hD (fun env' a' w' hs hA hd => ⟨.inr hs.1, hs.2.out a' hA hd (closed_set hcl (by rw [hr]; simp_all))⟩))
theorem SatDM.effF {ops : Array Oper} {S : World → Prop} {F fuel : Nat} {listed : Array Bool} {o : Oper} (hr : Region.ready .any ops listed = [F]) (ho : ops[F]? = some o) (hg : guardOk ops env o.guard = true)
    (h : OpW P N o env w (SatDM D P N ops Q S F fuel (listed.setIfInBounds F true))) : SatDM D P N ops Q S F (fuel + 1) listed env w := by
  refine ⟨fun a ha hD hcl => wpB_all hr (by simp) fun j hj => ?_⟩
  obtain rfl : j = F := by simpa using hj
  unfold wpOp
  simp only [ho]
  rw [if_pos (guardOk_wanted (a := bare a) ha hg)]
  exact .inl (h.outM a Q _ ha hD (fun env' a' w' hs hA hd => ⟨by simp, hs.out a' hA hd (closed_set hcl (by rw [hr]; simp_all))⟩))
end
end Go.Proofs.Ytdoinfpkfbfjaaa
