/- Ways that meet again behind a test. Over any program; no condition. -/
import Derived.Test.YtdoinfpkfbfjaaaK12
import Derived.KernelRfl
set_option linter.unusedVariables false
namespace Go.Proofs.Ytdoinfpkfbfjaaa
open Go.RowKit
section
variable {P : Program} {N : Nat} {Q : Exit → Act → World → Prop} {env : Env} {w : World}
/-- Where the ways meet. -/
def Met {G : Type} (N : Nat) (E : G → Env) (I : G → World → Prop) (a : Act) (w : World) : Prop := ∃ g, I g w ∧ Ag N (E g) a
theorem SatC.merge {G : Type} {x y : Code} (V : G → Env) (Cn : Env) (I : G → World → Prop) (hc : EnvSub env Cn) (h1 : SatC P N x (Exit.then (Met N (fun g => V g ++ Cn) I) Q) env w)
    (h2 : ∀ g w', I g w' → SatC P N y Q (V g ++ Cn) w') : SatC P N (.seq x y) Q env w := by
  refine SatC.seq ⟨fun a ha => Go.wp_mono (h1.out a ha) fun e a' w' he => ?_⟩
  cases e with
  | normal =>
    obtain ⟨g, hI, hA⟩ := he
    exact (h2 g w' hI).out a' hA
  | _ => exact he
theorem SatE.met {G : Type} {E : G → Env} {I : G → World → Prop} (g : G) (h1 : I g w) (h3 : EnvSub env (E g)) : SatE N (Exit.then (Met N E I) Q) .normal env w :=
  ⟨fun a ha => ⟨g, h1, ha.weak h3.look⟩⟩
/-! ### Short words for drawn regions -/
variable {d : Nat} {ty : TypeId} {pos : String} {af : Array Edge} {g : Option (Nat × Bool)}
theorem SatD.tk {ops : Array Oper} {S : World → Prop} {F fuel : Nat} {listed : Array Bool} {op : Op} {v : Value} (i : Nat) (ho : ops[i]? = some ⟨some d, op, ty, pos, af, g⟩) (hS : S w) (hv : ∀ w, S w → RunV P N env w ⟨some d, op, ty, pos, af, g⟩ v) (h : SatD P N ops Q S F fuel (listed.setIfInBounds i true) ((d, v) :: env) w)
    (ht : takable ops F listed i [] = true := by kernel_rfl) (hQ : ∀ c a w, Q (.panic c) (a.put (some d) v) w → Q (.panic c) a w := by exact fun _ _ _ h => h) (hg : guardOk ops env g = true := by rfl) (hd : Nat.blt d N = true := by rfl) : SatD P N ops Q S F (fuel + 1) listed env w :=
  SatD.take i ho [] ht hQ hg hd hS hv h
theorem SatD.tkp {ops : Array Oper} {S : World → Prop} {F fuel : Nat} {listed : Array Bool} {op : Op} {v : Value} (i : Nat) (ho : ops[i]? = some ⟨some d, op, ty, pos, af, g⟩) (path : List Nat) (hS : S w) (hv : ∀ w, S w → RunV P N env w ⟨some d, op, ty, pos, af, g⟩ v) (h : SatD P N ops Q S F fuel (listed.setIfInBounds i true) ((d, v) :: env) w)
    (ht : takable ops F listed i path = true := by kernel_rfl) (hQ : ∀ c a w, Q (.panic c) (a.put (some d) v) w → Q (.panic c) a w := by exact fun _ _ _ h => h) (hg : guardOk ops env g = true := by rfl) (hd : Nat.blt d N = true := by rfl) : SatD P N ops Q S F (fuel + 1) listed env w :=
  SatD.take i ho path ht hQ hg hd hS hv h
theorem SatD.sk {ops : Array Oper} {S : World → Prop} {F fuel : Nat} {listed : Array Bool} {op : Op} (i : Nat) (ho : ops[i]? = some ⟨some d, op, ty, pos, af, g⟩) (path : List Nat) (hS : S w) (h : SatD P N ops Q S F fuel (listed.setIfInBounds i true) ((d, undef) :: env) w)
    (ht : takable ops F listed i path = true := by kernel_rfl) (hQ : ∀ c a w, Q (.panic c) (a.put (some d) undef) w → Q (.panic c) a w := by exact fun _ _ _ h => h) (hg : guardNo ops env g = true := by rfl) (hd : Nat.blt d N = true := by rfl) : SatD P N ops Q S F (fuel + 1) listed env w :=
  SatD.skip i ho path ht hQ hg hd hS h
theorem SatD.ef {ops : Array Oper} {S : World → Prop} {F fuel : Nat} {listed : Array Bool} {o : Oper} (i : Nat) (ho : ops[i]? = some o)
    (h : OpW P N o env w (fun env' w' => S w' ∧ SatD P N ops Q S F fuel (listed.setIfInBounds i true) env' w')) (hr : Region.ready .any ops listed = [i] := by kernel_rfl) (hg : guardOk ops env o.guard = true := by rfl) : SatD P N ops Q S F (fuel + 1) listed env w :=
  SatD.eff i hr ho hg h
theorem SatD.relist {ops : Array Oper} {S : World → Prop} {F fuel : Nat} {listed l' : Array Bool} (e : listed = l') (h : SatD P N ops Q S F fuel l' env w) : SatD P N ops Q S F fuel listed env w := e ▸ h
theorem SatD.weak {ops : Array Oper} {S : World → Prop} {F fuel : Nat} {listed : Array Bool} {e' : Env} (hs : EnvSub env e') (h : SatD P N ops Q S F fuel listed e' w) : SatD P N ops Q S F fuel listed env w := ⟨fun a ha hcl => h.out a (ha.weak hs.look) hcl⟩
variable {w0 : World} {X : List Nat}
theorem SatD.node0 {ops : Array Oper} {S : World → Prop} {F fuel fuelN : Nat} {listed listedN : Array Bool} {L : List (Nat × Obj)} {E : Env} (h1 : (∀ (w' : World), St w0 X (L) w' → S w' → SatD P N ops Q S F fuelN listedN (E) w') → SatD P N ops Q S F fuel listed env w) (h2 : ∀ (w' : World), St w0 X (L) w' → S w' → SatD P N ops Q S F fuelN listedN (E) w') : SatD P N ops Q S F fuel listed env w := h1 h2
theorem SatD.node1 {ops : Array Oper} {S : World → Prop} {F fuel fuelN : Nat} {listed listedN : Array Bool} {L : Nat → List (Nat × Obj)} {E : Nat → Env} (h1 : (∀ (b0 : Nat) (w' : World), St w0 X (L b0) w' → S w' → SatD P N ops Q S F fuelN listedN (E b0) w') → SatD P N ops Q S F fuel listed env w) (h2 : ∀ (b0 : Nat) (w' : World), St w0 X (L b0) w' → S w' → SatD P N ops Q S F fuelN listedN (E b0) w') : SatD P N ops Q S F fuel listed env w := h1 h2
theorem SatD.node2 {ops : Array Oper} {S : World → Prop} {F fuel fuelN : Nat} {listed listedN : Array Bool} {L : Nat → Nat → List (Nat × Obj)} {E : Nat → Nat → Env} (h1 : (∀ (b0 b1 : Nat) (w' : World), St w0 X (L b0 b1) w' → S w' → SatD P N ops Q S F fuelN listedN (E b0 b1) w') → SatD P N ops Q S F fuel listed env w) (h2 : ∀ (b0 b1 : Nat) (w' : World), St w0 X (L b0 b1) w' → S w' → SatD P N ops Q S F fuelN listedN (E b0 b1) w') : SatD P N ops Q S F fuel listed env w := h1 h2
theorem SatD.node3 {ops : Array Oper} {S : World → Prop} {F fuel fuelN : Nat} {listed listedN : Array Bool} {L : Nat → Nat → Nat → List (Nat × Obj)} {E : Nat → Nat → Nat → Env} (h1 : (∀ (b0 b1 b2 : Nat) (w' : World), St w0 X (L b0 b1 b2) w' → S w' → SatD P N ops Q S F fuelN listedN (E b0 b1 b2) w') → SatD P N ops Q S F fuel listed env w) (h2 : ∀ (b0 b1 b2 : Nat) (w' : World), St w0 X (L b0 b1 b2) w' → S w' → SatD P N ops Q S F fuelN listedN (E b0 b1 b2) w') : SatD P N ops Q S F fuel listed env w := h1 h2
theorem SatD.node4 {ops : Array Oper} {S : World → Prop} {F fuel fuelN : Nat} {listed listedN : Array Bool} {L : Nat → Nat → Nat → Nat → List (Nat × Obj)} {E : Nat → Nat → Nat → Nat → Env} (h1 : (∀ (b0 b1 b2 b3 : Nat) (w' : World), St w0 X (L b0 b1 b2 b3) w' → S w' → SatD P N ops Q S F fuelN listedN (E b0 b1 b2 b3) w') → SatD P N ops Q S F fuel listed env w) (h2 : ∀ (b0 b1 b2 b3 : Nat) (w' : World), St w0 X (L b0 b1 b2 b3) w' → S w' → SatD P N ops Q S F fuelN listedN (E b0 b1 b2 b3) w') : SatD P N ops Q S F fuel listed env w := h1 h2
theorem SatD.node5 {ops : Array Oper} {S : World → Prop} {F fuel fuelN : Nat} {listed listedN : Array Bool} {L : Nat → Nat → Nat → Nat → Nat → List (Nat × Obj)} {E : Nat → Nat → Nat → Nat → Nat → Env} (h1 : (∀ (b0 b1 b2 b3 b4 : Nat) (w' : World), St w0 X (L b0 b1 b2 b3 b4) w' → S w' → SatD P N ops Q S F fuelN listedN (E b0 b1 b2 b3 b4) w') → SatD P N ops Q S F fuel listed env w) (h2 : ∀ (b0 b1 b2 b3 b4 : Nat) (w' : World), St w0 X (L b0 b1 b2 b3 b4) w' → S w' → SatD P N ops Q S F fuelN listedN (E b0 b1 b2 b3 b4) w') : SatD P N ops Q S F fuel listed env w := h1 h2
theorem SatD.node6 {ops : Array Oper} {S : World → Prop} {F fuel fuelN : Nat} {listed listedN : Array Bool} {L : Nat → Nat → Nat → Nat → Nat → Nat → List (Nat × Obj)} {E : Nat → Nat → Nat → Nat → Nat → Nat → Env} (h1 : (∀ (b0 b1 b2 b3 b4 b5 : Nat) (w' : World), St w0 X (L b0 b1 b2 b3 b4 b5) w' → S w' → SatD P N ops Q S F fuelN listedN (E b0 b1 b2 b3 b4 b5) w') → SatD P N ops Q S F fuel listed env w) (h2 : ∀ (b0 b1 b2 b3 b4 b5 : Nat) (w' : World), St w0 X (L b0 b1 b2 b3 b4 b5) w' → S w' → SatD P N ops Q S F fuelN listedN (E b0 b1 b2 b3 b4 b5) w') : SatD P N ops Q S F fuel listed env w := h1 h2
end
end Go.Proofs.Ytdoinfpkfbfjaaa
