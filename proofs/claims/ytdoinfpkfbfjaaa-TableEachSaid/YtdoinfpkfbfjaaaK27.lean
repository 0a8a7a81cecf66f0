/- A slice inside a struct argument is no longer than memory holds; a slice's block taken out of others; a store to a symbolic cell. -/
import Derived.Test.YtdoinfpkfbfjaaaK12
import Derived.Test.YtdoinfpkfbfjaaaK17
import Derived.Test.YtdoinfpkfbfjaaaK25
set_option linter.unusedSimpArgs false
set_option linter.unusedVariables false
set_option maxHeartbeats 1000000
namespace Go.Proofs.Ytdoinfpkfbfjaaa
open Go Go.Proofs Go.RowKit
section
variable {H : Type} {enc : TypeId × Value → H} {P : Program} {w : World} {held : Bool}
theorem field_len {ts : List TypeId} {ds : List (DataW H)} {j i : Nat} {t e : TypeId} {v u : Value} {d : DataW H} {ps : List MemPlace} {k n : Nat} {fs : Array Field} {f : Field} {xs : List (List Value)} (hsz : (DataW.weightsEach P ts ds).all (· ≤ reachBytes) = true) (ht : ts[j]? = some t) (hd : ds[j]? = some d)
    (hu : P.underlying t = some (.struct fs)) (hf : fs[i]? = some f) (hc1 : P.cellsOf f.type = 1) (he : P.underlying f.type = some (.slice e)) (hb : P.bytesOf e = n) (h : DataW.Trod enc P w 0 (fun _ => true) held t v d ps) (hv : v.cells.toList[f.offset]? = some u) (hr : RdRow w u k xs) : xs.length * n ≤ 140737488351232 := by
  obtain ⟨m, hm⟩ := h
  obtain ⟨A, cap', rfl, hle, _, _⟩ := hr
  obtain ⟨ys, n', rfl, hx, hlen, hys, hall⟩ := DataW.trod_struct hu hm
  have hi := hall i f hf
  have hil : i < ys.length := by rw [hys]; exact (Array.getElem?_eq_some_iff.1 hf).1
  rw [List.getElem?_eq_getElem hil] at hi
  have hcell : (v.cells.toList.drop f.offset).take (P.cellsOf f.type) = [.slice A xs.length cap'] := by
    rw [hc1, List.take_one, List.head?_drop, hv]; rfl
  rw [hcell] at hi
  simp only [Prod.mk.injEq] at hx
  have hmem : ∀ q ∈ (ys[i]).1.weights P f.type, q ∈ DataW.weightsEach P ts ds := by
    intro q hq
    refine DataW.weights_mem_each ht hd q ?_
    rw [hx.1]
    simp only [DataW.weights, hu]
    exact DataW.weights_mem_each (j := i) (by simpa using congrArg (Option.map (·.type)) hf) (by simp [hil]) q hq
  rcases Go.Deep.open_slice he hi with ⟨hcs, _⟩ | ⟨a, len1, cap1, m', n'', D, Pl, hcs, _, hle1, hcap, hm', hx2, _⟩
  · simp only [List.cons.injEq, Value.slice.injEq, and_true] at hcs
    rw [hcs.2.1]
    omega
  · simp only [List.cons.injEq, Value.slice.injEq, and_true] at hcs
    obtain ⟨rfl, h1, rfl⟩ := hcs
    have hw : ((len1 + (m' - len1)) * P.bytesOf e) ∈ (ys[i]).1.weights P f.type := by
      rw [hx2]
      simp [DataW.weights, he]
    have hs := List.all_eq_true.1 hsz _ (hmem _ hw)
    have hR : reachBytes = 140737488351232 := rfl
    rw [hb, hR] at hs
    simp only [decide_eq_true_eq] at hs
    rw [h1]
    exact Nat.le_trans (Nat.mul_le_mul_right _ (by omega)) hs
end
section
variable {w0 w : World} {X : List Nat} {L L' : List (Nat × Obj)}
theorem take_out {T k : Nat} {v : Value} {rows : List (List Value)} {B D : List (Nat × Obj)} (h : Sl T k v rows B) (hin : ∀ c ∈ B, c ∈ D) : ∃ R, D.Perm (B ++ R) := by
  cases h with
  | nil => exact ⟨D, List.Perm.refl _⟩
  | own =>
    obtain ⟨s, t, rfl⟩ := List.append_of_mem (hin _ List.mem_cons_self)
    exact ⟨s ++ t, List.perm_middle⟩
end
section
variable {P : Program} {N : Nat} {env : Env} {w : World} {ty : TypeId} {pos : String} {af : Array Edge} {g : Option (Nat × Bool)} {dd : Option Nat}
/-- A cell of a row, its place said in whatever way. -/
theorem RunV.loadR1g {t : TypeId} {x : Operand} {b o k a : Nat} {xs : List (List Value)} {r : List Value} {v : Value} (i j : Nat) (hc : RdC w b o k xs) (hx : evO env x = some (.pointer (some ⟨b, a, none⟩))) (hr : rowSz P t = some none) (ha : a = o + (i * k + j)) (hi : xs[i]? = some r) (hj : r[j]? = some v) :
    RunV P N env w ⟨dd, .load t x, ty, pos, af, g⟩ v := RunV.loadC hx hr (by rw [ha]; exact (hc i r hi).2 j v hj)
end
end Go.Proofs.Ytdoinfpkfbfjaaa
