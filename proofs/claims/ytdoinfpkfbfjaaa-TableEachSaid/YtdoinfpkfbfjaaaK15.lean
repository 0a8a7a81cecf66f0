/- Texts cut; entries without Go text; function values with arguments of their own; the library's cuts. Over any program; no condition. -/
import Derived.Test.YtdoinfpkfbfjaaaK13
import Derived.Laws.Externs
import Derived.Lib.Bytealg
set_option linter.unusedVariables false
set_option linter.unusedSimpArgs false
namespace Go.Proofs.Ytdoinfpkfbfjaaa
open Go.RowKit Go.Lib
section
variable {P : Program} {N : Nat} {env : Env} {w w0 : World} {X : List Nat} {L L' : List (Nat × Obj)} {K : Env → World → Prop} {dd : Option Nat} {d : Nat} {ty : TypeId} {pos : String} {af : Array Edge} {g : Option (Nat × Bool)} {t t2 : TypeId} {x y z : Operand} {a b : List UInt8}
theorem ext_take (l : List UInt8) (n : Nat) : (⟨l.toArray⟩ : ByteArray).extract 0 n = ⟨(l.take n).toArray⟩ := by
  apply ByteArray.ext
  simp [ByteArray.data_extract]
theorem ext_drop (l : List UInt8) (n : Nat) : (⟨l.toArray⟩ : ByteArray).extract n (⟨l.toArray⟩ : ByteArray).size = ⟨(l.drop n).toArray⟩ := by
  apply ByteArray.ext
  simp [ByteArray.data_extract, ByteArray.size]
  exact List.take_of_length_le (by simp)
theorem RunV.cutSH {k : IntKind} {h : Int} (hx : evO env x = some (str a)) (hz : evO env z = some (.int k h)) (hu : P.underlying t = some .string) (h0 : 0 ≤ h) (h1 : h ≤ (a.length : Int)) :
    RunV P N env w ⟨dd, .slice t x none (some z) none, ty, pos, af, g⟩ (str (a.take h.toNat)) := ⟨fun c hc => by
  have hsz : (⟨a.toArray⟩ : ByteArray).size = a.length := by simp [ByteArray.size]
  have := run_slice_string_h (P := P) w t ⟨a.toArray⟩ hu k h h0 (by rw [hsz]; exact h1)
  rw [ext_take] at this
  simp only [execOp, hc.ev hx, hc.ev hz, Option.map_some, Option.map_none, Sem.run_bind, run_sliceAt_string (P := P) w t _ _ _ _ hu, this, Result.andThen_ok, Sem.run_pure]⟩
theorem RunV.cutSL {k : IntKind} {l : Int} (hx : evO env x = some (str a)) (hy : evO env y = some (.int k l)) (hu : P.underlying t = some .string) (h0 : 0 ≤ l) (h1 : l ≤ (a.length : Int)) :
    RunV P N env w ⟨dd, .slice t x (some y) none none, ty, pos, af, g⟩ (str (a.drop l.toNat)) := ⟨fun c hc => by
  have hsz : (⟨a.toArray⟩ : ByteArray).size = a.length := by simp [ByteArray.size]
  have := run_slice_string_l (P := P) w t ⟨a.toArray⟩ hu k l h0 (by rw [hsz]; exact h1)
  rw [ext_drop] at this
  simp only [execOp, hc.ev hx, hc.ev hy, Option.map_some, Option.map_none, Sem.run_bind, run_sliceAt_string (P := P) w t _ _ _ _ hu, this, Result.andThen_ok, Sem.run_pure]⟩
/-- A call of an entry that has no Go text. -/
theorem RunV.extern {f : FuncId} {fn : Func} {e : Array Value → Sem Value} {xs : List Operand} {ats : Array TypeId} {vs : List Value} {v : Value} (hf : P.funcs[f]? = some fn) (hname : (fn.name == "runtime.NumGoroutine") = false)
    (hb : fn.body.isNone = true) (hn : Extern.findNext fn = none) (he : Extern.find fn = some e) (hx : evL env xs = some vs) (hr : (e vs.toArray).run P w = .ok v w) :
    RunV P N env w ⟨dd, .call { callee := .value (.func f), args := xs.toArray, argTypes := ats }, ty, pos, af, g⟩ v := ⟨fun c hc => by
  have h1 := hc.evL hx
  have h2 : (xs.toArray.map c.eval) = vs.toArray := by rw [← h1]; simp
  have h3 := run_callFunc_extern hf hname hb hn he vs.toArray w
  rw [hr] at h3
  simp only [execOp, resolve, h2, Act.eval, Deferred.ofValue, Sem.run_bind, Sem.run_pure, Result.andThen_ok, invoke, Array.empty_append, Array.append_empty]
  simpa using h3⟩
/-- A call of a function value that brings arguments of its own. -/
theorem OpW.enterF {f : FuncId} {xs : List Operand} {fo : Operand} {ats : Array TypeId} {fs vs : List Value} {cap : List Value} {R : Value → World → Prop} (hfo : evO env fo = some (.func (.func f) fs.toArray cap.toArray)) (hx : evL env xs = some vs) (hd : Nat.blt d N = true) (hf : enters P f = true)
    (hc : Ret P f (fs ++ vs ++ cap).toArray w R) (h : ∀ v w', R v w' → K ((d, v) :: env) w') : OpW P N ⟨some d, .call { callee := .value fo, args := xs.toArray, argTypes := ats }, ty, pos, af, g⟩ env w K := by
  refine OpW.enterX (fun a ha => ?_) hd hc h
  have h1 := ha.ev hfo
  have h2 := ha.evL hx
  have h3 : (xs.toArray.map a.eval) = vs.toArray := by rw [← h2]; simp
  simp only [execOp, resolve, h1, h3, Deferred.ofValue, Sem.run_bind, Sem.run_pure, Result.andThen_ok, invoke]
  have : fs.toArray ++ vs.toArray ++ cap.toArray = (fs ++ vs ++ cap).toArray := by simp
  simp [this, run_callFunc hf]
end
theorem str_max {s : ByteArray} (h : s.size ≤ maxLen) : s.data.toList.length ≤ 9223372036854775807 := by
  have e : s.data.toList.length = s.size := by rw [Array.length_toList]; rfl
  unfold maxLen at h
  omega
/-- Where a byte comes first. -/
theorem idx_spec (c : UInt8) : ∀ (l : List UInt8), (indexByte l c = -1 ∧ ¬ c ∈ l) ∨ ∃ n : Nat, indexByte l c = (n : Int) ∧ n < l.length ∧ l[n]? = some c ∧ ¬ c ∈ l.take n
  | [] => .inl ⟨rfl, by simp⟩
  | b :: l => by
    unfold indexByte
    by_cases e : b = c
    · subst e
      exact .inr ⟨0, by simp, by simp, by simp, by simp⟩
    · rw [if_neg (by simpa using e)]
      rcases idx_spec c l with ⟨h1, h2⟩ | ⟨n, h1, h2, h3, h4⟩
      · rw [h1, if_pos (by decide)]
        exact .inl ⟨rfl, by simp [h2, Ne.symm e]⟩
      · have hne : ¬ ((indexByte l c == -1) = true) := by rw [h1]; simp <;> omega
        rw [if_neg hne, h1]
        exact .inr ⟨n + 1, by omega, by simp; omega, by simpa using h3, by simp [h4, Ne.symm e]⟩
end Go.Proofs.Ytdoinfpkfbfjaaa
