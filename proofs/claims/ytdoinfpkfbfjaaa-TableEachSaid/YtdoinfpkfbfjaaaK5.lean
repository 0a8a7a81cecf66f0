/- Operations that only compute, each by a law of its own. Over any program; no condition. -/
import Derived.Test.YtdoinfpkfbfjaaaK4
set_option linter.unusedVariables false
set_option linter.unusedSimpArgs false
namespace Go.Proofs.Ytdoinfpkfbfjaaa
open Go.RowKit

section
variable {P : Program} {N : Nat} {env : Env} {w w0 : World} {X : List Nat} {L L' : List (Nat × Obj)} {K : Env → World → Prop}
variable {d : Option Nat} {ty : TypeId} {pos : String} {af : Array Edge} {g : Option (Nat × Bool)}

theorem RunV.move {x : Operand} {v : Value} (hx : evO env x = some v) : RunV P N env w ⟨d, .move x, ty, pos, af, g⟩ v := ⟨fun a ha => by simp [execOp, ha.ev hx]⟩
theorem RunV.assign {x : Operand} {v : Value} (hx : evO env x = some v) : RunV P N env w ⟨d, .assign x, ty, pos, af, g⟩ v := ⟨fun a ha => by simp [execOp, ha.ev hx]⟩
theorem RunV.pick_t {c x y : Operand} {v : Value} (hc : evO env c = some (.bool true)) (hx : evO env x = some v) : RunV P N env w ⟨d, .pick c x y, ty, pos, af, g⟩ v := ⟨fun a ha => by simp [execOp, ha.ev hx, ha.ev hc, asBool]⟩
theorem RunV.pick_f {c x y : Operand} {v : Value} (hc : evO env c = some (.bool false)) (hy : evO env y = some v) : RunV P N env w ⟨d, .pick c x y, ty, pos, af, g⟩ v := ⟨fun a ha => by simp [execOp, ha.ev hy, ha.ev hc, asBool]⟩
theorem RunV.nil_ptr {x : Operand} {p : Addr} (hx : evO env x = some (.pointer (some p))) : RunV P N env w ⟨d, .nilCheck x, ty, pos, af, g⟩ (.pointer (some p)) := ⟨fun a ha => by simp [execOp, ha.ev hx]⟩
theorem RunV.nil_func {x : Operand} {f : FuncId} {fi cp : Array Value} (hx : evO env x = some (.func (.func f) fi cp)) : RunV P N env w ⟨d, .nilCheck x, ty, pos, af, g⟩ (.func (.func f) fi cp) := ⟨fun a ha => by simp [execOp, ha.ev hx]⟩
theorem RunV.nil_yield {x : Operand} {f : Nat} {fi cp : Array Value} (hx : evO env x = some (.func (.yield f) fi cp)) : RunV P N env w ⟨d, .nilCheck x, ty, pos, af, g⟩ (.func (.yield f) fi cp) := ⟨fun a ha => by simp [execOp, ha.ev hx]⟩
theorem RunV.not {x : Operand} {b : Bool} {t : TypeId} (hx : evO env x = some (.bool b)) : RunV P N env w ⟨d, .unOp .not t x, ty, pos, af, g⟩ (.bool !b) := ⟨fun a ha => by simp [execOp, ha.ev hx, Op.unary]⟩
theorem RunV.extract {x : Operand} {vs : List Value} {i : Nat} {v : Value} (hx : evO env x = some (.tuple vs.toArray)) (hv : vs[i]? = some v) : RunV P N env w ⟨d, .extract x i, ty, pos, af, g⟩ v := ⟨fun a ha => by simp [execOp, ha.ev hx, Instr.extract, hv]⟩
theorem RunV.mkFunc {f : FuncId} {xs : List Operand} {vs : List Value} (hx : evL env xs = some vs) : RunV P N env w ⟨d, .makeFunc (.func f) #[] xs.toArray, ty, pos, af, g⟩ (.func (.func f) #[] vs.toArray) := ⟨fun a ha => by
  have := ha.evL hx
  simp [execOp, Instr.makeFunc, ← this]⟩
theorem RunV.mkFunc1 {f : FuncId} {ys xs : List Operand} {us vs : List Value} (hy : evL env ys = some us) (hx : evL env xs = some vs) : RunV P N env w ⟨d, .makeFunc (.func f) ys.toArray xs.toArray, ty, pos, af, g⟩ (.func (.func f) us.toArray vs.toArray) := ⟨fun a ha => by
  have h1 := ha.evL hx
  have h2 := ha.evL hy
  simp [execOp, Instr.makeFunc, ← h1, ← h2]⟩

/-! ### Places -/
def fieldOff (P : Program) (t : TypeId) (f : Nat) : Option Nat :=
  match P.underlying t with
  | some (.struct fs) => match fs[f]? with
    | some fd => match P.info? fd.type with
      | some i => if i.size = 0 then none else some fd.offset
      | none => none
    | none => none
  | _ => none
theorem RunV.fieldAddr {t : TypeId} {x : Operand} {f b o k r : Nat} (hx : evO env x = some (.pointer (some ⟨b, o, none⟩))) (hf : (fieldOff P t f).bind lit = some k) (hr : o + k = r) : RunV P N env w ⟨d, .fieldAddr t x f, ty, pos, af, g⟩ (.pointer (some ⟨b, r, none⟩)) := ⟨fun a ha => by
  obtain ⟨k', hf', hk'⟩ := Option.bind_eq_some_iff.1 hf
  have hkk := lit_eq hk'
  clear hf hk'
  subst hkk
  unfold fieldOff at hf'
  split at hf'
  · rename_i fs hu
    split at hf'
    · rename_i fd hfd
      split at hf'
      · rename_i i hi
        split at hf'
        · cases hf'
        · rename_i hz
          obtain rfl : fd.offset = k' := by simpa using hf'
          have hadd : (⟨b, o, none⟩ : Addr).add fd.offset = ⟨b, r, none⟩ := by rw [← hr]; unfold Addr.add; split <;> simp_all
          simp only [execOp, ha.ev hx, Instr.fieldAt, Sem.run_bind, run_underlying hu w, Result.andThen_ok, hfd, Instr.sureAddr, Sem.run_pure, fieldPlace, sizeOf, typeInfo, run_program, hi]
          simp [hz, hadd]
      · cases hf'
    · cases hf'
  · cases hf'⟩
theorem RunV.fieldAddrL {t : TypeId} {x : Operand} {f b o k r : Nat} (hx : evO env x = some (.pointer (some ⟨b, o, none⟩))) (hf : (fieldOff P t f).bind lit = some k) (hr : lit (o + k) = some r) : RunV P N env w ⟨d, .fieldAddr t x f, ty, pos, af, g⟩ (.pointer (some ⟨b, r, none⟩)) := RunV.fieldAddr hx hf (lit_eq hr)
/-- A field's place and type. -/
def fieldAtV (P : Program) (t : TypeId) (f : Nat) : Option (Nat × TypeId) :=
  match P.underlying t with
  | some (.struct fs) => match fs[f]? with
    | some fd => match lit fd.offset, lit fd.type with
      | some o, some t' => some (o, t')
      | _, _ => none
    | none => none
  | _ => none
theorem run_part1 {t : TypeId} {cs : List Value} {k : Nat} {v : Value} (hr : rowSz P t = some none) (hv : cs[k]? = some v) : (part t cs.toArray k).run P w = .ok v w := by
  unfold rowSz at hr
  have hagg : (isAgg t).run P w = .ok false w := by
    unfold isAgg
    rw [Sem.run_bind]
    cases hu : P.underlying t with
    | none => rw [hu] at hr; cases hr
    | some d =>
      rw [run_underlying hu w]
      rw [hu] at hr
      cases d <;> simp_all
  simp [part, Sem.run_bind, hagg, hv]
theorem extract_seg {cs vs : List Value} {k n : Nat} (h : IsSeg cs k n vs) : cs.toArray.extract k (k + n) = vs.toArray := by
  have hs := h.spec
  have hle : k + n ≤ cs.length ∨ n = 0 := by
    rcases Nat.eq_zero_or_pos n with h0 | h0
    · exact .inr h0
    · have := hs.2 (n - 1) (vs[n - 1]'(by omega)) (by simp)
      have := (List.getElem?_eq_some_iff.1 this).1
      exact .inl (by omega)
  apply Array.ext'
  apply List.ext_getElem?
  intro j
  by_cases hj : j < n
  · have := hs.2 j (vs[j]'(by omega)) (by simp)
    simp [hj, this, show j < vs.length by omega]
  · have : vs.length ≤ j := by omega
    simp [hj, List.getElem?_eq_none this]
    omega
theorem run_partN {t : TypeId} {cs vs : List Value} {k n : Nat} (hr : rowSz P t = some (some n)) (hv : IsSeg cs k n vs) : (part t cs.toArray k).run P w = .ok (.agg vs.toArray) w := by
  unfold rowSz at hr
  cases hu : P.underlying t with
  | none => rw [hu] at hr; cases hr
  | some d =>
    rw [hu] at hr
    have hd : (match d with | .struct _ | .array _ _ => true | _ => false) = true ∧ ∃ i, P.info? t = some i ∧ i.size = n := by
      cases d <;> first | (obtain ⟨i, hi, he⟩ := Option.map_eq_some_iff.1 hr; exact ⟨rfl, i, hi, by simpa using he⟩) | (exact absurd hr (by simp))
    obtain ⟨hd, i, hi, rfl⟩ := hd
    have hagg : (isAgg t).run P w = .ok true w := by
      unfold isAgg
      rw [Sem.run_bind, run_underlying hu w]
      cases d <;> first | rfl | (exact absurd hd (by simp))
    have he := extract_seg hv
    simp only [part, Sem.run_bind, hagg, Result.andThen_ok, if_true, sizeOf, typeInfo, run_program, hi, Sem.run_pure, he]
theorem RunV.field1 {t ft : TypeId} {x : Operand} {f k : Nat} {cs : List Value} {v : Value} (hx : evO env x = some (.agg cs.toArray)) (hf : fieldAtV P t f = some (k, ft)) (hr : rowSz P ft = some none) (hv : cs[k]? = some v) : RunV P N env w ⟨d, .field t x f, ty, pos, af, g⟩ v := ⟨fun a ha => by
  unfold fieldAtV at hf
  split at hf
  · rename_i fs hu
    split at hf
    · rename_i fd hfd
      split at hf
      rotate_left
      · cases hf
      rename_i o t' ho ht'
      obtain rfl := lit_eq ho
      obtain rfl := lit_eq ht'
      simp only [Option.some.injEq, Prod.mk.injEq] at hf
      obtain ⟨rfl, rfl⟩ := hf
      have := run_part1 (P := P) (w := w) hr hv
      simp only [execOp, ha.ev hx, Instr.field, Sem.run_bind, run_underlying hu w, Result.andThen_ok, hfd, asAgg, Sem.run_pure, this]
    · cases hf
  · cases hf⟩
theorem RunV.fieldN {t ft : TypeId} {x : Operand} {f k n : Nat} {cs vs : List Value} (hx : evO env x = some (.agg cs.toArray)) (hf : fieldAtV P t f = some (k, ft)) (hr : rowSzL P ft = some n) (hv : IsSeg cs k n vs) : RunV P N env w ⟨d, .field t x f, ty, pos, af, g⟩ (.agg vs.toArray) := ⟨fun a ha => by
  unfold fieldAtV at hf
  split at hf
  · rename_i fs hu
    split at hf
    · rename_i fd hfd
      split at hf
      rotate_left
      · cases hf
      rename_i o t' ho ht'
      obtain rfl := lit_eq ho
      obtain rfl := lit_eq ht'
      simp only [Option.some.injEq, Prod.mk.injEq] at hf
      obtain ⟨rfl, rfl⟩ := hf
      have := run_partN (P := P) (w := w) (rowSzL_eq hr) hv
      simp only [execOp, ha.ev hx, Instr.field, Sem.run_bind, run_underlying hu w, Result.andThen_ok, hfd, asAgg, Sem.run_pure, this]
    · cases hf
  · cases hf⟩
def elemSz (P : Program) (t : TypeId) : Option Nat :=
  match P.underlying t with
  | some (.slice e) => (P.info? e).map (·.size)
  | _ => none
def arrSz (P : Program) (t : TypeId) : Option (Nat × Nat) :=
  match P.underlying t with
  | some (.array n e) => match P.info? e with
    | some i => match lit n, lit i.size with
      | some n', some s' => some (n', s')
      | _, _ => none
    | none => none
  | _ => none
theorem add_pl (b o n : Nat) : (⟨b, o, none⟩ : Addr).add n = ⟨b, o + n, none⟩ := by unfold Addr.add; split <;> simp_all
theorem RunV.indexS {t : TypeId} {x y : Operand} {b o n c sz r : Nat} {k : IntKind} {i : Int} (hx : evO env x = some (.slice (some ⟨b, o, none⟩) n c)) (hy : evO env y = some (.int k i)) (hs : (elemSz P t).bind lit = some sz) (h0 : 0 ≤ i) (h1 : i < (n : Int)) (hr : o + i.toNat * sz = r) :
    RunV P N env w ⟨d, .indexAddr t x y, ty, pos, af, g⟩ (.pointer (some ⟨b, r, none⟩)) := ⟨fun a ha => by
  obtain ⟨sz', hs1, hsz'⟩ := Option.bind_eq_some_iff.1 hs
  have hkk := lit_eq hsz'
  clear hs hsz'
  subst hkk
  unfold elemSz at hs1
  split at hs1
  · rename_i e hu
    obtain ⟨inf, hi, rfl⟩ := Option.map_eq_some_iff.1 hs1
    simp only [execOp, ha.ev hx, ha.ev hy, Instr.indexAt, asIntOf, Sem.run_bind, run_underlying hu w, Result.andThen_ok, Sem.run_pure]
    simp [h0, h1, sizeOf, typeInfo, hi, add_pl, hr]
  · cases hs1⟩
theorem RunV.indexA {t : TypeId} {x y : Operand} {b o n sz r : Nat} {k : IntKind} {i : Int} (hx : evO env x = some (.pointer (some ⟨b, o, none⟩))) (hy : evO env y = some (.int k i)) (hs : arrSz P t = some (n, sz)) (h0 : 0 ≤ i) (h1 : i < (n : Int)) (hr : o + i.toNat * sz = r) :
    RunV P N env w ⟨d, .indexAddr t x y, ty, pos, af, g⟩ (.pointer (some ⟨b, r, none⟩)) := ⟨fun a ha => by
  unfold arrSz at hs
  split at hs
  · rename_i m e hu
    split at hs
    rotate_left
    · cases hs
    rename_i inf hi
    split at hs
    rotate_left
    · cases hs
    rename_i n' s' hn' hs'
    obtain rfl := lit_eq hn'
    obtain rfl := lit_eq hs'
    simp only [Option.some.injEq, Prod.mk.injEq] at hs
    obtain ⟨rfl, rfl⟩ := hs
    simp only [execOp, ha.ev hx, ha.ev hy, Instr.indexAt, asIntOf, Sem.run_bind, run_underlying hu w, Result.andThen_ok, Sem.run_pure, Instr.sureAddr]
    simp [h0, h1, sizeOf, typeInfo, hi, add_pl, hr]
  · cases hs⟩
theorem RunV.indexSL {t : TypeId} {x y : Operand} {b o n c sz r : Nat} {k : IntKind} {i : Int} (hx : evO env x = some (.slice (some ⟨b, o, none⟩) n c)) (hy : evO env y = some (.int k i)) (hs : (elemSz P t).bind lit = some sz) (h0 : 0 ≤ i) (h1 : i < (n : Int)) (hr : lit (o + i.toNat * sz) = some r) :
    RunV P N env w ⟨d, .indexAddr t x y, ty, pos, af, g⟩ (.pointer (some ⟨b, r, none⟩)) := RunV.indexS hx hy hs h0 h1 (lit_eq hr)
theorem RunV.indexAL {t : TypeId} {x y : Operand} {b o n sz r : Nat} {k : IntKind} {i : Int} (hx : evO env x = some (.pointer (some ⟨b, o, none⟩))) (hy : evO env y = some (.int k i)) (hs : arrSz P t = some (n, sz)) (h0 : 0 ≤ i) (h1 : i < (n : Int)) (hr : lit (o + i.toNat * sz) = some r) :
    RunV P N env w ⟨d, .indexAddr t x y, ty, pos, af, g⟩ (.pointer (some ⟨b, r, none⟩)) := RunV.indexA hx hy hs h0 h1 (lit_eq hr)
/-- An array's value, indexed. -/
theorem RunV.indexV1 {t e : TypeId} {x y : Operand} {cs : List Value} {n : Nat} {k : IntKind} {i : Int} {v : Value} (hx : evO env x = some (.agg cs.toArray)) (hy : evO env y = some (.int k i)) (hu : P.underlying t = some (.array n e)) (hr : rowSz P e = some none) (hs : (P.info? e).map (·.size) = some 1)
    (h0 : 0 ≤ i) (h1 : i < (n : Int)) (hv : cs[i.toNat]? = some v) : RunV P N env w ⟨d, .index t x y, ty, pos, af, g⟩ v := ⟨fun a ha => by
  obtain ⟨inf, hi, he⟩ := Option.map_eq_some_iff.1 hs
  have := run_part1 (P := P) (w := w) hr hv
  simp only [execOp, ha.ev hx, ha.ev hy, Instr.index, asIntOf, Sem.run_bind, run_underlying hu w, Result.andThen_ok, Sem.run_pure]
  simp [h0, h1, sizeOf, typeInfo, hi, he, this]⟩
theorem RunV.indexStr {t : TypeId} {x y : Operand} {s : ByteArray} {k : IntKind} {i : Int} (hx : evO env x = some (.string s)) (hy : evO env y = some (.int k i)) (hu : P.underlying t = some .string) (h0 : 0 ≤ i) (h1 : i.toNat < s.size) :
    RunV P N env w ⟨d, .index t x y, ty, pos, af, g⟩ (.int .u8 ((s[i.toNat]'h1).toNat : Int)) := ⟨fun a ha => by
  simp only [execOp, ha.ev hx, ha.ev hy, Instr.index, asIntOf, Sem.run_bind, run_underlying hu w, Result.andThen_ok, Sem.run_pure]
  simp [h0, h1]⟩

/-! ### Arithmetic -/
theorem run_guardInt {op : BinOp} {t : TypeId} {x y : Operand} {k k' : IntKind} {a b : Int} : (eqGuard op t x y (.int k a) (.int k' b)).run P w = .ok () w := by unfold eqGuard; split <;> rfl
theorem run_guardBool {op : BinOp} {t : TypeId} {x y : Operand} {a b : Bool} : (eqGuard op t x y (.bool a) (.bool b)).run P w = .ok () w := by unfold eqGuard; split <;> rfl
theorem run_guardStr {op : BinOp} {t : TypeId} {x y : Operand} {a b : ByteArray} : (eqGuard op t x y (.string a) (.string b)).run P w = .ok () w := by unfold eqGuard; split <;> rfl
theorem RunV.bin {op : BinOp} {t t2 : TypeId} {x y : Operand} {u v r : Value} (hx : evO env x = some u) (hy : evO env y = some v) (hg : (eqGuard op t x y u v).run P w = .ok () w) (hr : (binOp op t u v).run P w = .ok r w) : RunV P N env w ⟨d, .binOp op t x y t2, ty, pos, af, g⟩ r := ⟨fun a ha => by
  simp only [execOp, ha.ev hx, ha.ev hy, Sem.run_bind, hg, hr, Result.andThen_ok, Sem.run_pure]⟩
variable {t t2 : TypeId} {x y : Operand} {k : IntKind} {m n : Int}
theorem RunV.eql (hx : evO env x = some (.int k m)) (hy : evO env y = some (.int k n)) : RunV P N env w ⟨d, .binOp .eql t x y t2, ty, pos, af, g⟩ (.bool (decide (m = n))) := RunV.bin hx hy run_guardInt (by simp only [binOp]; simp [Op.intCmp]; try rw [Bool.eq_iff_iff]; simp)
theorem RunV.neq (hx : evO env x = some (.int k m)) (hy : evO env y = some (.int k n)) : RunV P N env w ⟨d, .binOp .neq t x y t2, ty, pos, af, g⟩ (.bool (decide (¬ m = n))) := RunV.bin hx hy run_guardInt (by simp only [binOp]; simp [Op.intCmp]; try rw [Bool.eq_iff_iff]; simp)
theorem RunV.lss (hx : evO env x = some (.int k m)) (hy : evO env y = some (.int k n)) : RunV P N env w ⟨d, .binOp .lss t x y t2, ty, pos, af, g⟩ (.bool (decide (m < n))) := RunV.bin hx hy run_guardInt (by simp only [binOp]; simp [Op.intCmp])
theorem RunV.leq (hx : evO env x = some (.int k m)) (hy : evO env y = some (.int k n)) : RunV P N env w ⟨d, .binOp .leq t x y t2, ty, pos, af, g⟩ (.bool (decide (m ≤ n))) := RunV.bin hx hy run_guardInt (by simp only [binOp]; simp [Op.intCmp])
theorem RunV.gtr (hx : evO env x = some (.int k m)) (hy : evO env y = some (.int k n)) : RunV P N env w ⟨d, .binOp .gtr t x y t2, ty, pos, af, g⟩ (.bool (decide (n < m))) := RunV.bin hx hy run_guardInt (by simp only [binOp]; simp [Op.intCmp])
theorem RunV.geq (hx : evO env x = some (.int k m)) (hy : evO env y = some (.int k n)) : RunV P N env w ⟨d, .binOp .geq t x y t2, ty, pos, af, g⟩ (.bool (decide (n ≤ m))) := RunV.bin hx hy run_guardInt (by simp only [binOp]; simp [Op.intCmp])
theorem RunV.add {r : Int} (hx : evO env x = some (.int k m)) (hy : evO env y = some (.int k n)) (hr : k.wrap (m + n) = r) : RunV P N env w ⟨d, .binOp .add t x y t2, ty, pos, af, g⟩ (.int k r) := RunV.bin hx hy run_guardInt (by simp only [binOp]; simp [Op.intArith, hr])
theorem RunV.sub {r : Int} (hx : evO env x = some (.int k m)) (hy : evO env y = some (.int k n)) (hr : k.wrap (m - n) = r) : RunV P N env w ⟨d, .binOp .sub t x y t2, ty, pos, af, g⟩ (.int k r) := RunV.bin hx hy run_guardInt (by simp only [binOp]; simp [Op.intArith, hr])
theorem RunV.mul {r : Int} (hx : evO env x = some (.int k m)) (hy : evO env y = some (.int k n)) (hr : k.wrap (m * n) = r) : RunV P N env w ⟨d, .binOp .mul t x y t2, ty, pos, af, g⟩ (.int k r) := RunV.bin hx hy run_guardInt (by simp only [binOp]; simp [Op.intArith, hr])
theorem RunV.quo {r : Int} (hx : evO env x = some (.int k m)) (hy : evO env y = some (.int k n)) (hn : n ≠ 0) (hr : k.wrap (m.tdiv n) = r) : RunV P N env w ⟨d, .binOp .quo t x y t2, ty, pos, af, g⟩ (.int k r) := RunV.bin hx hy run_guardInt (by simp only [binOp]; simp [Op.intDiv, hr, hn])
theorem RunV.rem {r : Int} (hx : evO env x = some (.int k m)) (hy : evO env y = some (.int k n)) (hn : n ≠ 0) (hr : m.tmod n = r) : RunV P N env w ⟨d, .binOp .rem t x y t2, ty, pos, af, g⟩ (.int k r) := RunV.bin hx hy run_guardInt (by simp only [binOp]; simp [Op.intDiv, hr, hn])
theorem run_eqBool {p q : Bool} {dd : Nat} (hu : P.underlying t = some .bool) : (Op.equalIn (dd + 1) t (.bool p) (.bool q)).run P w = .ok (p == q) w := by
  unfold Op.equalIn
  simp only [Sem.run_bind, run_underlying hu w, Result.andThen_ok]
  rfl
theorem run_eqlBool {p q : Bool} (hu : P.underlying t = some .bool) : (binOp .eql t (.bool p) (.bool q)).run P w = .ok (.bool (p == q)) w := by
  have h : (Op.equal t (.bool p) (.bool q)).run P w = .ok (p == q) w := run_eqBool (dd := 9999) hu
  simp only [binOp, Sem.run_bind, h, Result.andThen_ok, Sem.run_pure]
theorem run_neqBool {p q : Bool} (hu : P.underlying t = some .bool) : (binOp .neq t (.bool p) (.bool q)).run P w = .ok (.bool (p != q)) w := by
  have h : (Op.equal t (.bool p) (.bool q)).run P w = .ok (p == q) w := run_eqBool (dd := 9999) hu
  simp only [binOp, Sem.run_bind, h, Result.andThen_ok, Sem.run_pure]
  rfl
theorem RunV.beql {p q : Bool} (hx : evO env x = some (.bool p)) (hy : evO env y = some (.bool q)) (hu : P.underlying t = some .bool) : RunV P N env w ⟨d, .binOp .eql t x y t2, ty, pos, af, g⟩ (.bool (p == q)) :=
  RunV.bin hx hy run_guardBool (run_eqlBool hu)
theorem RunV.bneq {p q : Bool} (hx : evO env x = some (.bool p)) (hy : evO env y = some (.bool q)) (hu : P.underlying t = some .bool) : RunV P N env w ⟨d, .binOp .neq t x y t2, ty, pos, af, g⟩ (.bool (p != q)) :=
  RunV.bin hx hy run_guardBool (run_neqBool hu)
theorem RunV.conv {k' : IntKind} {src dst : TypeId} {r : Int} {ds : TypeDesc} (hx : evO env x = some (.int k m)) (hs : P.underlying src = some ds) (hd : P.underlying dst = some (.int k')) (hr : k'.wrap m = r) : RunV P N env w ⟨d, .convert src dst x, ty, pos, af, g⟩ (.int k' r) := ⟨fun a ha => by
  simp only [execOp, ha.ev hx, Go.convert, Sem.run_bind, run_underlying hs w, run_underlying hd w, Result.andThen_ok]
  cases ds <;> simp [Conv.intToInt, hr]⟩
theorem wrapI64 {n : Int} (h : -9223372036854775808 ≤ n ∧ n ≤ 9223372036854775807) : IntKind.i64.wrap n = n := by
  simp only [IntKind.wrap, IntKind.bits, IntKind.signed]
  simp only [Bool.true_and, ge_iff_le, decide_eq_true_eq]
  omega
theorem wrapU32 {n : Int} (h : 0 ≤ n ∧ n ≤ 4294967295) : IntKind.u32.wrap n = n := by
  simp only [IntKind.wrap, IntKind.bits, IntKind.signed]
  simp
  omega
theorem wrapU64 {n : Int} (h : 0 ≤ n ∧ n ≤ 18446744073709551615) : IntKind.u64.wrap n = n := by
  simp only [IntKind.wrap, IntKind.bits, IntKind.signed]
  simp
  omega
theorem wrapU8 {n : Int} (h : 0 ≤ n ∧ n ≤ 255) : IntKind.u8.wrap n = n := by
  simp only [IntKind.wrap, IntKind.bits, IntKind.signed]
  simp
  omega
/-- Lengths. -/
theorem RunV.lenS {t' : TypeId} {A : Option Addr} {n c : Nat} {e : TypeId} (hx : evO env x = some (.slice A n c)) (hu : P.underlying t' = some (.slice e)) :
    RunV P N env w ⟨d, .call { callee := .builtin .len, args := #[x], argTypes := #[t'] }, ty, pos, af, g⟩ (.int .i64 (n : Int)) := ⟨fun a ha => by
  simp [execOp, resolve, invoke, builtin, Builtin.len_, ha.ev hx, run_underlying hu, goInt]⟩
theorem RunV.lenStr {t' : TypeId} {s : ByteArray} (hx : evO env x = some (.string s)) (hu : P.underlying t' = some .string) :
    RunV P N env w ⟨d, .call { callee := .builtin .len, args := #[x], argTypes := #[t'] }, ty, pos, af, g⟩ (.int .i64 (s.size : Int)) := ⟨fun a ha => by
  simp [execOp, resolve, invoke, builtin, Builtin.len_, ha.ev hx, run_underlying hu, goInt]⟩
theorem RunV.max2 {ats : Array TypeId} (hx : evO env x = some (.int k m)) (hy : evO env y = some (.int k n)) :
    RunV P N env w ⟨d, .call { callee := .builtin .max, args := #[x, y], argTypes := ats }, ty, pos, af, g⟩ (.int k (max m n)) := ⟨fun a ha => by
  simp [execOp, resolve, invoke, builtin, Builtin.max_, Builtin.max2, ha.ev hx, ha.ev hy]
  split <;> omega⟩
theorem RunV.min2 {ats : Array TypeId} (hx : evO env x = some (.int k m)) (hy : evO env y = some (.int k n)) :
    RunV P N env w ⟨d, .call { callee := .builtin .min, args := #[x, y], argTypes := ats }, ty, pos, af, g⟩ (.int k (min m n)) := ⟨fun a ha => by
  simp [execOp, resolve, invoke, builtin, Builtin.min_, Builtin.min2, ha.ev hx, ha.ev hy]
  split <;> omega⟩
/-- A struct built: the parts are told, the result by a run on them. -/
def evP (env : Env) : List (Nat × Operand) → Option (List (Nat × Value))
  | [] => some []
  | (i, x) :: xs => match evO env x, evP env xs with
    | some v, some vs => some ((i, v) :: vs)
    | _, _ => none
theorem Ag.evP {a : Act} (h : Ag N env a) : ∀ {xs : List (Nat × Operand)} {vs : List (Nat × Value)}, evP env xs = some vs → xs.map (fun p => (p.1, a.eval p.2)) = vs
  | [], vs, e => by simpa [Proofs.Ytdoinfpkfbfjaaa.evP] using e
  | (i, x) :: xs, vs, e => by
    unfold Proofs.Ytdoinfpkfbfjaaa.evP at e
    split at e
    · rename_i v vs' h1 h2
      simp only [Option.some.injEq] at e
      subst e
      simp [h.ev h1, h.evP h2]
    · cases e
theorem RunV.build {xs : List (Nat × Operand)} {vs : List (Nat × Value)} {v : Value} (hx : evP env xs = some vs) (hr : (Instr.build t vs.toArray).run P w = .ok v w) : RunV P N env w ⟨d, .build t xs.toArray, ty, pos, af, g⟩ v := ⟨fun a ha => by
  have h1 := ha.evP hx
  have h2 : (xs.toArray.map fun (p : Nat × Operand) => (p.1, a.eval p.2)) = vs.toArray := by rw [← h1]; simp
  have h3 : (Array.map (fun (x : Nat × Operand) => match x with | (i, x) => (i, a.eval x)) xs.toArray) = vs.toArray := by rw [← h2]
  simp only [execOp, h3, Sem.run_bind, hr, Result.andThen_ok, Sem.run_pure]⟩
end
end Go.Proofs.Ytdoinfpkfbfjaaa
