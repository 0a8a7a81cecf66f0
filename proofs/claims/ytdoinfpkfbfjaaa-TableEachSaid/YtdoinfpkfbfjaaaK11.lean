/- Texts as lists of bytes: compared, indexed, joined; bytes read as a text. Over any program; no condition. -/
import Derived.Test.YtdoinfpkfbfjaaaK10
import Derived.Laws.BytesString
import Derived.Laws.Cover1
set_option linter.unusedVariables false
set_option linter.unusedSimpArgs false
namespace Go.Proofs.Ytdoinfpkfbfjaaa
open Go.RowKit
@[reducible] def str (l : List UInt8) : Value := .string ⟨l.toArray⟩
@[reducible] def byt (c : UInt8) : Value := .int .u8 (c.toNat : Int)
@[reducible] def by1c (c : UInt8) : List Value := [byt c]
theorem str_of (s : ByteArray) : Value.string s = str s.data.toList := by simp [str]
theorem str_inj {a b : List UInt8} (h : str a = str b) : a = b := by
  simp only [str, Value.string.injEq, ByteArray.mk.injEq] at h
  exact List.toArray_inj h
theorem beqL (a b : List UInt8) : (a == b) = decide (a = b) := by rw [Bool.eq_iff_iff]; simp
theorem lt_tri (a b : List UInt8) : a < b ∨ a = b ∨ b < a := by
  rcases List.le_total a b with h | h
  · by_cases e : a = b
    · exact .inr (.inl e)
    · exact .inl (by
        rcases Decidable.em (a < b) with h1 | h1
        · exact h1
        · exact absurd (List.le_antisymm h (List.not_lt.1 h1)) e)
  · by_cases e : a = b
    · exact .inr (.inl e)
    · exact .inr (.inr (by
        rcases Decidable.em (b < a) with h1 | h1
        · exact h1
        · exact absurd (List.le_antisymm h (List.not_lt.1 h1)).symm e))
theorem lt_asym {a b : List UInt8} (h : a < b) : ¬ b < a := List.lt_asymm h
theorem lt_irr (a : List UInt8) : ¬ a < a := List.lt_irrefl a
theorem bytesLess_eq : ∀ (x y : List UInt8), Op.bytesLess x y = decide (x < y)
  | [], [] => by simp [Op.bytesLess]
  | _ :: _, [] => by simp [Op.bytesLess]
  | [], _ :: _ => by simp [Op.bytesLess]
  | a :: x, b :: y => by
    rw [Op.bytesLess, bytesLess_eq x y]
    simp only [List.cons_lt_cons_iff]
    by_cases h1 : a < b <;> by_cases h2 : a = b <;> by_cases h3 : x < y <;> simp [h1, h2, h3]
section
variable {P : Program} {N : Nat} {env : Env} {w w0 : World} {X : List Nat} {L L' : List (Nat × Obj)} {K : Env → World → Prop} {dd : Option Nat} {ty : TypeId} {pos : String} {af : Array Edge} {g : Option (Nat × Bool)} {t t2 : TypeId} {x y z : Operand} {a b : List UInt8}
theorem RunV.seql (hx : evO env x = some (str a)) (hy : evO env y = some (str b)) : RunV P N env w ⟨dd, .binOp .eql t x y t2, ty, pos, af, g⟩ (.bool (decide (a = b))) :=
  RunV.bin hx hy run_guardStr (by rw [binOp_string_eql, ByteArray.toList_mk, ByteArray.toList_mk, beqL]; rfl)
theorem RunV.sneq (hx : evO env x = some (str a)) (hy : evO env y = some (str b)) : RunV P N env w ⟨dd, .binOp .neq t x y t2, ty, pos, af, g⟩ (.bool (decide (¬ a = b))) :=
  RunV.bin hx hy run_guardStr (by rw [binOp_string_neq, ByteArray.toList_mk, ByteArray.toList_mk, beqL, decide_not]; rfl)
theorem RunV.slss (hx : evO env x = some (str a)) (hy : evO env y = some (str b)) : RunV P N env w ⟨dd, .binOp .lss t x y t2, ty, pos, af, g⟩ (.bool (decide (a < b))) :=
  RunV.bin hx hy run_guardStr (by rw [binOp_string_lss, ByteArray.toList_mk, ByteArray.toList_mk, bytesLess_eq]; rfl)
theorem RunV.sgtr (hx : evO env x = some (str a)) (hy : evO env y = some (str b)) : RunV P N env w ⟨dd, .binOp .gtr t x y t2, ty, pos, af, g⟩ (.bool (decide (b < a))) :=
  RunV.bin hx hy run_guardStr (by
    rw [binOp_string_gtr, ByteArray.toList_mk, ByteArray.toList_mk, bytesLess_eq, beqL]
    have : (!(decide (a < b) || decide (a = b))) = decide (b < a) := by
      rw [Bool.eq_iff_iff]
      simp only [Bool.not_eq_true', Bool.or_eq_false_iff, decide_eq_false_iff_not, decide_eq_true_eq]
      constructor
      · rintro ⟨h1, h2⟩
        rcases lt_tri a b with h | h | h
        · exact absurd h h1
        · exact absurd h h2
        · exact h
      · intro h
        exact ⟨lt_asym h, fun e => by subst e; exact lt_irr _ h⟩
    rw [this]; rfl)
theorem RunV.sgeq (hx : evO env x = some (str a)) (hy : evO env y = some (str b)) : RunV P N env w ⟨dd, .binOp .geq t x y t2, ty, pos, af, g⟩ (.bool (decide (¬ a < b))) :=
  RunV.bin hx hy run_guardStr (by rw [binOp_string_geq, ByteArray.toList_mk, ByteArray.toList_mk, bytesLess_eq, decide_not]; rfl)
theorem RunV.sadd (hx : evO env x = some (str a)) (hy : evO env y = some (str b)) (hl : a.length + b.length ≤ 9223372036854775807) : RunV P N env w ⟨dd, .binOp .add t x y t2, ty, pos, af, g⟩ (str (a ++ b)) :=
  RunV.bin hx hy run_guardStr (by
    have h1 : ¬ ((((⟨a.toArray⟩ : ByteArray).size + (⟨b.toArray⟩ : ByteArray).size : Nat) : Int) > IntKind.i64.max) := by
      have e1 : (⟨a.toArray⟩ : ByteArray).size = a.length := by simp [ByteArray.size]
      have e2 : (⟨b.toArray⟩ : ByteArray).size = b.length := by simp [ByteArray.size]
      rw [e1, e2]
      simp only [IntKind.max, IntKind.bits, IntKind.signed]
      simp
      omega
    have h2 : ((⟨a.toArray⟩ : ByteArray) ++ (⟨b.toArray⟩ : ByteArray)) = ⟨(a ++ b).toArray⟩ := by
      apply ByteArray.ext
      simp
    rw [binOp_string_add, Op.stringOp]
    simp only [if_neg h1, h2]
    rfl)
theorem RunV.lenB (hx : evO env x = some (str a)) (hu : P.underlying t = some .string) :
    RunV P N env w ⟨dd, .call { callee := .builtin .len, args := #[x], argTypes := #[t] }, ty, pos, af, g⟩ (.int .i64 (a.length : Int)) := by
  have := RunV.lenStr (P := P) (N := N) (env := env) (w := w) (d := dd) (ty := ty) (pos := pos) (af := af) (g := g) hx hu
  simpa [ByteArray.size] using this
theorem RunV.indexB {k : IntKind} {i : Int} {c : UInt8} (hx : evO env x = some (str a)) (hy : evO env y = some (.int k i)) (hu : P.underlying t = some .string) (h0 : 0 ≤ i) (hc : a[i.toNat]? = some c) :
    RunV P N env w ⟨dd, .index t x y, ty, pos, af, g⟩ (byt c) := by
  have hlt : i.toNat < a.length := (List.getElem?_eq_some_iff.1 hc).1
  have := RunV.indexStr (P := P) (N := N) (env := env) (w := w) (d := dd) (ty := ty) (pos := pos) (af := af) (g := g) hx hy hu h0 (by simpa [ByteArray.size] using hlt)
  have e : (⟨a.toArray⟩ : ByteArray)[i.toNat]'(by simpa [ByteArray.size] using hlt) = c := by
    have := (List.getElem?_eq_some_iff.1 hc).2
    rw [← this]
    rfl
  rw [e] at this
  exact this
/-- Bytes that are read as a text. -/
theorem fold_push : ∀ (cs : List UInt8) (s : List UInt8), (cs.map fun c => (c.toNat : Int)).foldl (fun (r : ByteArray) n => r.push (UInt8.ofNat n.toNat)) ⟨s.toArray⟩ = ⟨(s ++ cs).toArray⟩
  | [], s => by simp
  | c :: cs, s => by
    rw [List.map_cons, List.foldl_cons]
    have e : (⟨s.toArray⟩ : ByteArray).push (UInt8.ofNat ((c.toNat : Int)).toNat) = ⟨(s ++ [c]).toArray⟩ := by
      apply ByteArray.ext
      simp
    rw [e, fold_push cs (s ++ [c])]
    simp
theorem run_b2s {src dst e : TypeId} {v : Value} {bb o n c : Nat} {cs : List UInt8} (hv : SlV v bb o n c) (hc : RdC w bb o 1 (cs.map by1c)) (hn : cs.length = n) (hs : P.underlying src = some (.slice e)) (he : P.underlying e = some (.int .u8)) (hd : P.underlying dst = some .string) :
    (convert src dst v).run P w = .ok (str cs) w := by
  obtain ⟨A, rfl, hA⟩ := hv.eq
  rw [run_convert_bytes_string w src dst e A n c hs he hd]
  by_cases h0 : n = 0
  · subst h0
    obtain rfl : cs = [] := List.eq_nil_of_length_eq_zero hn
    cases A with
    | none => rfl
    | some A =>
      have hl : (loadCells A 0).run P w = .ok #[] w := by simp [loadCells, loadCellsFrom]
      have := run_bytesToString (P := P) w A 0 c [] (by simpa using hl)
      exact this
  · obtain rfl := hA (by omega)
    have hl := run_loadCells_list (P := P) w ⟨bb, o, none⟩ (cs.map byt) (by
      intro j u hj
      rw [List.getElem?_map] at hj
      obtain ⟨y, hy, rfl⟩ := Option.map_eq_some_iff.1 hj
      have := (hc j (by1c y) (by rw [List.getElem?_map, hy]; rfl)).2 0 (byt y) rfl
      rw [add_pl]
      simpa using this)
    rw [List.length_map, hn] at hl
    have h2 := run_bytesToString (P := P) w ⟨bb, o, none⟩ n c (cs.map fun c => (c.toNat : Int)) (by rw [hl, List.map_map]; rfl)
    rw [h2]
    have := fold_push cs []
    simp only [List.nil_append] at this
    show Result.ok (Value.string (List.foldl _ (⟨#[]⟩ : ByteArray) _)) w = _
    rw [this]
theorem RunV.b2s {src dst e : TypeId} {v : Value} {bb o n c : Nat} {cs : List UInt8} (hv : SlV v bb o n c) (hc : RdC w bb o 1 (cs.map by1c)) (hn : cs.length = n) (hx : evO env x = some v) (hs : P.underlying src = some (.slice e)) (he : P.underlying e = some (.int .u8)) (hd : P.underlying dst = some .string) :
    RunV P N env w ⟨dd, .convert src dst x, ty, pos, af, g⟩ (str cs) := ⟨fun a ha => by
  have := run_b2s (P := P) hv hc hn hs he hd
  simp only [execOp, ha.ev hx, Sem.run_bind, this, Result.andThen_ok, Sem.run_pure]⟩
end
/-- Some of one's blocks, in an order of one's own. -/
inductive Sel : List (Nat × Obj) → List (Nat × Obj) → Prop
  | nil {L : List (Nat × Obj)} : Sel [] L
  | app {B L L' R : List (Nat × Obj)} : RemB B L L' → Sel R L' → Sel (B ++ R) L
  | cons {c : Nat × Obj} {L L' R : List (Nat × Obj)} : RemB [c] L L' → Sel R L' → Sel (c :: R) L
  | whole {B L L' : List (Nat × Obj)} : RemB B L L' → Sel B L
theorem Sel.perm {R L : List (Nat × Obj)} (h : Sel R L) : ∃ T, L.Perm (R ++ T) := by
  induction h with
  | nil => exact ⟨_, .refl _⟩
  | @app B L L' R hr _ ih =>
    obtain ⟨T, hT⟩ := ih
    exact ⟨T, hr.perm.trans (by rw [List.append_assoc]; exact hT.append_left B)⟩
  | @cons c L L' R hr _ ih =>
    obtain ⟨T, hT⟩ := ih
    exact ⟨T, hr.perm.trans (hT.cons c)⟩
  | @whole B L L' hr => exact ⟨L', hr.perm⟩
/-- Some of one's blocks, each wherever it stands, and what is left. -/
inductive Take : List (Nat × Obj) → List (Nat × Obj) → List (Nat × Obj) → Prop
  | nil {L : List (Nat × Obj)} : Take [] L L
  | app {B A L L1 L' : List (Nat × Obj)} : RemB B L L1 → Take A L1 L' → Take (B ++ A) L L'
  | cons {c : Nat × Obj} {A L L1 L' : List (Nat × Obj)} : RemB [c] L L1 → Take A L1 L' → Take (c :: A) L L'
  | whole {B L L' : List (Nat × Obj)} : RemB B L L' → Take B L L'
theorem Take.perm {A L L' : List (Nat × Obj)} (h : Take A L L') : L.Perm (A ++ L') := by
  induction h with
  | nil => exact .refl _
  | @app B A L L1 L' hr _ ih => exact hr.perm.trans (by rw [List.append_assoc]; exact ih.append_left B)
  | @cons c A L L1 L' hr _ ih => exact hr.perm.trans (ih.cons c)
  | whole hr => exact hr.perm
theorem St.callT {w w0 w' : World} {X : List Nat} {L L' A A' : List (Nat × Obj)} (hS : St w0 X L w) (ht : Take A L L') (h' : St w (A.map Prod.fst) A' w') : St w0 X (A' ++ L') w' := (hS.perm ht.perm).call h'
theorem St.ownT {w w0 : World} {X : List Nat} {L L' A : List (Nat × Obj)} (hS : St w0 X L w) (ht : Take A L L') : Own w A := (hS.perm ht.perm).ownOf (L' := L') .here
theorem St.sel {w w0 : World} {X : List Nat} {L R : List (Nat × Obj)} (hS : St w0 X L w) (h : Sel R L) : St w0 X R w := by
  obtain ⟨T, hT⟩ := h.perm
  exact (hS.perm hT).sub (List.sublist_append_left _ _)
end Go.Proofs.Ytdoinfpkfbfjaaa
