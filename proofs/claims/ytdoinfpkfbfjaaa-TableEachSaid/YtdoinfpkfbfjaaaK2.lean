/- Arguments opened: the leaves of a struct or an array, the rows of a slice. No condition is needed. -/
import Derived.Test.YtdoinfpkfbfjaaaK1
import Derived.OpenShut
import Derived.Deep.Slices
namespace Go.Proofs.Ytdoinfpkfbfjaaa
open Go.RowKit Go.ChangeShapes Go.WideShapes Go.ChangeAt

/-- The leaf types of a type's cells, in their order. -/
def leavesFs (P : Program) (rec_ : TypeId → Option (List TypeId)) : Nat → List Field → Option (List TypeId)
  | _, [] => some []
  | off, f :: fs => if f.offset = off then (rec_ f.type).bind fun l => if l.length = P.cellsOf f.type then (leavesFs P rec_ (off + l.length) fs).map (l ++ ·) else none else none
def leaves (P : Program) : Nat → TypeId → Option (List TypeId)
  | 0, _ => none
  | n + 1, t => match P.underlying t with
    | some (.struct fs) => (leavesFs P (leaves P n) 0 fs.toList).bind fun l => if l.length = P.cellsOf t then some l else none
    | some (.array k e) => (leaves P n e).bind fun l => if l.length = P.cellsOf e ∧ k * l.length = P.cellsOf t then some (List.replicate k l).flatten else none
    | some _ => some [t]
    | none => none
def AllLeaf (p : TypeId → Value → Prop) : List TypeId → List Value → Prop
  | [], [] => True
  | t :: ts, v :: vs => p t v ∧ AllLeaf p ts vs
  | _, _ => False
theorem AllLeaf.append {p : TypeId → Value → Prop} : ∀ {ts : List TypeId} {vs : List Value} {ts' : List TypeId} {vs' : List Value}, AllLeaf p ts vs → AllLeaf p ts' vs' → AllLeaf p (ts ++ ts') (vs ++ vs')
  | [], [], _, _, _, h' => h'
  | _ :: _, _ :: _, _, _, h, h' => ⟨h.1, AllLeaf.append h.2 h'⟩
  | [], _ :: _, _, _, h, _ => h.elim
  | _ :: _, [], _, _, h, _ => h.elim
theorem AllLeaf.length {p : TypeId → Value → Prop} : ∀ {ts : List TypeId} {vs : List Value}, AllLeaf p ts vs → vs.length = ts.length
  | [], [], _ => rfl
  | _ :: _, _ :: _, h => by simp [AllLeaf.length h.2]
  | [], _ :: _, h => h.elim
  | _ :: _, [], h => h.elim
theorem AllLeaf.mono {p q : TypeId → Value → Prop} (hpq : ∀ t v, p t v → q t v) : ∀ {ts : List TypeId} {vs : List Value}, AllLeaf p ts vs → AllLeaf q ts vs
  | [], [], _ => trivial
  | _ :: _, _ :: _, h => ⟨hpq _ _ h.1, AllLeaf.mono hpq h.2⟩
  | [], _ :: _, h => h.elim
  | _ :: _, [], h => h.elim

section
variable {H : Type} {enc : TypeId × Value → H} {P : Program} {w : World} {base : Nat} {spare : Nat → Bool} {held : Bool}

/-- A leaf's own reading. -/
def LeafAt (enc : TypeId × Value → H) (P : Program) (w : World) (base : Nat) (spare : Nat → Bool) (held : Bool) (t : TypeId) (v : Value) : Prop :=
  ∃ n x, DataW.trod enc P w base spare held n t [v] = some x

theorem trod_leavesFs {rec_ : TypeId → Option (List TypeId)} {n : Nat}
    (ih : ∀ t l cs x, rec_ t = some l → DataW.trod enc P w base spare held n t cs = some x → AllLeaf (LeafAt enc P w base spare held) l cs) (cs : List Value) :
    ∀ (fs : List Field) (off : Nat) (l : List TypeId), leavesFs P rec_ off fs = some l →
      (∀ f ∈ fs, ∃ x, DataW.trod enc P w base spare held n f.type ((cs.drop f.offset).take (P.cellsOf f.type)) = some x) → off + l.length = cs.length → AllLeaf (LeafAt enc P w base spare held) l (cs.drop off)
  | [], off, l, hl, _, hlen => by
    obtain rfl : [] = l := by simpa [leavesFs] using hl
    have : cs.drop off = [] := List.drop_eq_nil_of_le (by simp at hlen; omega)
    rw [this]
    trivial
  | f :: fs, off, l, hl, hx, hlen => by
    unfold leavesFs at hl
    split at hl
    · rename_i ho
      obtain ⟨l1, h1, h2⟩ := Option.bind_eq_some_iff.1 hl
      split at h2
      · rename_i hc
        obtain ⟨l2, h3, h4⟩ := Option.map_eq_some_iff.1 h2
        subst h4
        obtain ⟨x, hx1⟩ := hx f (by simp)
        have hA := ih _ _ _ _ h1 hx1
        rw [ho, ← hc] at hA
        have hB := trod_leavesFs ih cs fs (off + l1.length) l2 h3 (fun g hg => hx g (by simp [hg])) (by simp at hlen; omega)
        have := AllLeaf.append hA hB
        rwa [show (cs.drop off).take l1.length ++ cs.drop (off + l1.length) = cs.drop off by rw [← List.drop_drop]; exact List.take_append_drop _ _] at this
      · cases h2
    · cases hl

theorem allLeaf_replicate {p : TypeId → Value → Prop} {l : List TypeId} (cs : List Value) : ∀ (k off : Nat), (∀ i, i < k → AllLeaf p l ((cs.drop (off + i * l.length)).take l.length)) → off + k * l.length = cs.length →
    AllLeaf p (List.replicate k l).flatten (cs.drop off)
  | 0, off, _, hlen => by
    have : cs.drop off = [] := List.drop_eq_nil_of_le (by omega)
    rw [this]
    trivial
  | k + 1, off, h, hlen => by
    have h0 := h 0 (by omega)
    rw [Nat.zero_mul, Nat.add_zero] at h0
    have hk := allLeaf_replicate cs k (off + l.length) (fun i hi => by
      have := h (i + 1) (by omega)
      rwa [show off + (i + 1) * l.length = off + l.length + i * l.length by rw [Nat.succ_mul]; omega] at this) (by rw [Nat.succ_mul] at hlen; omega)
    have := AllLeaf.append h0 hk
    rw [show (cs.drop off).take l.length ++ cs.drop (off + l.length) = cs.drop off by rw [← List.drop_drop]; exact List.take_append_drop _ _] at this
    simpa [List.replicate_succ] using this

theorem trod_one {t : TypeId} {d : TypeDesc} {n : Nat} {cs : List Value} {x : DataW H × List MemPlace} (hu : P.underlying t = some d) (hs : ∀ fs, d ≠ .struct fs) (ha : ∀ k e, d ≠ .array k e)
    (h : DataW.trod enc P w base spare held n t cs = some x) : ∃ v, cs = [v] := by
  cases n with
  | zero => simp [DataW.trod] at h
  | succ n =>
    unfold DataW.trod at h
    rw [hu] at h
    split at h <;> first | exact ⟨_, rfl⟩ | (cases h; done) | (rename_i h1; exact absurd (Option.some.inj h1) (hs _)) | (rename_i h1; exact absurd (Option.some.inj h1) (ha _ _)) | skip

theorem trod_leaves : ∀ (m : Nat) (t : TypeId) (l : List TypeId) (n : Nat) (cs : List Value) (x : DataW H × List MemPlace), leaves P m t = some l →
    DataW.trod enc P w base spare held n t cs = some x → AllLeaf (LeafAt enc P w base spare held) l cs := by
  intro m
  induction m with
  | zero => intro t l n cs x hl; simp [leaves] at hl
  | succ m ih =>
    intro t l n cs x hl h
    unfold leaves at hl
    split at hl
    · rename_i fs hu
      obtain ⟨l0, hl0, hl1⟩ := Option.bind_eq_some_iff.1 hl
      split at hl1
      · rename_i hlc
        obtain rfl : l0 = l := by simpa using hl1
        obtain ⟨xs, n', rfl, rfl, hc, hx, hf⟩ := DataW.trod_struct hu h
        have := trod_leavesFs (enc := enc) (P := P) (w := w) (base := base) (spare := spare) (held := held) (n := n') (rec_ := leaves P m) (fun t l cs x => ih t l n' cs x) cs fs.toList 0 l0 hl0 (fun f hfm => by
          obtain ⟨i, hi⟩ := List.getElem?_of_mem hfm
          have hfi : fs[i]? = some f := by simpa using hi
          have hlt : i < xs.length := by rw [hx]; exact (Array.getElem?_eq_some_iff.1 hfi).1
          exact ⟨xs[i], by rw [hf i f hfi]; simp [hlt]⟩) (by omega)
        simpa using this
      · cases hl1
    · rename_i k e hu
      obtain ⟨l1, h1, h2⟩ := Option.bind_eq_some_iff.1 hl
      split at h2
      · rename_i hc
        obtain rfl : (List.replicate k l1).flatten = l := by simpa using h2
        obtain ⟨xs, n', rfl, rfl, hcl, hx, hf⟩ := DataW.trod_array hu h
        have := allLeaf_replicate (p := LeafAt enc P w base spare held) (l := l1) cs k 0 (fun i hi => by
          have hy := hf i hi
          rw [Nat.zero_add, hc.1]
          rw [List.getElem?_eq_getElem (by omega)] at hy
          exact ih e l1 n' _ _ h1 hy) (by omega)
        simpa using this
      · cases h2
    · rename_i d hs ha hu
      obtain rfl : [t] = l := by simpa using hl
      obtain ⟨v, rfl⟩ := trod_one hu (fun fs e => hs fs e) (fun k e' e => ha k e' e) h
      exact ⟨⟨n, x, h⟩, trivial⟩
    · cases hl

/-- A struct by value: its cells, leaf by leaf. -/
theorem open_struct {t : TypeId} {fs : Array Field} {v : Value} {d : DataW H} {ps : List MemPlace} {l : List TypeId} {W : World} {r : Reach} {b0 : Nat} (m : Nat) (hu : P.underlying t = some (.struct fs)) (hl : leaves P m t = some l)
    (hv : Value.okWide P W r b0 t v) (h : DataW.Trod enc P w base spare held t v d ps) : ∃ cs : List Value, v = .agg cs.toArray ∧ AllLeaf (LeafAt enc P w base spare held) l cs := by
  unfold Value.okWide at hv
  rw [hu] at hv
  obtain ⟨cs, rfl, _, _⟩ := hv
  obtain ⟨n, hn⟩ := h
  exact ⟨cs.toList, by simp, trod_leaves m t l n cs.toList _ hl (by simpa [Value.cells] using hn)⟩

theorem leaf_int {t : TypeId} {v : Value} {k : IntKind} (hu : P.underlying t = some (.int k)) (h : LeafAt enc P w base spare held t v) : ∃ n, v = .int k n ∧ (Lit.int k n).wf = true := by
  obtain ⟨n, x, h⟩ := h
  obtain ⟨a, h1, _, h3⟩ := DataW.trod_int hu h
  exact ⟨a, by simpa using h1, h3⟩
theorem leaf_bool {t : TypeId} {v : Value} (hu : P.underlying t = some .bool) (h : LeafAt enc P w base spare held t v) : ∃ b, v = .bool b := by
  obtain ⟨n, x, h⟩ := h
  obtain ⟨a, h1, _⟩ := DataW.trod_bool hu h
  exact ⟨a, by simpa using h1⟩
theorem leaf_string {t : TypeId} {v : Value} (hu : P.underlying t = some .string) (h : LeafAt enc P w base spare held t v) : ∃ s, v = .string s ∧ s.size ≤ maxLen := by
  obtain ⟨n, x, h⟩ := h
  obtain ⟨a, h1, _, h3⟩ := DataW.trod_string hu h
  exact ⟨a, by simpa using h1, h3⟩

/-- The slice value v reads in w as the rows xs, each of k cells. -/
def RdRow (w : World) (v : Value) (k : Nat) (xs : List (List Value)) : Prop :=
  ∃ A cap, v = .slice A xs.length cap ∧ xs.length ≤ cap ∧ xs.length ≤ 9223372036854775807 ∧ (0 < xs.length → ∃ b off, A = some ⟨b, off, none⟩ ∧ b < w.heap.size ∧ ∀ i r, xs[i]? = some r → r.length = k ∧ ∀ j u, r[j]? = some u → w.cell? ⟨b, off + (i * k + j), none⟩ = some u)

theorem cell_spot {w : World} {a : Addr} {u : Value} (h : w.cell? a = some u) : a = ⟨a.block, a.off, none⟩ := by
  obtain ⟨b, o, s⟩ := a
  unfold World.cell? at h
  split at h
  · cases s with
    | none => rfl
    | some s => simp at h
  · cases h

theorem add_at (b o n : Nat) : (⟨b, o, none⟩ : Addr).add n = ⟨b, o + n, none⟩ := by unfold Addr.add; split <;> simp_all

theorem list_choose {α β : Type} {p : β → α → Prop} : ∀ (n : Nat), (∀ f : Nat → β, (∀ i, i < n → ∃ x, p (f i) x) → ∃ xs : List α, xs.length = n ∧ ∀ i, i < n → ∃ x, xs[i]? = some x ∧ p (f i) x) := by
  intro n
  induction n with
  | zero => intro f _; exact ⟨[], rfl, fun i hi => by omega⟩
  | succ n ih =>
    intro f h
    obtain ⟨xs, hl, hx⟩ := ih f (fun i hi => h i (by omega))
    obtain ⟨x, hx0⟩ := h n (by omega)
    refine ⟨xs ++ [x], by simp [hl], fun i hi => ?_⟩
    by_cases h' : i < n
    · obtain ⟨y, h1, h2⟩ := hx i h'
      exact ⟨y, by rw [List.getElem?_append_left (by omega)]; exact h1, h2⟩
    · obtain rfl : i = n := by omega
      exact ⟨x, by rw [List.getElem?_append_right (by omega)]; simp [hl], hx0⟩

/-- A slice opened: its rows, each reading leaf by leaf. -/
theorem open_rows {t e : TypeId} {v : Value} {d : DataW H} {ps : List MemPlace} {l : List TypeId} (m : Nat) (hu : P.underlying t = some (.slice e)) (hl : leaves P m e = some l) (hk : P.cellsOf e = l.length) (hpos : 0 < l.length)
    {W : World} {r : Reach} {b0 : Nat} (hv : Value.okWide P W r b0 t v) (h : DataW.Trod enc P w 0 (fun _ => true) held t v d ps) :
    ∃ xs : List (List Value), RdRow w v l.length xs ∧ (∀ r ∈ xs, AllLeaf (LeafAt enc P w 0 (fun _ => true) held) l r) := by
  obtain ⟨a0, len, cap, rfl⟩ := okWide_slice hu hv
  obtain ⟨n, hn⟩ := h
  rcases Go.Deep.open_slice hu (by simpa [Value.cells] using hn) with ⟨hcs, _⟩ | ⟨a, len1, cap1, m', n', D, Pl, hcs, _, hle, hcap, hm, _, hx⟩
  · simp only [List.cons.injEq, Value.slice.injEq, and_true] at hcs
    obtain ⟨rfl, rfl, rfl⟩ := hcs
    exact ⟨[], ⟨none, 0, rfl, by simp, by simp, fun h => by simp at h⟩, fun r hr => by cases hr⟩
  · simp only [List.cons.injEq, Value.slice.injEq, and_true] at hcs
    obtain ⟨rfl, rfl, rfl⟩ := hcs
    have hm2 : m' = cap := by simpa using hm
    subst hm2
    have hrow : ∀ i, i < len → ∃ r : List Value, (r.length = l.length ∧ ∀ j u, r[j]? = some u → w.cell? (a.add (i * l.length + j)) = some u) ∧ AllLeaf (LeafAt enc P w 0 (fun _ => true) held) l r := by
      intro i hi
      obtain ⟨cs, h1, h2⟩ := hx i (by omega)
      obtain ⟨_, hlen, hc⟩ := World.cells?_some h1
      have hA := trod_leaves m e l n' cs _ hl h2
      refine ⟨cs, ⟨by omega, fun j u hj => ?_⟩, hA⟩
      have hjl : j < cs.length := (List.getElem?_eq_some_iff.1 hj).1
      rw [← hk, ← Go.Deep.add_add, hc j (by omega)]
      exact hj
    obtain ⟨xs, hxl, hxs⟩ := list_choose (p := fun (i : Nat) (r : List Value) => (r.length = l.length ∧ ∀ j u, r[j]? = some u → w.cell? (a.add (i * l.length + j)) = some u) ∧ AllLeaf (LeafAt enc P w 0 (fun _ => true) held) l r) len (fun i => i) hrow
    refine ⟨xs, ⟨some a, m', by rw [hxl], by rw [hxl]; exact hle, by rw [hxl]; unfold maxLen at hcap; omega, fun hp => ?_⟩, fun r hr => ?_⟩
    · obtain ⟨r0, h0, ⟨hr0, hc0⟩, _⟩ := hxs 0 (by omega)
      have hc00 := hc0 0 (r0[0]'(by omega)) (by simp)
      simp only [Nat.zero_mul, Nat.add_zero] at hc00
      have ha : a.add 0 = a := by simp [Addr.add]
      rw [ha] at hc00
      have hsp := cell_spot hc00
      refine ⟨a.block, a.off, by rw [hsp], World.block_lt_of_cell? w a hc00, fun i r hr => ?_⟩
      have hi : i < len := by rw [← hxl]; exact (List.getElem?_eq_some_iff.1 hr).1
      obtain ⟨r', h1, ⟨h2, h3⟩, _⟩ := hxs i hi
      obtain rfl : r' = r := by rw [h1] at hr; exact Option.some.inj hr
      refine ⟨h2, fun j u hj => ?_⟩
      have := h3 j u hj
      rw [hsp, add_at] at this
      exact this
    · obtain ⟨i, hi⟩ := List.getElem?_of_mem hr
      have hil : i < len := by rw [← hxl]; exact (List.getElem?_eq_some_iff.1 hi).1
      obtain ⟨r', h1, _, h3⟩ := hxs i hil
      obtain rfl : r' = r := by rw [h1] at hi; exact Option.some.inj hi
      exact h3

/-- Each row is the cells of one datum: so the rows are those of a list of data. -/
theorem rows_map {α : Type} {enc' : α → List Value} {p : List Value → Prop} {q : α → Prop} (h : ∀ r, p r → ∃ y, r = enc' y ∧ q y) : ∀ (xs : List (List Value)), (∀ r ∈ xs, p r) → ∃ ys : List α, xs = ys.map enc' ∧ ∀ y ∈ ys, q y
  | [], _ => ⟨[], rfl, fun y hy => by cases hy⟩
  | r :: rs, hr => by
    obtain ⟨y, rfl, hy⟩ := h r (hr r (by simp))
    obtain ⟨ys, rfl, hys⟩ := rows_map h rs (fun r' h' => hr r' (by simp [h']))
    exact ⟨y :: ys, rfl, fun z hz => by rcases List.mem_cons.1 hz with rfl | hz; exact hy; exact hys z hz⟩

theorem RdRow.below {w w1 : World} {v : Value} {k : Nat} {xs : List (List Value)} (h : RdRow w v k xs) (hb : Below w.heap.size w w1) : RdRow w1 v k xs := by
  obtain ⟨A, cap, rfl, hl, hm, hc⟩ := h
  refine ⟨A, cap, rfl, hl, hm, fun hp => ?_⟩
  obtain ⟨b, off, hA, hlt, hcell⟩ := hc hp
  exact ⟨b, off, hA, Nat.lt_of_lt_of_le hlt hb.size, fun i r hr => ⟨(hcell i r hr).1, fun j u hj => (hb.cell (p := ⟨b, off + (i * k + j), none⟩) hlt).trans ((hcell i r hr).2 j u hj)⟩⟩
theorem RdRow.nil {w : World} {k : Nat} {α : Type} {f : α → List Value} : RdRow w (.slice none 0 0) k (([] : List α).map f) := ⟨none, 0, rfl, by simp, by simp, fun h => by simp at h⟩
end
end Go.Proofs.Ytdoinfpkfbfjaaa
