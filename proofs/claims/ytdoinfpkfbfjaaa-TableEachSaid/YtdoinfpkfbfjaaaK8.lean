/- Slices in a walk: rows that are read, rows of one's own, append, literals, cuts. Over any program; no condition. -/
import Derived.Test.YtdoinfpkfbfjaaaK6
import Derived.Test.YtdoinfpkfbfjaaaK2
import Derived.Laws.AppendOwn
import Derived.Laws.Slices
import Derived.Great.BuildSlice
import Derived.Deep.Upon
set_option linter.unusedVariables false
set_option linter.unusedSimpArgs false
namespace Go.Proofs.Ytdoinfpkfbfjaaa
open Go.RowKit

/-- A slice's value: n long, where it lies. -/
structure SlV (v : Value) (b o n c : Nat) : Prop where
  eq : ∃ A, v = .slice A n c ∧ (0 < n → A = some ⟨b, o, none⟩)
  le : n ≤ c
/-- Rows of k cells that lie from (b, o) on. -/
def RdC (w : World) (b o k : Nat) (xs : List (List Value)) : Prop := ∀ i r, xs[i]? = some r → r.length = k ∧ ∀ j u, r[j]? = some u → w.cell? ⟨b, o + (i * k + j), none⟩ = some u
theorem RdRow.open {w : World} {v : Value} {k : Nat} {xs : List (List Value)} (h : RdRow w v k xs) : ∃ b o c, SlV v b o xs.length c ∧ xs.length ≤ 9223372036854775807 ∧ RdC w b o k xs ∧ (0 < xs.length → b < w.heap.size) := by
  obtain ⟨A, cap, rfl, hl, hm, h⟩ := h
  by_cases hp : 0 < xs.length
  · obtain ⟨b, o, rfl, hlt, hr⟩ := h hp
    exact ⟨b, o, cap, ⟨⟨_, rfl, fun _ => rfl⟩, hl⟩, hm, fun i r hi => ⟨(hr i r hi).1, fun j u hj => (hr i r hi).2 j u hj⟩, fun _ => hlt⟩
  · have h0 : xs = [] := List.eq_nil_of_length_eq_zero (by omega)
    subst h0
    exact ⟨0, 0, cap, ⟨⟨A, rfl, fun h => by simp at h⟩, hl⟩, hm, fun i r hi => by simp at hi, fun h => by simp at h⟩
theorem RdRow.of {w : World} {v : Value} {b o c k n : Nat} {xs : List (List Value)} (hv : SlV v b o n c) (hn : xs.length = n) (hm : xs.length ≤ 9223372036854775807) (hc : RdC w b o k xs) (hk : 0 < k) : RdRow w v k xs := by
  subst hn
  obtain ⟨A, rfl, hA⟩ := hv.eq
  refine ⟨A, c, rfl, hv.le, hm, fun hp => ⟨b, o, hA hp, ?_, fun i r hi => hc i r hi⟩⟩
  obtain ⟨r, hr⟩ : ∃ r, xs[0]? = some r := ⟨_, List.getElem?_eq_getElem hp⟩
  obtain ⟨h1, h2⟩ := hc 0 r hr
  exact World.block_lt_of_cell? _ _ (h2 0 (r[0]'(by omega)) (by simp))
theorem map_get {α β : Type} {f : α → β} {ys : List α} {i : Nat} {y : α} (h : ys[i]? = some y) : (ys.map f)[i]? = some (f y) := by simp [h]
theorem get_some {α : Type} (ys : List α) (i : Nat) (h : i < ys.length) : ∃ y, ys[i]? = some y := ⟨_, List.getElem?_eq_getElem h⟩

section
variable {P : Program} {N : Nat} {Q : Exit → Act → World → Prop} {env : Env} {w w0 : World} {X : List Nat} {L L' Lf : List (Nat × Obj)} {K : Env → World → Prop}
variable {dd : Option Nat} {d : Nat} {ty : TypeId} {pos : String} {af : Array Edge} {g : Option (Nat × Bool)}

/-- What was read at the entry is read now. -/
theorem RdC.st {b o k : Nat} {xs : List (List Value)} (hc : RdC w0 b o k xs) (hS : St w0 X L w) (hb : b ∉ X) : RdC w b o k xs := by
  intro i r hi
  refine ⟨(hc i r hi).1, fun j u hj => ?_⟩
  have h := (hc i r hi).2 j u hj
  have hlt := World.block_lt_of_cell? _ _ h
  have he := hS.old b hlt hb
  rw [← h]
  simp [World.cell?, he]
theorem RdRow.st {v : Value} {k : Nat} {xs : List (List Value)} (h : RdRow w0 v k xs) (hS : St w0 [] L w) : RdRow w v k xs := h.below hS.toBelow
theorem RdC.heap {w1 : World} {b o k : Nat} {xs : List (List Value)} (hc : RdC w b o k xs) (h : w1.heap = w.heap) : RdC w1 b o k xs := fun i r hi => ⟨(hc i r hi).1, fun j u hj => by
  have := (hc i r hi).2 j u hj
  rw [← this]
  simp [World.cell?, h]⟩

theorem RunV.lenR {t' : TypeId} {x : Operand} {v : Value} {b o n c : Nat} {e : TypeId} (hv : SlV v b o n c) (hx : evO env x = some v) (hu : P.underlying t' = some (.slice e)) :
    RunV P N env w ⟨dd, .call { callee := .builtin .len, args := #[x], argTypes := #[t'] }, ty, pos, af, g⟩ (.int .i64 (n : Int)) := by
  obtain ⟨A, rfl, _⟩ := hv.eq
  exact RunV.lenS hx hu
theorem RunV.indexR {t : TypeId} {x y : Operand} {v : Value} {b o n c sz r : Nat} {k : IntKind} {i : Int} (hv : SlV v b o n c) (hx : evO env x = some v) (hy : evO env y = some (.int k i)) (hs : (elemSz P t).bind lit = some sz) (h0 : 0 ≤ i) (h1 : i < (n : Int)) (hr : o + i.toNat * sz = r) :
    RunV P N env w ⟨dd, .indexAddr t x y, ty, pos, af, g⟩ (.pointer (some ⟨b, r, none⟩)) := by
  obtain ⟨A, rfl, hA⟩ := hv.eq
  obtain rfl := hA (by omega)
  exact RunV.indexS hx hy hs h0 h1 hr

/-! Loads of a row's cells. -/
theorem RunV.loadR1f {t : TypeId} {x : Operand} {b o k i j : Nat} {xs : List (List Value)} {r : List Value} {v : Value} (hc : RdC w b o k xs) (hx : evO env x = some (.pointer (some ⟨b, o + i * k + j, none⟩))) (hr : rowSz P t = some none) (hi : xs[i]? = some r) (hj : r[j]? = some v) :
    RunV P N env w ⟨dd, .load t x, ty, pos, af, g⟩ v := RunV.loadC hx hr (by rw [Nat.add_assoc]; exact (hc i r hi).2 j v hj)
theorem RunV.loadR1z {t : TypeId} {x : Operand} {b o k i : Nat} {xs : List (List Value)} {r : List Value} {v : Value} (hc : RdC w b o k xs) (hx : evO env x = some (.pointer (some ⟨b, o + i * k, none⟩))) (hr : rowSz P t = some none) (hi : xs[i]? = some r) (hj : r[0]? = some v) :
    RunV P N env w ⟨dd, .load t x, ty, pos, af, g⟩ v := RunV.loadC hx hr (by have := (hc i r hi).2 0 v hj; rwa [Nat.add_zero] at this)
theorem RunV.loadRNz {t : TypeId} {x : Operand} {b o k i : Nat} {xs : List (List Value)} {r : List Value} (hc : RdC w b o k xs) (hx : evO env x = some (.pointer (some ⟨b, o + i * k, none⟩))) (hr : rowSzL P t = some k) (hi : xs[i]? = some r) :
    RunV P N env w ⟨dd, .load t x, ty, pos, af, g⟩ (.agg r.toArray) := RunV.loadCN hx (rowSzL_eq hr) (hc i r hi).1 (fun j v hj => by have := (hc i r hi).2 j v hj; rwa [← Nat.add_assoc] at this)
theorem RunV.loadRNf {t : TypeId} {x : Operand} {b o k i j n : Nat} {xs : List (List Value)} {r vs : List Value} (hc : RdC w b o k xs) (hx : evO env x = some (.pointer (some ⟨b, o + i * k + j, none⟩))) (hr : rowSzL P t = some n) (hi : xs[i]? = some r) (hs : IsSeg r j n vs) :
    RunV P N env w ⟨dd, .load t x, ty, pos, af, g⟩ (.agg vs.toArray) := RunV.loadCN hx (rowSzL_eq hr) hs.spec.1 (fun j' v hj => by
      have := (hc i r hi).2 (j + j') v (hs.spec.2 j' v hj)
      rwa [show o + (i * k + (j + j')) = o + i * k + j + j' from by omega] at this)

/-! ### Cuts -/
theorem elem_of {P : Program} {t e : TypeId} (hu : P.underlying t = some (.slice e)) : P.elem t = e := by simp [Program.elem, hu]
theorem size_run {e : TypeId} {sz : Nat} (hs : (P.info? e).map (·.size) = some sz) : (sizeOf e).run P w = .ok sz w := by
  obtain ⟨i, hi, rfl⟩ := Option.map_eq_some_iff.1 hs
  simp [sizeOf, typeInfo, hi]
theorem SlV.cut {v : Value} {b o n c l h sz : Nat} (hv : SlV v b o n c) (h1 : l ≤ h) (h2 : h ≤ n) : ∃ A n' c', v = .slice A n' c' ∧ n' = n ∧ c' = c ∧ SlV (sliced A l h c sz) b (o + l * sz) (h - l) (c - l) := by
  obtain ⟨A, rfl, hA⟩ := hv.eq
  have := hv.le
  refine ⟨A, n, c, rfl, rfl, rfl, ⟨⟨_, rfl, fun hp => ?_⟩, by omega⟩⟩
  obtain rfl := hA (by omega)
  rw [if_neg (by omega)]
  simp [add_pl]
theorem OpW.cutLH {t e : TypeId} {x y z : Operand} {v : Value} {b o n c sz : Nat} {k k' : IntKind} {l h : Int} (hv : SlV v b o n c) (hx : evO env x = some v) (hy : evO env y = some (.int k l)) (hz : evO env z = some (.int k' h)) (hu : P.underlying t = some (.slice e)) (hs : ((P.info? e).map (·.size)).bind lit = some sz)
    (h0 : 0 ≤ l) (h1 : l ≤ h) (h2 : h ≤ (n : Int)) (hd : Nat.blt d N = true) (hK : ∀ v', SlV v' b (o + l.toNat * sz) (h.toNat - l.toNat) (c - l.toNat) → K ((d, v') :: env) w) : OpW P N ⟨some d, .slice t x (some y) (some z) none, ty, pos, af, g⟩ env w K := by
  obtain ⟨sz', hs1, hs2⟩ := Option.bind_eq_some_iff.1 hs
  obtain rfl := lit_eq hs2
  obtain ⟨A, n', c', rfl, rfl, rfl, hc⟩ := SlV.cut (sz := sz') hv (show l.toNat ≤ h.toNat by omega) (show h.toNat ≤ n by omega)
  have hle := hv.le
  refine OpW.base (v := sliced A l.toNat h.toNat c' sz') (fun a ha => ?_) hd (hK _ hc)
  have := run_slice_lh (P := P) w t A n' c' (by rw [elem_of hu]; exact hu) k k' l h h0 h1 (by omega)
  rw [elem_of hu, size_run hs1, Result.andThen_ok] at this
  simp only [execOp, ha.ev hx, ha.ev hy, ha.ev hz, Option.map_some, Option.map_none, Sem.run_bind, run_sliceAt_slice (P := P) w t _ _ _ _ (by rw [elem_of hu]; exact hu), this, Result.andThen_ok, Sem.run_pure]
theorem OpW.cutH {t e : TypeId} {x z : Operand} {v : Value} {b o n c sz : Nat} {k' : IntKind} {h : Int} (hv : SlV v b o n c) (hx : evO env x = some v) (hz : evO env z = some (.int k' h)) (hu : P.underlying t = some (.slice e)) (hs : ((P.info? e).map (·.size)).bind lit = some sz)
    (h1 : 0 ≤ h) (h2 : h ≤ (n : Int)) (hd : Nat.blt d N = true) (hK : ∀ v', SlV v' b o h.toNat c → K ((d, v') :: env) w) : OpW P N ⟨some d, .slice t x none (some z) none, ty, pos, af, g⟩ env w K := by
  obtain ⟨sz', hs1, hs2⟩ := Option.bind_eq_some_iff.1 hs
  obtain rfl := lit_eq hs2
  obtain ⟨A, n', c', rfl, rfl, rfl, hc⟩ := SlV.cut (sz := sz') (l := 0) hv (Nat.zero_le h.toNat) (show h.toNat ≤ n by omega)
  have hle := hv.le
  simp only [Nat.zero_mul, Nat.add_zero, Nat.sub_zero] at hc
  refine OpW.base (v := sliced A 0 h.toNat c' sz') (fun a ha => ?_) hd (hK _ hc)
  have := run_slice_h (P := P) w t A n' c' (by rw [elem_of hu]; exact hu) k' h h1 (by omega)
  rw [elem_of hu, size_run hs1, Result.andThen_ok] at this
  simp only [execOp, ha.ev hx, ha.ev hz, Option.map_some, Option.map_none, Sem.run_bind, run_sliceAt_slice (P := P) w t _ _ _ _ (by rw [elem_of hu]; exact hu), this, Result.andThen_ok, Sem.run_pure]
theorem OpW.cutL {t e : TypeId} {x y : Operand} {v : Value} {b o n c sz : Nat} {k : IntKind} {l : Int} (hv : SlV v b o n c) (hx : evO env x = some v) (hy : evO env y = some (.int k l)) (hu : P.underlying t = some (.slice e)) (hs : ((P.info? e).map (·.size)).bind lit = some sz)
    (h0 : 0 ≤ l) (h1 : l ≤ (n : Int)) (hd : Nat.blt d N = true) (hK : ∀ v', SlV v' b (o + l.toNat * sz) (n - l.toNat) (c - l.toNat) → K ((d, v') :: env) w) : OpW P N ⟨some d, .slice t x (some y) none none, ty, pos, af, g⟩ env w K := by
  obtain ⟨sz', hs1, hs2⟩ := Option.bind_eq_some_iff.1 hs
  obtain rfl := lit_eq hs2
  obtain ⟨A, n', c', rfl, rfl, rfl, hc⟩ := SlV.cut (sz := sz') hv (show l.toNat ≤ n by omega) (Nat.le_refl n)
  have hle := hv.le
  refine OpW.base (v := sliced A l.toNat n' c' sz') (fun a ha => ?_) hd (hK _ hc)
  have := run_slice_l (P := P) w t A n' c' (by rw [elem_of hu]; exact hu) k l h0 h1
  rw [elem_of hu, size_run hs1, Result.andThen_ok] at this
  simp only [execOp, ha.ev hx, ha.ev hy, Option.map_some, Option.map_none, Sem.run_bind, run_sliceAt_slice (P := P) w t _ _ _ _ (by rw [elem_of hu]; exact hu), this, Result.andThen_ok, Sem.run_pure]
theorem OpW.cutA {t e : TypeId} {x : Operand} {v : Value} {b o n c sz : Nat} (hv : SlV v b o n c) (hx : evO env x = some v) (hu : P.underlying t = some (.slice e)) (hs : ((P.info? e).map (·.size)).bind lit = some sz)
    (hd : Nat.blt d N = true) (hK : ∀ v', SlV v' b o n c → K ((d, v') :: env) w) : OpW P N ⟨some d, .slice t x none none none, ty, pos, af, g⟩ env w K := by
  obtain ⟨sz', hs1, hs2⟩ := Option.bind_eq_some_iff.1 hs
  obtain rfl := lit_eq hs2
  obtain ⟨A, n', c', rfl, rfl, rfl, hc⟩ := SlV.cut (sz := sz') (l := 0) hv (Nat.zero_le n) (Nat.le_refl n)
  simp only [Nat.zero_mul, Nat.add_zero, Nat.sub_zero] at hc
  refine OpW.base (v := sliced A 0 n' c' sz') (fun a ha => ?_) hd (hK _ hc)
  have := run_slice_all (P := P) w t A n' c' (by rw [elem_of hu]; exact hu)
  rw [elem_of hu, size_run hs1, Result.andThen_ok] at this
  simp only [execOp, ha.ev hx, Option.map_some, Option.map_none, Sem.run_bind, run_sliceAt_slice (P := P) w t _ _ _ _ (by rw [elem_of hu]; exact hu), this, Result.andThen_ok, Sem.run_pure]
theorem RdC.cut {b o k l : Nat} {xs : List (List Value)} (hc : RdC w b o k xs) : RdC w b (o + l * k) k (xs.drop l) := by
  intro i r hi
  rw [List.getElem?_drop] at hi
  refine ⟨(hc _ r hi).1, fun j u hj => ?_⟩
  have := (hc _ r hi).2 j u hj
  rwa [show o + ((l + i) * k + j) = o + l * k + (i * k + j) from by rw [Nat.add_mul]; omega] at this
theorem RdC.take {b o k h : Nat} {xs : List (List Value)} (hc : RdC w b o k xs) : RdC w b o k (xs.take h) := by
  intro i r hi
  rw [List.getElem?_take] at hi
  split at hi
  · exact hc i r hi
  · cases hi

/-! ### Rows of one's own -/
inductive Sl (T : TypeId) (k : Nat) : Value → List (List Value) → List (Nat × Obj) → Prop
  | nil : Sl T k (.slice none 0 0) [] []
  | own {g cap : Nat} {cur : List Value} {rows : List (List Value)} : (∀ r ∈ rows, r.length = k) → cur.length = cap * k → rows.length ≤ cap → cap ≤ maxLen → cur.take (rows.length * k) = rows.flatten → Sl T k (.slice (some ⟨g, 0, none⟩) rows.length cap) rows [(g, C T cur)]
def blk : List (Nat × Obj) → Nat
  | [] => 0
  | c :: _ => c.1
theorem flat_len {k : Nat} : ∀ {rows : List (List Value)}, (∀ r ∈ rows, r.length = k) → rows.flatten.length = rows.length * k
  | [], _ => by simp
  | r :: rs, h => by
    rw [List.flatten_cons, List.length_append, h r (by simp), flat_len (fun r' h' => h r' (by simp [h'])), List.length_cons, Nat.succ_mul]
    omega
theorem flat_at {k : Nat} : ∀ {rows : List (List Value)} {i : Nat} {r : List Value} {j : Nat} {u : Value}, (∀ r ∈ rows, r.length = k) → rows[i]? = some r → r[j]? = some u → rows.flatten[i * k + j]? = some u
  | [], i, r, j, u, _, hi, _ => by simp at hi
  | r0 :: rs, 0, r, j, u, h, hi, hj => by
    obtain rfl : r0 = r := by simpa using hi
    rw [List.flatten_cons, Nat.zero_mul, Nat.zero_add, List.getElem?_append_left (List.getElem?_eq_some_iff.1 hj).1]
    exact hj
  | r0 :: rs, i + 1, r, j, u, h, hi, hj => by
    have h0 : r0.length = k := h r0 (by simp)
    rw [List.flatten_cons, List.getElem?_append_right (by rw [h0, Nat.succ_mul]; omega), h0, show (i + 1) * k + j - k = i * k + j from by rw [Nat.succ_mul]; omega]
    exact flat_at (fun r' h' => h r' (by simp [h'])) (by simpa using hi) hj
theorem Sl.rows {T k : Nat} {v : Value} {rows : List (List Value)} {B : List (Nat × Obj)} (h : Sl T k v rows B) : ∀ r ∈ rows, r.length = k := by
  cases h with
  | nil => intro r hr; cases hr
  | own h _ _ _ _ => exact h
theorem Sl.one {T k : Nat} {v : Value} {rows : List (List Value)} {B : List (Nat × Obj)} (h : Sl T k v rows B) : v.oneCell' = true := by cases h <;> rfl
theorem Sl.slv {T k : Nat} {v : Value} {rows : List (List Value)} {B : List (Nat × Obj)} (h : Sl T k v rows B) : ∃ c, SlV v (blk B) 0 rows.length c := by
  cases h with
  | nil => exact ⟨0, ⟨none, rfl, fun h => by simp at h⟩, Nat.le_refl _⟩
  | own _ _ h _ _ => exact ⟨_, ⟨_, rfl, fun _ => rfl⟩, h⟩
theorem Sl.rdOf {T k : Nat} {v : Value} {rows : List (List Value)} {B : List (Nat × Obj)} (h : Sl T k v rows B) (hB : ∀ c ∈ B, w.heap[c.1]? = some c.2) : RdC w (blk B) 0 k rows := by
  cases h with
  | nil => intro i r hi; simp at hi
  | @own g cap cur rows h1 h2 h3 h4 h5 =>
    intro i r hi
    refine ⟨h1 r (List.mem_of_getElem? hi), fun j u hj => ?_⟩
    have hb := hB _ List.mem_cons_self
    have hf := flat_at h1 hi hj
    rw [← h5, List.getElem?_take] at hf
    split at hf
    · simp [World.cell?, blk, hb, hf]
    · cases hf
/-- The own blocks B, taken out of the list. -/
inductive RemB (B : List (Nat × Obj)) : List (Nat × Obj) → List (Nat × Obj) → Prop
  | here {L : List (Nat × Obj)} : RemB B (B ++ L) L
  | all : RemB B B []
  | there {c : Nat × Obj} {L L' : List (Nat × Obj)} : RemB B L L' → RemB B (c :: L) (c :: L')
  | app {B0 L L' : List (Nat × Obj)} : RemB B L L' → RemB B (B0 ++ L) (B0 ++ L')
theorem RemB.one {c : Nat × Obj} {L : List (Nat × Obj)} : RemB [c] (c :: L) L := .here
theorem RemB.perm {B : List (Nat × Obj)} (h : RemB B L L') : L.Perm (B ++ L') := by
  induction h with
  | here => exact .refl _
  | all => simp
  | @there c L L' _ ih => exact (ih.cons c).trans (List.perm_middle).symm
  | @app B0 L L' _ ih =>
    refine (ih.append_left B0).trans ?_
    rw [← List.append_assoc, ← List.append_assoc]
    exact List.Perm.append_right L' List.perm_append_comm
theorem St.rem {B : List (Nat × Obj)} (hS : St w0 X L w) (h : RemB B L L') : St w0 X (B ++ L') w := hS.perm h.perm
theorem Sl.rd {T k : Nat} {v : Value} {rows : List (List Value)} {B : List (Nat × Obj)} (h : Sl T k v rows B) (hS : St w0 X L w) (hr : RemB B L L') : RdC w (blk B) 0 k rows :=
  h.rdOf fun c hc => (hS.rem hr).own c (List.mem_append_left _ hc)
theorem Sl.lt {T k : Nat} {v : Value} {rows : List (List Value)} {B : List (Nat × Obj)} (h : Sl T k v rows B) (hS : St w0 X L w) (hr : RemB B L L') : 0 < rows.length → blk B < w.heap.size := by
  cases h with
  | nil => intro h; simp at h
  | own => exact fun _ => (hS.rem hr).lt (List.mem_append_left _ List.mem_cons_self)
theorem Sl.row {T k : Nat} {v : Value} {rows : List (List Value)} {B : List (Nat × Obj)} (h : Sl T k v rows B) (hS : St w0 X L w) (hr : RemB B L L') (hm : rows.length ≤ 9223372036854775807) : RdRow w v k rows := by
  obtain ⟨c, hv⟩ := h.slv
  have hlt := h.lt hS hr
  have hc := h.rd hS hr
  obtain ⟨A, rfl, hA⟩ := hv.eq
  exact ⟨A, c, rfl, hv.le, hm, fun hp => ⟨blk B, 0, hA hp, hlt hp, fun i r hi => hc i r hi⟩⟩
/-- A literal: its parts one behind the other. -/
theorem OpW.buildSlice {t e : TypeId} {n sz : Nat} {xs : List (Nat × Operand)} {vs : List Value} (hS : St w0 X L w) (hd : Nat.blt d N = true) (hu : P.underlying t = some (.slice e)) (hs : ((P.info? e).map (·.size)).bind lit = some sz) (hz : ((P.info? e).bind (·.zero)).map (·.cells.size) = some sz)
    (hx : evP env xs = some ((vs.zipIdx 0).map fun x => (x.2, x.1))) (hn : vs.length = n) (hcs : ∀ v ∈ vs, v.cells.size = sz) (hpos : Nat.blt 0 (n * sz) = true) (hsm : Nat.ble (n * sz) 16777216 = true)
    (h : ∀ b w', b = w.heap.size → St w0 X ((b, C e (vs.flatMap fun v => v.cells.toList)) :: L) w' → K ((d, .slice (some ⟨b, 0, none⟩) n n) :: env) w') : OpW P N ⟨some d, .buildSlice t n xs.toArray, ty, pos, af, g⟩ env w K := by
  obtain ⟨sz', hs1, hs2⟩ := Option.bind_eq_some_iff.1 hs
  obtain rfl := lit_eq hs2
  obtain ⟨ie, hie, hsz⟩ := Option.map_eq_some_iff.1 hs1
  obtain ⟨z, hz1, hz2⟩ := Option.map_eq_some_iff.1 hz
  rw [hie] at hz1
  simp only [Option.bind_some] at hz1
  have hpos' : 0 < n * sz' := by simpa [Nat.blt_eq] using hpos
  have hsm' : n * sz' ≤ 16777216 := by simpa [Nat.ble_eq] using hsm
  have hsp : 0 < sz' := Nat.pos_of_mul_pos_left hpos' |> fun h => by rcases Nat.eq_zero_or_pos sz' with h0 | h0; (subst h0; simp at hpos'); exact h0
  refine OpW.base (v := .slice (some ⟨w.heap.size, 0, none⟩) n n) (w' := w.alloc (C e (vs.flatMap fun v => v.cells.toList))) (fun a ha => ?_) hd (h _ _ rfl (hS.alloc _))
  have h1 := ha.evP hx
  have h2 : (xs.toArray.map fun (p : Nat × Operand) => (p.1, a.eval p.2)) = ((vs.zipIdx 0).map fun x => (x.2, x.1)).toArray := by rw [← h1]; simp
  have h3 : (Array.map (fun (x : Nat × Operand) => match x with | (i, x) => (i, a.eval x)) xs.toArray) = ((vs.zipIdx 0).map fun x => (x.2, x.1)).toArray := by rw [← h2]
  have hf := Great.fill_whole hsp vs ((Array.range (n * sz')).map (z.cells[· % z.cells.size]!)) hcs (by simp [hn])
  have := run_buildSlice (P := P) w t e n ((vs.zipIdx 0).map fun x => (x.2, x.1)).toArray (vs.flatMap fun v => v.cells.toList).toArray ie z hu hie hz1 (by rw [hsz]; simp only [Nat.reducePow]; omega) (by rw [hsz]; omega) (by rw [hsz]; exact hf)
  simp only [execOp, h3, Sem.run_bind, this, Result.andThen_ok, Sem.run_pure]
/-- Rows more behind rows of one's own: either in their block, or in a new one. -/
theorem Sl.appendRun {t T k ty : TypeId} {v : Value} {rows : List (List Value)} {B : List (Nat × Obj)} {bytes : Nat} (hSl : Sl T k v rows B) (hS : St w0 X (B ++ L) w) (hu : P.underlying t = some (.slice T)) (hs : (P.info? T).map (·.size) = some k)
    (hz : ((P.info? T).bind (·.zero)).map (·.cells.size) = some k) (hby : (P.info? T).map (·.bytes) = some bytes) (hk : 0 < k) {y : Value} {b o m c : Nat} {news : List (List Value)} (hv : SlV y b o m c) (hm : news.length = m) (hc : RdC w b o k news) (h1 : ∀ r ∈ news, ∀ u ∈ r, u.oneCell' = true)
    (hmax : rows.length + m ≤ maxLen) (hbytes : (rows.length + m) * bytes ≤ 140737488355328) :
    ∃ v' B' w', (Builtin.append_ #[t, t] ty #[v, y]).run P w = .ok v' w' ∧ Sl T k v' (rows ++ news) B' ∧ St w0 X (B' ++ L) w' := by
  obtain ⟨i, hi, rfl⟩ := Option.map_eq_some_iff.1 hs
  obtain ⟨z, hz1, hz2⟩ := Option.map_eq_some_iff.1 hz
  rw [hi] at hz1 hby
  simp only [Option.bind_some] at hz1
  obtain rfl : i.bytes = bytes := by simpa using hby
  obtain ⟨A, rfl, hA⟩ := hv.eq
  have hrows := hSl.rows
  have hnews : ∀ r ∈ news, r.length = i.size := fun r hr => by
    obtain ⟨j, hj⟩ := List.getElem?_of_mem hr
    exact (hc j r hj).1
  have hall : ∀ r ∈ rows ++ news, r.length = i.size := fun r hr => by
    rcases List.mem_append.1 hr with h | h
    · exact hrows r h
    · exact hnews r h
  have hnd := hS.nd
  rw [List.map_append, List.nodup_append] at hnd
  by_cases hm0 : m = 0
  · subst hm0
    obtain rfl : news = [] := List.eq_nil_of_length_eq_zero hm
    refine ⟨v, B, w, ?_, by simpa using hSl, hS⟩
    cases hSl with
    | nil => cases A <;> simp [Builtin.append_, run_underlying hu, sizeOf, typeInfo, hi, Builtin.lenOf, Builtin.firstCells, loadCells, loadCellsFrom]
    | own h1 h2 h3 h4 h5 => cases A <;> simp [Builtin.append_, run_underlying hu, sizeOf, typeInfo, hi, Builtin.lenOf, Builtin.firstCells, loadCells, loadCellsFrom, h3, storeCells]
  · obtain rfl := hA (by omega)
    have hlen : news.flatten.length = m * i.size := by rw [flat_len hnews, hm]
    have hcell : ∀ j u, news.flatten[j]? = some u → w.cell? ((⟨b, o, none⟩ : Addr).add j) = some u := by
      intro j u hj
      have hjl := (List.getElem?_eq_some_iff.1 hj).1
      rw [hlen] at hjl
      have hdiv : j / i.size < news.length := by rw [hm]; exact (Nat.div_lt_iff_lt_mul hk).2 hjl
      have hr := List.getElem?_eq_getElem hdiv
      have hmod : j % i.size < (news[j / i.size]).length := by rw [(hc _ _ hr).1]; exact Nat.mod_lt _ hk
      have hu' := List.getElem?_eq_getElem hmod
      have h2 := (hc _ _ hr).2 _ _ hu'
      have h3 := flat_at hnews hr hu'
      rw [show j / i.size * i.size + j % i.size = j from by rw [Nat.mul_comm]; exact Nat.div_add_mod j i.size] at h3 h2
      rw [hj] at h3
      rw [add_pl, h2, h3]
    have h1' : ∀ u ∈ news.flatten, u.oneCell' = true := fun u hu => by
      obtain ⟨r, hr, hu⟩ := List.mem_flatten.1 hu
      exact h1 r hr u hu
    have h63 : rows.length + m ≤ 9223372036854775807 := by have := hmax; simp only [maxLen] at this; omega
    have grown : ∀ old, old < rows.length + m → ∀ L0 : List (Nat × Obj), St w0 X L0 w → Sl T i.size (.slice (some ⟨w.heap.size, 0, none⟩) (rows.length + m) (grownCap w (rows.length + m) old T)) (rows ++ news) [(w.heap.size, .cells (rows.flatten.toArray ++ news.flatten.toArray ++ Builtin.zeroCells z.cells (grownCap w (rows.length + m) old T - (rows.length + m))) T (0, 0))] ∧
        St w0 X ([(w.heap.size, .cells (rows.flatten.toArray ++ news.flatten.toArray ++ Builtin.zeroCells z.cells (grownCap w (rows.length + m) old T - (rows.length + m))) T (0, 0))] ++ L0) (w.drew.alloc (.cells (rows.flatten.toArray ++ news.flatten.toArray ++ Builtin.zeroCells z.cells (grownCap w (rows.length + m) old T - (rows.length + m))) T)) := by
      intro old ho L0 hS0
      have hge := grownCap_ge w (rows.length + m) old T
      have hcm : grownCap w (rows.length + m) old T ≤ maxLen := grownCap_le_maxLen w (rows.length + m) old T hmax
      refine ⟨?_, hS0.drew.alloc _⟩
      have hcs : (rows.flatten.toArray ++ news.flatten.toArray ++ Builtin.zeroCells z.cells (grownCap w (rows.length + m) old T - (rows.length + m))).toList.length = grownCap w (rows.length + m) old T * i.size := by
        rw [Array.length_toList]
        simp only [Array.size_append, List.size_toArray, size_zeroCells, hz2, flat_len hrows, hlen, ← Nat.add_mul]
        congr 1
        omega
      have htk : (rows.flatten.toArray ++ news.flatten.toArray ++ Builtin.zeroCells z.cells (grownCap w (rows.length + m) old T - (rows.length + m))).toList.take ((rows ++ news).length * i.size) = (rows ++ news).flatten := by
        simp only [Array.toList_append, List.append_assoc]
        rw [← List.append_assoc, List.flatten_append]
        refine List.take_left' ?_
        rw [List.length_append, flat_len hrows, hlen, List.length_append, hm, Nat.add_mul]
      have := Sl.own (T := T) (k := i.size) (g := w.heap.size) (cap := grownCap w (rows.length + m) old T) (rows := rows ++ news) hall hcs (by rw [List.length_append, hm]; exact hge) hcm htk
      rw [List.length_append, hm] at this
      exact this
    cases hSl with
    | nil =>
      have hr := run_append_nil (P := P) w t ty T i z hu hi hz1 ⟨b, o, none⟩ m c news.flatten hlen hcell (by omega) (by simp only [List.length_nil] at h63; omega) (by simp only [List.length_nil, Nat.zero_add] at hbytes; omega)
      have hg := grown 0 (by omega) L hS
      simp only [List.length_nil, Nat.zero_add, List.flatten_nil, Array.empty_append, List.nil_append] at hg hr ⊢
      exact ⟨_, _, _, hr, hg.1, hg.2⟩
    | @own g cap cur rows h1c h2 h3 h4 h5 =>
      have hcur : w.heap[g]? = some (.cells cur.toArray T (0, 0)) := hS.own _ (List.mem_append_left _ List.mem_cons_self)
      by_cases hroom : rows.length + m ≤ cap
      · have hfit : rows.length * i.size + news.flatten.length ≤ cur.toArray.size := by rw [hlen, List.size_toArray, h2, ← Nat.add_mul]; exact Nat.mul_le_mul_right _ hroom
        have hr := run_append_room (P := P) w t ty T i hu hi g rows.length cap cur.toArray hcur ⟨b, o, none⟩ m c news.flatten hlen hcell h1' hroom hfit
        rw [List.size_toArray] at hfit
        refine ⟨_, [(g, C T (cur.take (rows.length * i.size) ++ news.flatten ++ cur.drop (rows.length * i.size + news.flatten.length)))], _, hr, ?_, hS.setRow .here⟩
        have := Sl.own (T := T) (k := i.size) (g := g) (cap := cap) (cur := cur.take (rows.length * i.size) ++ news.flatten ++ cur.drop (rows.length * i.size + news.flatten.length)) (rows := rows ++ news) hall (by simp only [List.length_append, List.length_take, List.length_drop]; omega) (by rw [List.length_append, hm]; exact hroom) h4 (by
          rw [h5, List.flatten_append]
          refine List.take_left' ?_
          rw [List.length_append, flat_len hrows, hlen, List.length_append, hm, Nat.add_mul])
        rw [List.length_append, hm] at this
        exact this
      · have holds : ∀ j u, rows.flatten[j]? = some u → w.cell? ((⟨g, 0, none⟩ : Addr).add j) = some u := by
          intro j u hj
          rw [← h5, List.getElem?_take] at hj
          split at hj
          · rw [add_pl]
            simp [World.cell?, hcur, hj]
          · cases hj
        have hr := run_append_grow (P := P) w t ty T i z hu hi hz1 ⟨g, 0, none⟩ rows.length cap rows.flatten (flat_len hrows) holds ⟨b, o, none⟩ m c news.flatten hlen hcell (by omega) (by omega) (growslice_fits (by omega) hbytes)
        have hg := grown cap (by omega) L (hS.sub (List.sublist_append_right _ _))
        exact ⟨_, _, _, hr, hg.1, hg.2⟩
theorem OpW.buildSlice1 {t e : TypeId} {sz : Nat} {x : Operand} {v : Value} {cs : List Value} (hS : St w0 X L w) (hd : Nat.blt d N = true) (hu : P.underlying t = some (.slice e)) (hs : ((P.info? e).map (·.size)).bind lit = some sz) (hz : ((P.info? e).bind (·.zero)).map (·.cells.size) = some sz)
    (hx : evO env x = some v) (hcs : IsCells v cs) (hl : cs.length = sz) (hpos : Nat.blt 0 sz = true) (hsm : Nat.ble sz 16777216 = true)
    (h : ∀ b w', b = w.heap.size → St w0 X ((b, C e cs) :: L) w' → K ((d, .slice (some ⟨b, 0, none⟩) 1 1) :: env) w') : OpW P N ⟨some d, .buildSlice t 1 #[(0, x)], ty, pos, af, g⟩ env w K := by
  have he := hcs.eq
  refine OpW.buildSlice (vs := [v]) (xs := [(0, x)]) hS hd hu hs hz (by simp [evP, hx]) rfl (by simp [he, hl]) (by simpa using hpos) (by simpa using hsm) (fun b w' hb hS' => h b w' hb ?_)
  simpa [he] using hS'
theorem OpW.buildSliceV {t e : TypeId} {n : Nat} {xs : List (Nat × Operand)} {vs : List Value} (hS : St w0 X L w) (hd : Nat.blt d N = true) (hu : P.underlying t = some (.slice e)) (hs : ((P.info? e).map (·.size)).bind lit = some 1) (hz : ((P.info? e).bind (·.zero)).map (·.cells.size) = some 1)
    (hx : evP env xs = some ((vs.zipIdx 0).map fun x => (x.2, x.1))) (hn : vs.length = n) (hcs : vs.all (·.oneCell') = true) (hpos : Nat.blt 0 n = true) (hsm : Nat.ble n 16777216 = true)
    (h : ∀ b w', b = w.heap.size → St w0 X ((b, C e vs) :: L) w' → K ((d, .slice (some ⟨b, 0, none⟩) n n) :: env) w') : OpW P N ⟨some d, .buildSlice t n xs.toArray, ty, pos, af, g⟩ env w K := by
  have h1 : ∀ v ∈ vs, v.cells = #[v] := fun v hv => (IsCells.one (List.all_eq_true.1 hcs v hv)).eq
  have h2 : (vs.flatMap fun v => v.cells.toList) = vs := by
    clear hx hn hcs h
    induction vs with
    | nil => rfl
    | cons v vs ih => rw [List.flatMap_cons, ih (fun v hv => h1 v (by simp [hv])), h1 v (by simp)]; rfl
  exact OpW.buildSlice hS hd hu hs hz hx hn (fun v hv => by rw [h1 v hv]; rfl) (by simpa using hpos) (by simpa using hsm) (fun b w' hb hS' => h b w' hb (h2 ▸ hS'))
/-- An empty literal: rows of one's own, none yet. -/
theorem OpW.buildSlice0 {t e : TypeId} {k : Nat} (hS : St w0 X L w) (hd : Nat.blt d N = true) (hu : P.underlying t = some (.slice e)) (hs : ((P.info? e).map (·.size)).bind lit = some k)
    (h : ∀ v b w', b = w.heap.size → Sl e k v [] [(b, C e [])] → v = .slice (some ⟨b, 0, none⟩) 0 0 → St w0 X ([(b, C e [])] ++ L) w' → K ((d, v) :: env) w') : OpW P N ⟨some d, .buildSlice t 0 #[], ty, pos, af, g⟩ env w K := by
  obtain ⟨k', hs1, hs2⟩ := Option.bind_eq_some_iff.1 hs
  obtain rfl := lit_eq hs2
  obtain ⟨ie, hie, hsz⟩ := Option.map_eq_some_iff.1 hs1
  refine OpW.base (v := .slice (some ⟨w.heap.size, 0, none⟩) 0 0) (w' := w.alloc (C e [])) (fun a ha => ?_) hd (h _ _ _ rfl (.own (rows := []) (by simp) (by simp) (by simp) (by simp [maxLen]) (by simp)) rfl (hS.alloc _))
  have : (Instr.buildSlice t 0 #[]).run P w = .ok (.slice (some ⟨w.heap.size, 0, none⟩) 0 0) (w.alloc (C e [])) := by
    simp [Instr.buildSlice, run_underlying hu, sizeOf, typeInfo, hie, newRow, Instr.fill]
    have : Array.map (fun x => (default : Value)) (Array.range 0) = #[] := by simp [Array.range]
    rw [this]
  simp only [execOp, Array.map_empty, Sem.run_bind, this, Result.andThen_ok, Sem.run_pure]
theorem bytes_of {T : TypeId} (h : ((P.info? T).map fun i => Nat.ble i.bytes 131072) = some true) : ∃ n, (P.info? T).map (·.bytes) = some n ∧ n ≤ 131072 := by
  obtain ⟨i, hi, he⟩ := Option.map_eq_some_iff.1 h
  exact ⟨i.bytes, by simp [hi], by simpa [Nat.ble_eq] using he⟩
/-- append(l, x): the temporary slice of one part. -/
theorem OpW.append1 {t T k : TypeId} {x y : Operand} {v : Value} {rows : List (List Value)} {B : List (Nat × Obj)} {bt ct : Nat} {cs : List Value} (hSl : Sl T k v rows B) (hS : St w0 X L w) (hB : RemB B L L') (hx : evO env x = some v) (hy : evO env y = some (.slice (some ⟨bt, 0, none⟩) 1 ct)) (hm : Has L bt (C T cs))
    (hu : P.underlying t = some (.slice T)) (hs : ((P.info? T).map (·.size)).bind lit = some k) (hz : ((P.info? T).bind (·.zero)).map (·.cells.size) = some k) (hby : ((P.info? T).map fun i => Nat.ble i.bytes 131072) = some true) (hk : Nat.blt 0 k = true) (hct : Nat.ble 1 ct = true) (hcs : cs.length = k) (h1 : (cs.all (·.oneCell')) = true)
    (hlen : rows.length < 1073741824) (hd : Nat.blt d N = true)
    (h : ∀ v' B' w', Sl T k v' (rows ++ [cs]) B' → St w0 X (B' ++ L') w' → K ((d, v') :: env) w') : OpW P N ⟨some d, .call { callee := .builtin .append, args := #[x, y], argTypes := #[t, t] }, ty, pos, af, g⟩ env w K := by
  obtain ⟨k', hs1, hs2⟩ := Option.bind_eq_some_iff.1 hs
  obtain rfl := lit_eq hs2
  obtain ⟨bytes, hby', hbb⟩ := bytes_of hby
  have hSr := hS.rem hB
  have hv : SlV (.slice (some ⟨bt, 0, none⟩) 1 ct) bt 0 1 ct := ⟨⟨_, rfl, fun _ => rfl⟩, by simpa [Nat.ble_eq] using hct⟩
  have hc : RdC w bt 0 k' [cs] := by
    intro i r hi
    rcases i with _ | i
    · obtain rfl : cs = r := by simpa using hi
      exact ⟨hcs, fun j u hj => by have := hS.cellAt hm hj; simpa using this⟩
    · simp at hi
  obtain ⟨v', B', w', hr, hsl', hst'⟩ := Sl.appendRun (ty := ty) hSl hSr hu hs1 hz hby' (by simpa [Nat.blt_eq] using hk) hv rfl hc (by simpa using List.all_eq_true.1 h1) (by simp only [maxLen]; omega) (Nat.le_trans (Nat.mul_le_mul (show _ ≤ 1073741824 by omega) hbb) (by decide))
  exact OpW.base (fun a ha => by simp only [execOp, resolve, invoke, builtin, Sem.run_bind, Sem.run_pure, Result.andThen_ok, List.map_toArray, List.map_cons, List.map_nil, ha.ev hx, ha.ev hy, hr]) hd (h v' B' w' hsl' hst')
/-- append(l, m..). -/
theorem OpW.appendN {t T k b o m c : Nat} {x y : Operand} {v u : Value} {rows news : List (List Value)} {B : List (Nat × Obj)} (hSl : Sl T k v rows B) (hS : St w0 X L w) (hB : RemB B L L') (hv : SlV u b o m c) (hc : RdC w b o k news) (hm : news.length = m) (hx : evO env x = some v) (hy : evO env y = some u)
    (hu : P.underlying t = some (.slice T)) (hs : ((P.info? T).map (·.size)).bind lit = some k) (hz : ((P.info? T).bind (·.zero)).map (·.cells.size) = some k) (hby : ((P.info? T).map fun i => Nat.ble i.bytes 131072) = some true) (hk : Nat.blt 0 k = true) (h1 : ∀ r ∈ news, ∀ u ∈ r, u.oneCell' = true)
    (hlen : rows.length + m ≤ 1073741824) (hd : Nat.blt d N = true)
    (h : ∀ v' B' w', Sl T k v' (rows ++ news) B' → St w0 X (B' ++ L') w' → K ((d, v') :: env) w') : OpW P N ⟨some d, .call { callee := .builtin .append, args := #[x, y], argTypes := #[t, t] }, ty, pos, af, g⟩ env w K := by
  obtain ⟨k', hs1, hs2⟩ := Option.bind_eq_some_iff.1 hs
  obtain rfl := lit_eq hs2
  obtain ⟨bytes, hby', hbb⟩ := bytes_of hby
  obtain ⟨v', B', w', hr, hsl', hst'⟩ := Sl.appendRun (ty := ty) hSl (hS.rem hB) hu hs1 hz hby' (by simpa [Nat.blt_eq] using hk) hv hm hc h1 (by simp only [maxLen]; omega) (Nat.le_trans (Nat.mul_le_mul (show _ ≤ 1073741824 by omega) hbb) (by decide))
  exact OpW.base (fun a ha => by simp only [execOp, resolve, invoke, builtin, Sem.run_bind, Sem.run_pure, Result.andThen_ok, List.map_toArray, List.map_cons, List.map_nil, ha.ev hx, ha.ev hy, hr]) hd (h v' B' w' hsl' hst')
/-- append(l, m..) where the bytes are told. -/
theorem OpW.appendB {t T k b o m c bytes : Nat} {x y : Operand} {v u : Value} {rows news : List (List Value)} {B : List (Nat × Obj)} (hSl : Sl T k v rows B) (hS : St w0 X L w) (hB : RemB B L L') (hv : SlV u b o m c) (hc : RdC w b o k news) (hm : news.length = m) (hx : evO env x = some v) (hy : evO env y = some u)
    (hu : P.underlying t = some (.slice T)) (hs : ((P.info? T).map (·.size)).bind lit = some k) (hz : ((P.info? T).bind (·.zero)).map (·.cells.size) = some k) (hby : ((P.info? T).map (·.bytes)).bind lit = some bytes) (hk : Nat.blt 0 k = true) (h1 : ∀ r ∈ news, ∀ u ∈ r, u.oneCell' = true)
    (hlen : rows.length + m ≤ 9223372036854775807) (hbytes : (rows.length + m) * bytes ≤ 140737488355328) (hd : Nat.blt d N = true)
    (h : ∀ v' B' w', Sl T k v' (rows ++ news) B' → St w0 X (B' ++ L') w' → K ((d, v') :: env) w') : OpW P N ⟨some d, .call { callee := .builtin .append, args := #[x, y], argTypes := #[t, t] }, ty, pos, af, g⟩ env w K := by
  obtain ⟨k', hs1, hs2⟩ := Option.bind_eq_some_iff.1 hs
  obtain rfl := lit_eq hs2
  obtain ⟨b', hb1, hb2⟩ := Option.bind_eq_some_iff.1 hby
  obtain rfl := lit_eq hb2
  obtain ⟨v', B', w', hr, hsl', hst'⟩ := Sl.appendRun (ty := ty) hSl (hS.rem hB) hu hs1 hz hb1 (by simpa [Nat.blt_eq] using hk) hv hm hc h1 (by simp only [maxLen]; omega) hbytes
  exact OpW.base (fun a ha => by simp only [execOp, resolve, invoke, builtin, Sem.run_bind, Sem.run_pure, Result.andThen_ok, List.map_toArray, List.map_cons, List.map_nil, ha.ev hx, ha.ev hy, hr]) hd (h v' B' w' hsl' hst')
/-! ### Rows within a block of one's own -/
theorem flat_set {k : Nat} : ∀ {rows : List (List Value)} {i : Nat} {r : List Value}, (∀ r ∈ rows, r.length = k) → r.length = k → i < rows.length → (rows.set i r).flatten = rows.flatten.take (i * k) ++ r ++ rows.flatten.drop (i * k + k)
  | [], i, r, _, _, hi => by simp at hi
  | r0 :: rs, 0, r, h, hr, _ => by
    have h0 : r0.length = k := h r0 (by simp)
    rw [List.set_cons_zero, List.flatten_cons, List.flatten_cons, Nat.zero_mul, Nat.zero_add, List.take_zero, List.nil_append, ← h0, List.drop_left]
  | r0 :: rs, i + 1, r, h, hr, hi => by
    have h0 : r0.length = k := h r0 (by simp)
    have ih := flat_set (rows := rs) (i := i) (r := r) (fun r' h' => h r' (by simp [h'])) hr (by simpa using hi)
    rw [List.set_cons_succ, List.flatten_cons, List.flatten_cons, ih, show (i + 1) * k = r0.length + i * k from by rw [Nat.succ_mul, h0]; omega, List.take_length_add_append, show r0.length + i * k + k = r0.length + (i * k + k) from by omega, List.drop_length_add_append]
    simp only [List.append_assoc]
theorem RdC.own {T b k : Nat} {rows : List (List Value)} {post : List Value} (hS : St w0 X L w) (hm : Has L b (C T (rows.flatten ++ post))) (hk : ∀ r ∈ rows, r.length = k) : RdC w b 0 k rows := by
  intro i r hi
  refine ⟨hk r (List.mem_of_getElem? hi), fun j u hj => ?_⟩
  have hf := flat_at hk hi hj
  rw [Nat.zero_add]
  exact hS.cellAt hm (by rw [List.getElem?_append_left (List.getElem?_eq_some_iff.1 hf).1]; exact hf)
theorem OpW.storeRow {t T : TypeId} {x y : Operand} {b o i k : Nat} {rows : List (List Value)} {post r : List Value} {v : Value} (hS : St w0 X L w) (hx : evO env x = some (.pointer (some ⟨b, o + i * k, none⟩))) (ho : o = 0) (hy : evO env y = some v) (hcells : IsCells v r)
    (hm : Repl L b (C T (rows.flatten ++ post)) (C T ((rows.set i r).flatten ++ post)) L') (hk : ∀ r ∈ rows, r.length = k) (hr : r.length = k) (hi : i < rows.length) (hsz : (P.info? t).map (·.size) = some r.length) (h1 : (r.all (·.oneCell')) = true)
    (h : ∀ w', St w0 X L' w' → K env w') : OpW P N ⟨none, .store t x y, ty, pos, af, g⟩ env w K := by
  subst ho
  have hfl := flat_len hk
  have hle : i * k + r.length ≤ rows.flatten.length := by
    rw [hfl, hr, ← Nat.succ_mul]
    exact Nat.mul_le_mul_right _ hi
  refine OpW.storeG (o := 0 + i * k) hS hx hy hcells hsz h1 (by rw [List.length_append]; omega) ?_ hm h
  rw [flat_set hk hr hi, Nat.zero_add, List.take_append_of_le_length (by omega), List.drop_append_of_le_length hle, hr]
  simp
/-- A cell of a row. -/
theorem OpW.storeCell {t T : TypeId} {x y : Operand} {b o i k j : Nat} {rows : List (List Value)} {post r : List Value} {v : Value} (hS : St w0 X L w) (hx : evO env x = some (.pointer (some ⟨b, o + i * k + j, none⟩))) (ho : o = 0) (hy : evO env y = some v) (h1 : v.oneCell' = true)
    (hm : Repl L b (C T (rows.flatten ++ post)) (C T ((rows.set i (r.set j v)).flatten ++ post)) L') (hk : ∀ r ∈ rows, r.length = k) (hi : rows[i]? = some r) (hj : j < k) (hsz : (P.info? t).map (·.size) = some 1)
    (h : ∀ w', St w0 X L' w' → K env w') : OpW P N ⟨none, .store t x y, ty, pos, af, g⟩ env w K := by
  subst ho
  have hr : r.length = k := hk r (List.mem_of_getElem? hi)
  have hil : i < rows.length := (List.getElem?_eq_some_iff.1 hi).1
  have hfl := flat_len hk
  have hle : i * k + k ≤ rows.flatten.length := by
    rw [hfl, ← Nat.succ_mul]
    exact Nat.mul_le_mul_right _ hil
  refine OpW.storeG (o := 0 + i * k + j) (vs := [v]) hS hx hy (.one h1) hsz (by simp [h1]) (by simp only [List.length_append, List.length_singleton]; omega) ?_ hm h
  rw [flat_set hk (by simpa using hr) hil, Nat.zero_add]
  have e1 : rows.flatten.take (i * k + j) = rows.flatten.take (i * k) ++ r.take j := by
    rw [List.take_add]
    congr 1
    apply List.ext_getElem?
    intro n
    rw [List.getElem?_take, List.getElem?_take]
    split
    · rename_i hn
      rw [List.getElem?_drop]
      have hrn := List.getElem?_eq_getElem (show n < r.length by omega)
      rw [hrn]
      exact flat_at hk hi hrn
    · rfl
  have e2 : rows.flatten.drop (i * k + j + 1) = r.drop (j + 1) ++ rows.flatten.drop (i * k + k) := by
    have := congrArg (List.drop (i * k + j + 1)) (List.take_append_drop (i * k + k) rows.flatten)
    rw [← this, List.drop_append]
    have hlt : (rows.flatten.take (i * k + k)).length = i * k + k := by rw [List.length_take]; omega
    congr 1
    · apply List.ext_getElem?
      intro n
      rw [List.getElem?_drop, List.getElem?_drop, List.getElem?_take]
      by_cases hn : j + 1 + n < r.length
      · rw [if_pos (by omega)]
        have hrn := List.getElem?_eq_getElem hn
        rw [hrn]
        have := flat_at hk hi hrn
        rwa [show i * k + (j + 1 + n) = i * k + j + 1 + n from by omega] at this
      · rw [if_neg (by omega), List.getElem?_eq_none (by omega)]
    · rw [hlt, show i * k + j + 1 - (i * k + k) = 0 from by omega, List.drop_zero]
  rw [List.take_append_of_le_length (by omega), List.drop_append_of_le_length (by rw [List.length_singleton]; omega), e1]
  simp only [List.length_singleton]
  rw [e2, List.set_eq_take_append_cons_drop, if_pos (by omega)]
  simp
theorem RunV.loadPre {t T : TypeId} {x : Operand} {b n : Nat} {pre post : List Value} (hS : St w0 X L w) (hx : evO env x = some (.pointer (some ⟨b, 0, none⟩))) (hr : rowSzL P t = some n) (hm : Has L b (C T (pre ++ post))) (hn : pre.length = n) :
    RunV P N env w ⟨dd, .load t x, ty, pos, af, g⟩ (.agg pre.toArray) := RunV.loadCN hx (rowSzL_eq hr) hn (fun j v hj => hS.cellAt hm (by rw [Nat.zero_add, List.getElem?_append_left (List.getElem?_eq_some_iff.1 hj).1]; exact hj))
theorem RunV.indexVRow {t e : TypeId} {x y : Operand} {rows : List (List Value)} {r : List Value} {n k : Nat} {kk : IntKind} {i : Int} (hx : evO env x = some (.agg rows.flatten.toArray)) (hy : evO env y = some (.int kk i)) (hu : P.underlying t = some (.array n e)) (hr : rowSzL P e = some k) (hk : ∀ r ∈ rows, r.length = k)
    (h0 : 0 ≤ i) (h1 : i < (n : Int)) (hi : rows[i.toNat]? = some r) : RunV P N env w ⟨dd, .index t x y, ty, pos, af, g⟩ (.agg r.toArray) := ⟨fun a ha => by
  have hrs := rowSzL_eq hr
  unfold rowSz at hrs
  cases hue : P.underlying e with
  | none => rw [hue] at hrs; cases hrs
  | some de =>
    rw [hue] at hrs
    have hd : (match de with | .struct _ | .array _ _ => true | _ => false) = true ∧ ∃ inf, P.info? e = some inf ∧ inf.size = k := by
      cases de <;> first | (obtain ⟨inf, hi, he⟩ := Option.map_eq_some_iff.1 hrs; exact ⟨rfl, inf, hi, by simpa using he⟩) | (exact absurd hrs (by simp))
    obtain ⟨hd, inf, hinf, rfl⟩ := hd
    have hagg : (isAgg e).run P w = .ok true w := by
      unfold isAgg
      rw [Sem.run_bind, run_underlying hue w]
      cases de <;> first | rfl | (exact absurd hd (by simp))
    have hrl := hk r (List.mem_of_getElem? hi)
    have he : rows.flatten.toArray.extract (i.toNat * inf.size) (i.toNat * inf.size + inf.size) = r.toArray := by
      have hil : i.toNat < rows.length := (List.getElem?_eq_some_iff.1 hi).1
      have hle : i.toNat * inf.size + inf.size ≤ rows.flatten.length := by
        rw [flat_len hk, ← Nat.succ_mul]
        exact Nat.mul_le_mul_right _ hil
      apply Array.ext'
      apply List.ext_getElem?
      intro j
      by_cases hj : j < inf.size
      · have hrj := List.getElem?_eq_getElem (show j < r.length by omega)
        have hf := flat_at hk hi hrj
        rw [hrj]
        simp [hj, hf]
      · rw [List.getElem?_eq_none (l := r) (by omega), List.getElem?_eq_none (by simp; omega)]
    simp only [execOp, ha.ev hx, ha.ev hy, Instr.index, asIntOf, Sem.run_bind, run_underlying hu w, Result.andThen_ok, Sem.run_pure]
    have he2 : (rows.flatten.drop (i.toNat * inf.size)).take inf.size = r := by
      have := congrArg Array.toList he
      simpa using this
    simp [h0, h1, sizeOf, typeInfo, hinf, part, Sem.run_bind, hagg, he2]⟩
/-- A callee that was handed some of one's blocks. -/
theorem St.callR {A A' : List (Nat × Obj)} {w' : World} (hS : St w0 X L w) (hr : RemB A L L') (h' : St w (A.map Prod.fst) A' w') : St w0 X (A' ++ L') w' := (hS.rem hr).call h'
theorem St.call1 {b : Nat} {o o' : Obj} {w' : World} (hS : St w0 X L w) (hr : RemB [(b, o)] L L') (h' : St w [b] [(b, o')] w') : St w0 X ((b, o') :: L') w' := hS.callR hr h'
/-- A callee that only read the blocks that it was handed. -/
theorem St.ro {A : List (Nat × Obj)} (hown : Own w0 A) (hS : St w0 (A.map Prod.fst) L w) (hr : RemB A L L') : St w0 [] [] w := by
  refine ⟨hS.os, hS.tape, hS.output, hS.size, fun k hk _ => ?_, fun c hc => (by cases hc), List.nodup_nil, fun c hc => (by cases hc)⟩
  by_cases hm : k ∈ A.map Prod.fst
  · obtain ⟨c, hc, rfl⟩ := List.mem_map.1 hm
    rw [hown.1 c hc]
    exact (hS.rem hr).own c (List.mem_append_left _ hc)
  · exact hS.old k hk hm
theorem St.ownOf {A : List (Nat × Obj)} (hS : St w0 X L w) (hr : RemB A L L') : Own w A := by
  have h := (hS.rem hr).toOwn
  refine ⟨fun c hc => h.1 c (List.mem_append_left _ hc), ?_⟩
  have := h.2
  rw [List.map_append, List.nodup_append] at this
  exact this.1
/-- A row of one's own slice is turned. -/
theorem OpW.storeSl {t T : TypeId} {x y : Operand} {i k : Nat} {u v : Value} {rows : List (List Value)} {r : List Value} {B : List (Nat × Obj)} (hSl : Sl T k u rows B) (hS : St w0 X L w) (hB : RemB B L L') (hx : evO env x = some (.pointer (some ⟨blk B, 0 + i * k, none⟩))) (hy : evO env y = some v) (hcells : IsCells v r)
    (hr : r.length = k) (hi : i < rows.length) (hsz : (P.info? t).map (·.size) = some r.length) (h1 : (r.all (·.oneCell')) = true)
    (h : ∀ B' w', Sl T k u (rows.set i r) B' → St w0 X (B' ++ L') w' → K env w') : OpW P N ⟨none, .store t x y, ty, pos, af, g⟩ env w K := by
  have hSr := hS.rem hB
  cases hSl with
  | nil => simp at hi
  | @own g0 cap cur rows hk hc hn hm hf =>
    have hcur : cur = rows.flatten ++ cur.drop (rows.length * k) := by rw [← hf]; exact (List.take_append_drop _ _).symm
    have hset : (rows.set i r).length = rows.length := by simp
    refine OpW.storeRow (i := i) (k := k) (rows := rows) (post := cur.drop (rows.length * k)) (b := g0) (L := (g0, C T (rows.flatten ++ cur.drop (rows.length * k))) :: L') (by rw [← hcur]; exact hSr) hx rfl hy hcells .here hk hr hi hsz h1 (fun w' hS' => ?_)
    have hall : ∀ r' ∈ rows.set i r, r'.length = k := fun r' hr' => by
      rcases List.mem_or_eq_of_mem_set hr' with h' | h'
      · exact hk r' h'
      · rw [h']; exact hr
    have hfl := flat_len hall
    rw [hset] at hfl
    have hle : rows.length * k ≤ cap * k := Nat.mul_le_mul_right _ hn
    have hsl : Sl T k (.slice (some ⟨g0, 0, none⟩) (rows.set i r).length cap) (rows.set i r) [(g0, C T ((rows.set i r).flatten ++ cur.drop (rows.length * k)))] :=
      .own hall (by rw [List.length_append, hfl, List.length_drop]; omega) (by rw [hset]; exact hn) hm (by rw [hset]; exact List.take_left' hfl)
    rw [hset] at hsl
    exact h _ w' hsl hS'
/-- A cut's value, told. -/
def cutV (v : Value) (l h sz : Nat) : Value := match v with
  | .slice A _ c => sliced A l h c sz
  | u => u
theorem SlV.cutV {v : Value} {b o n c l h : Nat} (sz : Nat) (hv : SlV v b o n c) (h1 : l ≤ h) (h2 : h ≤ n) : SlV (cutV v l h sz) b (o + l * sz) (h - l) (c - l) := by
  obtain ⟨A, n', c', rfl, rfl, rfl, hc⟩ := SlV.cut (sz := sz) hv h1 h2
  exact hc
theorem RunV.cutHv {t e : TypeId} {x z : Operand} {v : Value} {b o n c sz : Nat} {k' : IntKind} {h : Int} (hv : SlV v b o n c) (hx : evO env x = some v) (hz : evO env z = some (.int k' h)) (hu : P.underlying t = some (.slice e)) (hs : ((P.info? e).map (·.size)).bind lit = some sz)
    (h1 : 0 ≤ h) (h2 : h ≤ (n : Int)) : RunV P N env w ⟨dd, .slice t x none (some z) none, ty, pos, af, g⟩ (cutV v 0 h.toNat sz) := by
  obtain ⟨sz', hs1, hs2⟩ := Option.bind_eq_some_iff.1 hs
  obtain rfl := lit_eq hs2
  have hle := hv.le
  obtain ⟨A, rfl, hA⟩ := hv.eq
  refine ⟨fun a ha => ?_⟩
  have := run_slice_h (P := P) w t A n c (by rw [elem_of hu]; exact hu) k' h h1 (by omega)
  rw [elem_of hu, size_run hs1, Result.andThen_ok] at this
  simp only [execOp, ha.ev hx, ha.ev hz, Option.map_some, Option.map_none, Sem.run_bind, run_sliceAt_slice (P := P) w t _ _ _ _ (by rw [elem_of hu]; exact hu), this, Result.andThen_ok, Sem.run_pure]
  rfl
end
end Go.Proofs.Ytdoinfpkfbfjaaa
