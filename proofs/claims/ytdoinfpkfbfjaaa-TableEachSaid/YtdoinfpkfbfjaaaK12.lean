/- Slices made, lengths that arguments may have, slices within rows. Over any program; no condition. -/
import Derived.Test.YtdoinfpkfbfjaaaK11
import Derived.Test.YtdoinfpkfbfjaaaK7
import Derived.Laws.MakeOwn
set_option linter.unusedVariables false
set_option linter.unusedSimpArgs false
namespace Go.Proofs.Ytdoinfpkfbfjaaa
open Go.RowKit Go.ChangeShapes Go.WideShapes Go.ChangeAt
theorem made_eq (zr : List Value) (n : Nat) : (madeCells zr.toArray (n * zr.length)).toList = (List.replicate n zr).flatten := by
  apply List.ext_getElem?
  intro i
  have hall : ∀ r ∈ List.replicate n zr, r.length = zr.length := fun r hr => by rw [(List.mem_replicate.1 hr).2]
  by_cases hi : i < n * zr.length
  · have hz : 0 < zr.length := by
      rcases Nat.eq_zero_or_pos zr.length with h | h
      · rw [h] at hi; omega
      · exact h
    have hm : i % zr.length < zr.length := Nat.mod_lt _ hz
    have hd : i / zr.length < n := (Nat.div_lt_iff_lt_mul hz).2 hi
    have h1 := flat_at (rows := List.replicate n zr) (i := i / zr.length) (r := zr) (j := i % zr.length) (u := zr[i % zr.length]) hall (by simp [hd]) (by simp)
    rw [show i / zr.length * zr.length + i % zr.length = i from by rw [Nat.mul_comm]; exact Nat.div_add_mod i zr.length] at h1
    rw [h1]
    simp only [madeCells, Array.toList_map, List.getElem?_map, Array.getElem?_toList]
    simp [hi, hm]
  · rw [List.getElem?_eq_none, List.getElem?_eq_none]
    · rw [flat_len hall, List.length_replicate]; omega
    · simp [madeCells]; omega
section
variable {P : Program} {N : Nat} {env : Env} {w w0 : World} {X : List Nat} {L L' : List (Nat × Obj)} {K : Env → World → Prop}
variable {d : Nat} {ty : TypeId} {pos : String} {af : Array Edge} {g : Option (Nat × Bool)}
/-- make([]T, n). -/
theorem OpW.makeSlice {t e : TypeId} {x y : Operand} {kl kc : IntKind} {n sz bytes : Nat} {z : Value} {zr : List Value} (hS : St w0 X L w) (hd : Nat.blt d N = true) (hx : evO env x = some (.int kl (n : Int))) (hy : evO env y = some (.int kc (n : Int)))
    (hu : P.underlying t = some (.slice e)) (hs : ((P.info? e).map (·.size)).bind lit = some sz) (hz : (P.info? e).bind (·.zero) = some z) (hzc : IsCells z zr) (hl : zr.length = sz) (hby : ((P.info? e).map (·.bytes)).bind lit = some bytes) (hb : bytes * n ≤ 281474976710656) (hm : n ≤ 9223372036854775807)
    (h : ∀ v b w', b = w.heap.size → v = .slice (some ⟨b, 0, none⟩) n n → Sl e sz v (List.replicate n zr) [(b, C e (List.replicate n zr).flatten)] → St w0 X ([(b, C e (List.replicate n zr).flatten)] ++ L) w' → K ((d, v) :: env) w') :
    OpW P N ⟨some d, .makeSlice t x y, ty, pos, af, g⟩ env w K := by
  obtain ⟨sz', hs1, hs2⟩ := Option.bind_eq_some_iff.1 hs
  obtain rfl := lit_eq hs2
  obtain ⟨b', hb1, hb2⟩ := Option.bind_eq_some_iff.1 hby
  obtain rfl := lit_eq hb2
  obtain ⟨i, hi, rfl⟩ := Option.map_eq_some_iff.1 hs1
  rw [hi] at hz hb1
  simp only [Option.bind_some] at hz
  obtain rfl : i.bytes = b' := by simpa using hb1
  have hbz : (i.bytes : Int) * (n : Int) ≤ 281474976710656 := by
    have : ((i.bytes * n : Nat) : Int) ≤ 281474976710656 := by omega
    rwa [Int.natCast_mul] at this
  have hr := run_make (P := P) w t e i z hu hi hz kl kc (n : Int) (n : Int) (by omega) (Int.le_refl _) hbz (by omega)
  simp only [Int.toNat_natCast] at hr
  have hc : madeCells z.cells (n * i.size) = (List.replicate n zr).flatten.toArray := by
    rw [hzc.eq, ← hl, ← made_eq]
  rw [hc] at hr
  have hall : ∀ r ∈ List.replicate n zr, r.length = i.size := fun r hr => by rw [(List.mem_replicate.1 hr).2]; exact hl
  have hsl : Sl e i.size (.slice (some ⟨w.heap.size, 0, none⟩) (List.replicate n zr).length n) (List.replicate n zr) [(w.heap.size, C e (List.replicate n zr).flatten)] :=
    .own hall (by rw [flat_len hall, List.length_replicate]) (by simp) (by simpa [maxLen] using hm) (by rw [List.take_of_length_le]; rw [flat_len hall]; exact Nat.le_refl _)
  rw [List.length_replicate] at hsl
  refine OpW.base (v := .slice (some ⟨w.heap.size, 0, none⟩) n n) (w' := w.alloc (C e (List.replicate n zr).flatten)) (fun a ha => ?_) hd (h _ _ _ rfl rfl hsl (hS.alloc _))
  simp only [execOp, ha.ev hx, ha.ev hy, Sem.run_bind, hr, Result.andThen_ok, Sem.run_pure]
theorem RunV.cutLv {t e : TypeId} {x y : Operand} {v : Value} {b o n c sz : Nat} {k : IntKind} {l : Int} {dd : Option Nat} (hv : SlV v b o n c) (hx : evO env x = some v) (hy : evO env y = some (.int k l)) (hu : P.underlying t = some (.slice e)) (hs : ((P.info? e).map (·.size)).bind lit = some sz)
    (h0 : 0 ≤ l) (h1 : l ≤ (n : Int)) : RunV P N env w ⟨dd, .slice t x (some y) none none, ty, pos, af, g⟩ (cutV v l.toNat n sz) := by
  obtain ⟨sz', hs1, hs2⟩ := Option.bind_eq_some_iff.1 hs
  obtain rfl := lit_eq hs2
  have hle := hv.le
  obtain ⟨A, rfl, hA⟩ := hv.eq
  refine ⟨fun a ha => ?_⟩
  have := run_slice_l (P := P) w t A n c (by rw [elem_of hu]; exact hu) k l h0 h1
  rw [elem_of hu, size_run hs1, Result.andThen_ok] at this
  simp only [execOp, ha.ev hx, ha.ev hy, Option.map_some, Option.map_none, Sem.run_bind, run_sliceAt_slice (P := P) w t _ _ _ _ (by rw [elem_of hu]; exact hu), this, Result.andThen_ok, Sem.run_pure]
  rfl
theorem RunV.cutLHv {t e : TypeId} {x y z : Operand} {v : Value} {b o n c sz : Nat} {k k' : IntKind} {l h : Int} {dd : Option Nat} (hv : SlV v b o n c) (hx : evO env x = some v) (hy : evO env y = some (.int k l)) (hz : evO env z = some (.int k' h)) (hu : P.underlying t = some (.slice e)) (hs : ((P.info? e).map (·.size)).bind lit = some sz)
    (h0 : 0 ≤ l) (h1 : l ≤ h) (h2 : h ≤ (n : Int)) : RunV P N env w ⟨dd, .slice t x (some y) (some z) none, ty, pos, af, g⟩ (cutV v l.toNat h.toNat sz) := by
  obtain ⟨sz', hs1, hs2⟩ := Option.bind_eq_some_iff.1 hs
  obtain rfl := lit_eq hs2
  have hle := hv.le
  obtain ⟨A, rfl, hA⟩ := hv.eq
  refine ⟨fun a ha => ?_⟩
  have := run_slice_lh (P := P) w t A n c (by rw [elem_of hu]; exact hu) k k' l h h0 h1 (by omega)
  rw [elem_of hu, size_run hs1, Result.andThen_ok] at this
  simp only [execOp, ha.ev hx, ha.ev hy, ha.ev hz, Option.map_some, Option.map_none, Sem.run_bind, run_sliceAt_slice (P := P) w t _ _ _ _ (by rw [elem_of hu]; exact hu), this, Result.andThen_ok, Sem.run_pure]
  rfl
/-- append(l, x), however long. -/
theorem OpW.append1B {t T k bytes : TypeId} {x y : Operand} {v : Value} {rows : List (List Value)} {B : List (Nat × Obj)} {bt ct : Nat} {cs : List Value} (hSl : Sl T k v rows B) (hS : St w0 X L w) (hB : RemB B L L') (hx : evO env x = some v) (hy : evO env y = some (.slice (some ⟨bt, 0, none⟩) 1 ct)) (hm : Has L bt (C T cs))
    (hu : P.underlying t = some (.slice T)) (hs : ((P.info? T).map (·.size)).bind lit = some k) (hz : ((P.info? T).bind (·.zero)).map (·.cells.size) = some k) (hby : ((P.info? T).map (·.bytes)).bind lit = some bytes) (hk : Nat.blt 0 k = true) (hct : Nat.ble 1 ct = true) (hcs : cs.length = k) (h1 : (cs.all (·.oneCell')) = true)
    (hlen : rows.length + 1 ≤ 9223372036854775807) (hbytes : (rows.length + 1) * bytes ≤ 140737488355328) (hd : Nat.blt d N = true)
    (h : ∀ v' B' w', Sl T k v' (rows ++ [cs]) B' → St w0 X (B' ++ L') w' → K ((d, v') :: env) w') : OpW P N ⟨some d, .call { callee := .builtin .append, args := #[x, y], argTypes := #[t, t] }, ty, pos, af, g⟩ env w K := by
  have hv : SlV (.slice (some ⟨bt, 0, none⟩) 1 ct) bt 0 1 ct := ⟨⟨_, rfl, fun _ => rfl⟩, by simpa [Nat.ble_eq] using hct⟩
  have hc : RdC w bt 0 k [cs] := by
    intro i r hi
    rcases i with _ | i
    · obtain rfl : cs = r := by simpa using hi
      exact ⟨hcs, fun j u hj => by have := hS.cellAt hm hj; simpa using this⟩
    · simp at hi
  exact OpW.appendB hSl hS hB hv hc rfl hx hy hu hs hz hby hk (by simpa using List.all_eq_true.1 h1) hlen hbytes hd h
end
section
variable {H : Type} {enc : TypeId × Value → H} {P : Program} {w : World} {held : Bool}
/-- How long a slice may be that is handed in. -/
theorem rows_len {ts : List TypeId} {ds : List (DataW H)} {j : Nat} {t e : TypeId} {v : Value} {d : DataW H} {ps : List MemPlace} {k n : Nat} {xs : List (List Value)} (hsz : (DataW.weightsEach P ts ds).all (· ≤ reachBytes) = true) (ht : ts[j]? = some t) (hd : ds[j]? = some d)
    (hu : P.underlying t = some (.slice e)) (hb : P.bytesOf e = n) {W : World} {r : Reach} {b0 : Nat} (hv : Value.okWide P W r b0 t v) (h : DataW.Trod enc P w 0 (fun _ => true) held t v d ps) (hr : RdRow w v k xs) : xs.length * n ≤ 140737488351232 := by
  obtain ⟨a0, len, cap, rfl⟩ := okWide_slice hu hv
  obtain ⟨m, hm⟩ := h
  obtain ⟨A, cap', he, hle, _, _⟩ := hr
  simp only [Value.slice.injEq] at he
  obtain ⟨_, rfl, rfl⟩ := he
  rcases Go.Deep.open_slice hu (by simpa [Value.cells] using hm) with ⟨hcs, _⟩ | ⟨a, len1, cap1, m', n', D, Pl, hcs, _, hle1, hcap, hm', hx, _⟩
  · simp only [List.cons.injEq, Value.slice.injEq, and_true] at hcs
    rw [hcs.2.1]
    omega
  · simp only [List.cons.injEq, Value.slice.injEq, and_true] at hcs
    obtain ⟨rfl, h1, rfl⟩ := hcs
    simp only [Prod.mk.injEq] at hx
    have hs := sized_slice hsz ht (by rw [hd, hx.1]) hu
    simp only [List.length_map, List.length_range] at hs
    have hR : reachBytes = 140737488351232 := rfl
    rw [hb, hR] at hs
    rw [h1]
    exact Nat.le_trans (Nat.mul_le_mul_right _ (by omega)) hs
end
end Go.Proofs.Ytdoinfpkfbfjaaa
