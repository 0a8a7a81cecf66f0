/- A store of one cell into a row of one's own slice; a row's cell at a place said in whatever way. -/
import Derived.Test.YtbnkcagcfbpiiaaK28
set_option linter.unusedSimpArgs false
set_option linter.unusedVariables false
set_option maxHeartbeats 1000000
namespace Go.Proofs.Ytbnkcagcfbpiiaa
open Go Go.Proofs Go.RowKit
section
variable {P : Program} {N d : Nat} {env : Env} {w0 w : World} {X : List Nat} {L L' : List (Nat × Obj)} {K : Env → World → Prop} {ty : TypeId} {pos : String} {af : Array Edge} {g : Option (Nat × Bool)}
theorem OpW.storeSlJ {t T : TypeId} {x y : Operand} {a i j k : Nat} {u v : Value} {rows : List (List Value)} {r : List Value} {B : List (Nat × Obj)} (hSl : Sl T k u rows B) (hS : St w0 X L w) (hB : RemB B L L') (hx : evO env x = some (.pointer (some ⟨blk B, a, none⟩))) (hy : evO env y = some v)
    (ha : a = i * k + j) (hi : rows[i]? = some r) (hj : j < k) (hsz : (P.info? t).map (·.size) = some 1) (h1 : v.oneCell' = true)
    (h : ∀ B' w', Sl T k u (rows.set i (r.set j v)) B' → St w0 X (B' ++ L') w' → K env w') : OpW P N ⟨none, .store t x y, ty, pos, af, g⟩ env w K := by
  have hSr := hS.rem hB
  have hil := (List.getElem?_eq_some_iff.1 hi).1
  cases hSl with
  | nil => simp at hil
  | @own g0 cap cur rows hk hc hn hm hf =>
    have hcur : cur = rows.flatten ++ cur.drop (rows.length * k) := by rw [← hf]; exact (List.take_append_drop _ _).symm
    have hset : (rows.set i (r.set j v)).length = rows.length := by simp
    have hx' : evO env x = some (.pointer (some ⟨g0, 0 + i * k + j, none⟩)) := by rw [hx, ha, Nat.zero_add]; rfl
    refine OpW.storeCell (i := i) (k := k) (rows := rows) (post := cur.drop (rows.length * k)) (b := g0) (L := (g0, C T (rows.flatten ++ cur.drop (rows.length * k))) :: L') (by rw [← hcur]; exact hSr) hx' rfl hy h1 .here hk hi hj hsz (fun w' hS' => ?_)
    have hall : ∀ r' ∈ rows.set i (r.set j v), r'.length = k := fun r' hr' => by
      rcases List.mem_or_eq_of_mem_set hr' with h' | h'
      · exact hk r' h'
      · rw [h', List.length_set]; exact hk r (List.mem_of_getElem? hi)
    have hfl := flat_len hall
    rw [hset] at hfl
    have hle : rows.length * k ≤ cap * k := Nat.mul_le_mul_right _ hn
    have hsl : Sl T k (.slice (some ⟨g0, 0, none⟩) (rows.set i (r.set j v)).length cap) (rows.set i (r.set j v)) [(g0, C T ((rows.set i (r.set j v)).flatten ++ cur.drop (rows.length * k)))] :=
      .own hall (by rw [List.length_append, hfl, List.length_drop]; omega) (by rw [hset]; exact hn) hm (by rw [hset]; exact List.take_left' hfl)
    rw [hset] at hsl
    exact h _ w' hsl hS'
end
section
variable {P : Program} {N : Nat} {env : Env} {w : World} {ty : TypeId} {pos : String} {af : Array Edge} {g : Option (Nat × Bool)} {dd : Option Nat}
/-- A cut's value where the capacity is told too. -/
def cutM (v : Value) (h m sz : Nat) : Value := match v with
  | .slice A _ _ => sliced A 0 h m sz
  | u => u
theorem SlV.cutM {v : Value} {b o n c h : Nat} (sz : Nat) (hv : SlV v b o n c) (h2 : h ≤ n) : SlV (cutM v h h sz) b o h h := by
  obtain ⟨A, rfl, hA⟩ := hv.eq
  refine ⟨⟨if h = 0 then A else A.map (·.add (0 * sz)), rfl, fun hp => ?_⟩, Nat.le_refl _⟩
  rw [hA (by omega), if_neg (by omega)]
  show some (Addr.add ⟨b, o, none⟩ (0 * sz)) = _
  rw [Nat.zero_mul]
  rfl
theorem RunV.cutHMv {t e : TypeId} {x z y : Operand} {v : Value} {b o n c sz : Nat} {k' k2 : IntKind} {h m : Int} (hv : SlV v b o n c) (hx : evO env x = some v) (hz : evO env z = some (.int k' h)) (hy : evO env y = some (.int k2 m)) (hu : P.underlying t = some (.slice e)) (hs : ((P.info? e).map (·.size)).bind lit = some sz)
    (h1 : 0 ≤ h) (h2 : h ≤ m) (h3 : m ≤ (n : Int)) : RunV P N env w ⟨dd, .slice t x none (some z) (some y), ty, pos, af, g⟩ (Proofs.Ytbnkcagcfbpiiaa.cutM v h.toNat m.toNat sz) := by
  obtain ⟨sz', hs1, hs2⟩ := Option.bind_eq_some_iff.1 hs
  obtain rfl := lit_eq hs2
  have hle := hv.le
  obtain ⟨A, rfl, hA⟩ := hv.eq
  refine ⟨fun a ha => ?_⟩
  have := run_slice_hm (P := P) w t A n c (by rw [elem_of hu]; exact hu) k' k2 h m h1 h2 (by omega)
  rw [elem_of hu, size_run hs1, Result.andThen_ok] at this
  simp only [execOp, ha.ev hx, ha.ev hz, ha.ev hy, Option.map_some, Option.map_none, Sem.run_bind, run_sliceAt_slice (P := P) w t _ _ _ _ (by rw [elem_of hu]; exact hu), this, Result.andThen_ok, Sem.run_pure]
  rfl
end
end Go.Proofs.Ytbnkcagcfbpiiaa
