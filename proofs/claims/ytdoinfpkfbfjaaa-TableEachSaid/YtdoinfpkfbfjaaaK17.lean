/- copy, between rows: into rows of one's own. -/
import Derived.Test.YtdoinfpkfbfjaaaK13
import Derived.Laws.CopyRow
set_option linter.unusedVariables false
set_option linter.unusedSimpArgs false
namespace Go.Proofs.Ytdoinfpkfbfjaaa
open Go.RowKit
section
variable {P : Program} {N : Nat} {env : Env} {w w0 : World} {X : List Nat} {L L' : List (Nat × Obj)} {K : Env → World → Prop}
variable {dd : Option Nat} {d : Nat} {ty : TypeId} {pos : String} {af : Array Edge} {g : Option (Nat × Bool)}
theorem run_copy_rows (w : World) (dT sT ty elem : TypeId) (g o dLen dCap : Nat) (a : Addr) (sLen sCap : Nat) (cur : Array Value) (t : TypeId) (cs : List Value) (i : TypeInfo)
    (hu : P.underlying dT = some (.slice elem)) (hi : P.info? elem = some i)
    (hg : w.heap[g]? = some (.cells cur t (0, 0))) (hn : cs.length = Nat.min sLen dLen * i.size)
    (hsrc : ∀ j v, cs[j]? = some v → w.cell? (a.add j) = some v) (hfit : o + cs.length ≤ cur.size) (h1 : ∀ v ∈ cs, v.oneCell' = true) :
    (Builtin.copy_ #[dT, sT] ty #[.slice (some ⟨g, o, none⟩) dLen dCap, .slice (some a) sLen sCap]).run P w =
      .ok (goInt (Nat.min sLen dLen)) (w.setRow g (cur.toList.take o ++ cs ++ cur.toList.drop (o + cs.length)).toArray) := by
  have hl := run_loadCells_list (P := P) w a cs hsrc
  have hst := run_storeCells_at P g o t cs 0 cur w hg (by simpa using hfit) h1
  simp [Builtin.copy_, run_underlying hu, Builtin.lenOf, Builtin.firstCells, sizeOf, typeInfo, hi, ← hn, hl, hst]
theorem run_copy_no (w : World) (dT sT ty elem : TypeId) (dp sp : Option Addr) (dLen dCap sLen sCap : Nat) (i : TypeInfo) (hu : P.underlying dT = some (.slice elem)) (hi : P.info? elem = some i) (hn : Nat.min sLen dLen = 0) :
    (Builtin.copy_ #[dT, sT] ty #[.slice dp dLen dCap, .slice sp sLen sCap]).run P w = .ok (goInt 0) w := by
  cases dp <;> cases sp <;> simp [Builtin.copy_, run_underlying hu, Builtin.lenOf, Builtin.firstCells, sizeOf, typeInfo, hi, hn, loadCells, loadCellsFrom, storeCells]
/-- Rows go over into rows of one's own, from place i on. -/
theorem OpW.copySl {t T k i nd cd bs os ns cs : Nat} {x y : Operand} {v u y' : Value} {rows news : List (List Value)} {B : List (Nat × Obj)} (hSl : Sl T k v rows B) (hS : St w0 X L w) (hB : RemB B L L') (hd' : SlV u (blk B) (i * k) nd cd) (hin : i + nd ≤ rows.length)
    (hs' : SlV y' bs os ns cs) (hc : RdC w bs os k news) (hm : news.length = ns) (hx : evO env x = some u) (hy : evO env y = some y') (hu : P.underlying t = some (.slice T)) (hs : ((P.info? T).map (·.size)).bind lit = some k) (hk : Nat.blt 0 k = true) (h1 : ∀ r ∈ news, ∀ c ∈ r, c.oneCell' = true) (hd : Nat.blt d N = true)
    (h : ∀ B' w', Sl T k v (rows.take i ++ news.take (min ns nd) ++ rows.drop (i + min ns nd)) B' → St w0 X (B' ++ L') w' → K ((d, .int .i64 (min ns nd : Nat)) :: env) w') : OpW P N ⟨some d, .call { callee := .builtin .copy, args := #[x, y], argTypes := #[t, t] }, ty, pos, af, g⟩ env w K := by
  obtain ⟨s0, hs1, hs2⟩ := Option.bind_eq_some_iff.1 hs
  obtain rfl := lit_eq hs2
  obtain ⟨inf, hi, hik⟩ := Option.map_eq_some_iff.1 hs1
  have hk0 : 0 < s0 := by simpa [Nat.blt_eq] using hk
  obtain ⟨A, rfl, hA⟩ := hd'.eq
  obtain ⟨A2, rfl, hA2⟩ := hs'.eq
  by_cases h0 : min ns nd = 0
  · have hr := run_copy_no (P := P) w t t ty T A A2 nd cd ns cs inf hu hi h0
    refine OpW.base (v := .int .i64 (0 : Nat)) (w' := w) (fun a ha => ?_) hd (by
      have := h B w (by rw [h0]; simpa using hSl) (hS.rem hB)
      rwa [h0] at this)
    simp [execOp, resolve, invoke, builtin, ha.ev hx, ha.ev hy, hr, goInt]
  · obtain rfl := hA (by omega)
    obtain rfl := hA2 (by omega)
    have hSr := hS.rem hB
    have hnews : ∀ r ∈ news, r.length = s0 := fun r hr => by
      obtain ⟨j, hj⟩ := List.getElem?_of_mem hr
      exact (hc j r hj).1
    have htk : ∀ r ∈ news.take (min ns nd), r.length = s0 := fun r hr => hnews r (List.mem_of_mem_take hr)
    have hlt : (news.take (min ns nd)).length = min ns nd := by rw [List.length_take]; omega
    have hlen : (news.take (min ns nd)).flatten.length = min ns nd * s0 := by rw [flat_len htk, hlt]
    have hcell : ∀ j u, (news.take (min ns nd)).flatten[j]? = some u → w.cell? ((⟨bs, os, none⟩ : Addr).add j) = some u := by
      intro j u hj
      have hjl := (List.getElem?_eq_some_iff.1 hj).1
      rw [hlen] at hjl
      have hdiv : j / s0 < (news.take (min ns nd)).length := by rw [hlt]; exact (Nat.div_lt_iff_lt_mul hk0).2 hjl
      have hr := List.getElem?_eq_getElem hdiv
      have hr2 : news[j / s0]? = some ((news.take (min ns nd))[j / s0]) := by
        rw [← hr, List.getElem?_take_of_lt (by omega)]
      have hmod : j % s0 < ((news.take (min ns nd))[j / s0]).length := by rw [(hc _ _ hr2).1]; exact Nat.mod_lt _ hk0
      have hu' := List.getElem?_eq_getElem hmod
      have h2 := (hc _ _ hr2).2 _ _ hu'
      have h3 := flat_at htk hr hu'
      rw [show j / s0 * s0 + j % s0 = j from by rw [Nat.mul_comm]; exact Nat.div_add_mod j s0] at h3 h2
      rw [hj] at h3
      rw [add_pl, h2, h3]
    have h1' : ∀ u ∈ (news.take (min ns nd)).flatten, u.oneCell' = true := fun u hu => by
      obtain ⟨r, hr, hu⟩ := List.mem_flatten.1 hu
      exact h1 r (List.mem_of_mem_take hr) u hu
    cases hSl with
    | nil => simp only [List.length_nil] at hin; omega
    | @own g0 cap cur rows hrk hcl hn hmx hf =>
      have hcur : w.heap[g0]? = some (.cells cur.toArray T (0, 0)) := hSr.own _ (List.mem_append_left _ List.mem_cons_self)
      have hle : (i + min ns nd) * s0 ≤ cap * s0 := Nat.mul_le_mul_right _ (by omega)
      have hfit : i * s0 + (news.take (min ns nd)).flatten.length ≤ cur.toArray.size := by rw [hlen, List.size_toArray, hcl, ← Nat.add_mul]; exact hle
      have hr := run_copy_rows (P := P) w t t ty T g0 (i * s0) nd cd ⟨bs, os, none⟩ ns cs cur.toArray T (news.take (min ns nd)).flatten inf hu hi hcur (by rw [hlen, hik]) hcell hfit h1'
      have hall : ∀ r ∈ rows.take i ++ news.take (min ns nd) ++ rows.drop (i + min ns nd), r.length = s0 := fun r hr => by
        rcases List.mem_append.1 hr with hr | hr
        · rcases List.mem_append.1 hr with hr | hr
          · exact hrk r (List.mem_of_mem_take hr)
          · exact htk r hr
        · exact hrk r (List.mem_of_mem_drop hr)
      have hal : (rows.take i ++ news.take (min ns nd) ++ rows.drop (i + min ns nd)).length = rows.length := by
        simp only [List.length_append, List.length_take, List.length_drop, hm]
        omega
      have hflat : (cur.take (i * s0) ++ (news.take (min ns nd)).flatten ++ cur.drop (i * s0 + (news.take (min ns nd)).flatten.length)).take (rows.length * s0) = (rows.take i ++ news.take (min ns nd) ++ rows.drop (i + min ns nd)).flatten := by
        have e0 : cur = rows.flatten ++ cur.drop (rows.length * s0) := by rw [← hf]; exact (List.take_append_drop _ _).symm
        have e1 : cur.take (i * s0) = (rows.take i).flatten := by
          have : rows.flatten = (rows.take i).flatten ++ (rows.drop i).flatten := by rw [← List.flatten_append, List.take_append_drop]
          rw [e0, this, List.append_assoc]
          refine List.take_left' ?_
          rw [flat_len (fun r hr => hrk r (List.mem_of_mem_take hr)), List.length_take]
          congr 1
          omega
        have e2 : cur.drop (i * s0 + (news.take (min ns nd)).flatten.length) = (rows.drop (i + min ns nd)).flatten ++ cur.drop (rows.length * s0) := by
          have : rows.flatten = (rows.take (i + min ns nd)).flatten ++ (rows.drop (i + min ns nd)).flatten := by rw [← List.flatten_append, List.take_append_drop]
          rw [hlen, ← Nat.add_mul]
          conv => lhs; rw [e0, this, List.append_assoc]
          refine List.drop_left' ?_
          rw [flat_len (fun r hr => hrk r (List.mem_of_mem_take hr)), List.length_take]
          congr 1
          omega
        rw [e1, e2, ← List.append_assoc, ← List.flatten_append, ← List.flatten_append]
        refine List.take_left' ?_
        rw [flat_len hall, hal]
      have hsl : Sl T s0 (.slice (some ⟨g0, 0, none⟩) rows.length cap) (rows.take i ++ news.take (min ns nd) ++ rows.drop (i + min ns nd)) [(g0, C T (cur.take (i * s0) ++ (news.take (min ns nd)).flatten ++ cur.drop (i * s0 + (news.take (min ns nd)).flatten.length)))] := by
        rw [← hal]
        refine .own hall ?_ (by rw [hal]; exact hn) hmx (by rw [hal]; exact hflat)
        simp only [List.length_append, List.length_take, List.length_drop]
        rw [List.size_toArray] at hfit
        omega
      refine OpW.base (v := .int .i64 (min ns nd : Nat)) (w' := w.setRow g0 (cur.toArray.toList.take (i * s0) ++ (news.take (min ns nd)).flatten ++ cur.toArray.toList.drop (i * s0 + (news.take (min ns nd)).flatten.length)).toArray) (fun a ha => ?_) hd (h _ _ hsl (hSr.setRow .here))
      have hr' := hr
      simp only [blk] at *
      simp only [execOp, resolve, invoke, builtin, ha.ev hx, ha.ev hy, Sem.run_bind, Result.andThen_ok, Sem.run_pure, List.map_cons, List.map_nil, Array.map, hr]
      simp [goInt, hr, ha.ev hx, ha.ev hy]
/-- What came in stays as it was; what was made beside it is new. -/
theorem St.roL {A : List (Nat × Obj)} (hown : Own w0 A) (hS : St w0 (A.map Prod.fst) L w) (hr : RemB A L L') : St w0 [] L' w := by
  have hR := hS.rem hr
  have hnd := hR.nd
  rw [List.map_append, List.nodup_append] at hnd
  refine ⟨hS.os, hS.tape, hS.output, hS.size, fun k hk _ => ?_, fun c hc => hR.own c (List.mem_append_right _ hc), hnd.2.1, fun c hc => .inr ?_⟩
  · by_cases hm : k ∈ A.map Prod.fst
    · obtain ⟨c, hc, rfl⟩ := List.mem_map.1 hm
      rw [hown.1 c hc]
      exact hR.own c (List.mem_append_left _ hc)
    · exact hS.old k hk hm
  · rcases hR.wr c (List.mem_append_right _ hc) with h | h
    · exact absurd rfl (hnd.2.2 _ h _ (List.mem_map_of_mem hc))
    · exact h
theorem RunV.sleq {t t2 : TypeId} {x y : Operand} {a b : List UInt8} (hx : evO env x = some (str a)) (hy : evO env y = some (str b)) : RunV P N env w ⟨dd, .binOp .leq t x y t2, ty, pos, af, g⟩ (.bool (decide (¬ b < a))) :=
  RunV.bin hx hy run_guardStr (by
    have e : ∀ (t : TypeId) (a b : ByteArray), binOp .leq t (.string a) (.string b) = pure (.bool (Op.bytesLess a.toList b.toList || a.toList == b.toList)) := fun t a b => by simp [binOp, Op.stringOp]
    rw [e, ByteArray.toList_mk, ByteArray.toList_mk, bytesLess_eq, beqL]
    have : (decide (a < b) || decide (a = b)) = decide (¬ b < a) := by
      rw [Bool.eq_iff_iff]
      simp only [Bool.or_eq_true, decide_eq_true_eq]
      constructor
      · rintro (h | h)
        · exact lt_asym h
        · subst h; exact lt_irr _
      · intro h
        rcases lt_tri a b with h1 | h1 | h1
        · exact .inl h1
        · exact .inr h1
        · exact absurd h1 h
    rw [this]; rfl)
theorem RunV.shr64 {t t2 : TypeId} {x y : Operand} {k' : IntKind} {m : Int} {n : Nat} (hx : evO env x = some (.int .u64 m)) (hy : evO env y = some (.int k' (n : Int))) (hn : n ≤ 64) (hm : 0 ≤ m) : RunV P N env w ⟨dd, .binOp .shr t x y t2, ty, pos, af, g⟩ (.int .u64 (m / 2 ^ n)) :=
  RunV.bin hx hy run_guardInt (by
    have h0 : ¬ (n : Int) < 0 := by omega
    have h1 : min (n : Int).toNat IntKind.u64.bits = n := by
      have : IntKind.u64.bits = 64 := rfl
      rw [this]
      omega
    have h2 : Int.fdiv m (2 ^ n) = m / 2 ^ n := Int.fdiv_eq_ediv_of_nonneg _ (by exact Int.le_of_lt (Int.pow_pos (by decide)))
    simp only [binOp, Op.shift, if_neg h0, h1, h2]
    rfl)
theorem RunV.half64 {t t2 : TypeId} {x y : Operand} {k' : IntKind} {m : Int} (hx : evO env x = some (.int .u64 m)) (hy : evO env y = some (.int k' 1)) (hm : 0 ≤ m) : RunV P N env w ⟨dd, .binOp .shr t x y t2, ty, pos, af, g⟩ (.int .u64 (m / 2)) := by
  have := RunV.shr64 (P := P) (N := N) (env := env) (w := w) (dd := dd) (ty := ty) (pos := pos) (af := af) (g := g) (t := t) (t2 := t2) (n := 1) hx hy (by decide) hm
  simpa using this
end
end Go.Proofs.Ytdoinfpkfbfjaaa
