/- Maps of one's own in a walk: made, asked, turned, counted. Keys are whole numbers or texts. Over any program; no condition. -/
import Derived.Test.YtdoinfpkfbfjaaaK8
import Derived.MapKept
import Derived.WideLaws
set_option linter.unusedVariables false
set_option linter.unusedSimpArgs false
namespace Go.Proofs.Ytdoinfpkfbfjaaa
open Go.RowKit

/-- What makes a value of a key: one of two kinds. -/
structure KeyK (P : Program) (kt : TypeId) {κ : Type} [DecidableEq κ] (enc : κ → Value) : Prop where
  kd : ∃ kd, P.underlying kt = some kd ∧ (∀ a, MapKept.IsKey kd (enc a)) ∧ ∀ a b, Instr.sameNow kd (enc a) (enc b) = some (decide (a = b))
  same : ∀ a, Instr.sameBits 10000 (enc a) (enc a) = true
theorem keyInt {P : Program} {kt : TypeId} {k : IntKind} (h : P.underlying kt = some (.int k)) : KeyK P kt (fun n : Int => Value.int k n) :=
  ⟨⟨_, h, fun a => rfl, fun a b => by by_cases e : a = b <;> simp [Instr.sameNow, e]⟩, fun a => by simp [Instr.sameBits]⟩
theorem beqB (a b : ByteArray) : (a == b) = decide (a = b) := by
  rw [Bool.eq_iff_iff]
  exact (MapKept.bytes_beq a b).trans (by simp)
theorem keyStr {P : Program} {kt : TypeId} (h : P.underlying kt = some .string) : KeyK P kt (fun s : ByteArray => Value.string s) :=
  ⟨⟨_, h, fun a => trivial, fun a b => by simp [Instr.sameNow, beqB]⟩, fun a => by simp [Instr.sameBits, beqB]⟩
/-- A map's object holds the pairs. -/
def IsMp {κ : Type} (enc : κ → Value) (o : Obj) (kvs : List (κ × Value)) : Prop := ∃ es clk, o = .map es clk ∧ es.toList.map (fun e => (e.key, e.val)) = kvs.map fun p => (enc p.1, p.2)
section
variable {κ : Type} {enc : κ → Value} {P : Program} {N : Nat} {env : Env} {w w0 : World} {X : List Nat} {L L' : List (Nat × Obj)} {K : Env → World → Prop}
variable {dd : Option Nat} {d : Nat} {ty : TypeId} {pos : String} {af : Array Edge} {g : Option (Nat × Bool)}
theorem OpW.makeMap {t : TypeId} (enc : κ → Value) (hS : St w0 X L w) (hd : Nat.blt d N = true)
    (h : ∀ b o w', b = w.heap.size → IsMp enc o [] → St w0 X ((b, o) :: L) w' → K ((d, .map (some b)) :: env) w') : OpW P N ⟨some d, .makeMap t none, ty, pos, af, g⟩ env w K := by
  refine OpW.base (v := .map (some w.heap.size)) (w' := w.alloc (.map #[] 0)) (fun a ha => ?_) hd (h _ _ _ rfl ⟨#[], 0, rfl, rfl⟩ (hS.alloc _))
  have : (Instr.makeMap t none).run P w = .ok (.map (some w.heap.size)) (w.alloc (.map #[] 0)) := rfl
  simp only [execOp, Option.map_none, Sem.run_bind, this, Result.andThen_ok, Sem.run_pure]
theorem RunV.lenM {t kt et : TypeId} {x : Operand} {b : Nat} {o : Obj} {kvs : List (κ × Value)} (hS : St w0 X L w) (hx : evO env x = some (.map (some b))) (hu : P.underlying t = some (.map kt et)) (hm : Has L b o) (ho : IsMp enc o kvs) :
    RunV P N env w ⟨dd, .call { callee := .builtin .len, args := #[x], argTypes := #[t] }, ty, pos, af, g⟩ (.int .i64 (kvs.length : Int)) := ⟨fun a ha => by
  obtain ⟨es, clk, rfl, he⟩ := ho
  have hl : es.size = kvs.length := by have := congrArg List.length he; simpa using this
  have := run_len_map (P := P) w t ty b es clk (by simp [Program.mapKeyOf, Program.mapElemOf, hu]) (hS.own _ hm.mem)
  simp [execOp, resolve, invoke, builtin, ha.ev hx, this, goInt, hl]⟩
end
section
variable {κ : Type} [DecidableEq κ] {enc : κ → Value}
def kget : List (κ × Value) → κ → Option Value
  | [], _ => none
  | p :: ps, k => if k = p.1 then some p.2 else kget ps k
def kput : List (κ × Value) → κ → Value → List (κ × Value)
  | [], k, v => [(k, v)]
  | p :: ps, k, v => if k = p.1 then (k, v) :: ps else p :: kput ps k v
theorem kget_put (kvs : List (κ × Value)) (k : κ) (v : Value) (k' : κ) : kget (kput kvs k v) k' = if k' = k then some v else kget kvs k' := by
  induction kvs with
  | nil => simp [kget, kput]
  | cons p ps ih =>
    unfold kput
    by_cases e : k = p.1
    · rw [if_pos e]
      unfold kget
      by_cases e2 : k' = k
      · simp [e2]
      · rw [if_neg e2, if_neg e2, if_neg (by rw [← e]; exact e2)]
    · rw [if_neg e]
      unfold kget
      by_cases e2 : k' = p.1
      · rw [if_pos e2, if_neg (fun h => e (h.symm.trans e2)), if_pos e2]
      · rw [if_neg e2, if_neg e2, ih]
theorem kput_length (kvs : List (κ × Value)) (k : κ) (v : Value) : (kput kvs k v).length = if (kget kvs k).isSome then kvs.length else kvs.length + 1 := by
  induction kvs with
  | nil => rfl
  | cons p ps ih =>
    unfold kput kget
    by_cases e : k = p.1
    · simp [e]
    · rw [if_neg e, if_neg e, List.length_cons, ih, List.length_cons]
      split <;> rfl
theorem findNow_kget {P : Program} {kt : TypeId} (hk : KeyK P kt enc) {kd : TypeDesc} (hkd : ∀ a b, Instr.sameNow kd (enc a) (enc b) = some (decide (a = b))) (k : κ) : ∀ (l : List MapEntry) (kvs : List (κ × Value)) (i : Nat), l.map (fun e => (e.key, e.val)) = kvs.map (fun p => (enc p.1, p.2)) →
    ∃ r, Instr.findNow kd (enc k) l i = some r ∧ r.map (·.2) = kget kvs k ∧ (∀ j v, r = some (j, v) → ∃ n, j = i + n ∧ (kvs[n]?).map (·.1) = some k ∧ (kput kvs k = fun u => kvs.set n (k, u))) ∧ (r = none → kput kvs k = fun u => kvs ++ [(k, u)])
  | [], kvs, i, h => by
    have : kvs = [] := by simpa using h.symm
    subst this
    exact ⟨none, rfl, rfl, ⟨fun j v h => by simp at h, fun _ => rfl⟩⟩
  | e :: l, [], i, h => by simp at h
  | e :: l, p :: kvs, i, h => by
    simp only [List.map_cons, List.cons.injEq, Prod.mk.injEq] at h
    obtain ⟨⟨h1, h2⟩, h3⟩ := h
    unfold Instr.findNow
    rw [h1, hkd]
    by_cases e' : k = p.1
    · simp only [e', decide_true]
      refine ⟨some (i, e.val), rfl, by simp [kget, h2], fun j v hj => ?_, fun h => by cases h⟩
      simp only [Option.some.injEq, Prod.mk.injEq] at hj
      refine ⟨0, by omega, by simp, ?_⟩
      funext u
      simp [kput]
    · simp only [e', decide_false]
      obtain ⟨r, r1, r2, r3, r4⟩ := findNow_kget hk hkd k l kvs (i + 1) h3
      refine ⟨r, r1, by rw [r2, kget, if_neg e'], fun j v hj => ?_, fun hr => ?_⟩
      · obtain ⟨n, hn, hg, hp⟩ := r3 j v hj
        refine ⟨n + 1, by omega, by simpa using hg, ?_⟩
        funext u
        rw [kput, if_neg e', hp]
        simp
      · funext u
        rw [kput, if_neg e', r4 hr]
        simp
section
variable {P : Program} {N : Nat} {env : Env} {w w0 : World} {X : List Nat} {L L' : List (Nat × Obj)} {K : Env → World → Prop}
variable {dd : Option Nat} {d : Nat} {ty : TypeId} {pos : String} {af : Array Edge} {g : Option (Nat × Bool)}
/-- A map asked for a key. -/
theorem run_lookupK {t kt et : TypeId} {b : Nat} {o : Obj} {kvs : List (κ × Value)} {k : κ} {z : Value} (hk : KeyK P kt enc) (hu : P.underlying t = some (.map kt et)) (hz : (P.info? et).bind (·.zero) = some z) (ho : IsMp enc o kvs) (hb : w.heap[b]? = some o) (ok : Bool) :
    (Instr.lookup t (.map (some b)) (enc k) ok).run P w = .ok (if ok then .tuple #[(kget kvs k).getD z, .bool (kget kvs k).isSome] else (kget kvs k).getD z) w := by
  obtain ⟨es, clk, rfl, he⟩ := ho
  obtain ⟨kd, hkd, hik, hsn⟩ := hk.kd
  obtain ⟨r, r1, r2, _⟩ := findNow_kget hk hsn k es.toList kvs 0 he
  obtain ⟨i, hi, hz'⟩ := Option.bind_eq_some_iff.1 hz
  have h1 := MapKept.run_getObj_map (P := P) hb
  have h2 := MapKept.run_checkKey (P := P) (w := w) hkd (hik k) es.isEmpty 9999
  have h3 := MapKept.run_findKey (P := P) (w := w) hkd r1
  unfold Instr.lookup
  cases r with
  | none =>
    simp only [Option.map_none] at r2
    cases ok <;> simp [Sem.run_bind, run_underlying hu, h1, h2, h3, zeroValue, typeInfo, hi, hz', ← r2]
  | some p =>
    simp only [Option.map_some] at r2
    cases ok <;> simp [Sem.run_bind, run_underlying hu, h1, h2, h3, ← r2]
theorem RunV.lookup1 {t kt et : TypeId} {x y : Operand} {b : Nat} {o : Obj} {kvs : List (κ × Value)} {k : κ} {z : Value} (hk : KeyK P kt enc) (hS : St w0 X L w) (hx : evO env x = some (.map (some b))) (hy : evO env y = some (enc k)) (hu : P.underlying t = some (.map kt et)) (hz : (P.info? et).bind (·.zero) = some z) (hm : Has L b o) (ho : IsMp enc o kvs) :
    RunV P N env w ⟨dd, .lookup t x y false, ty, pos, af, g⟩ ((kget kvs k).getD z) := ⟨fun a ha => by
  have := run_lookupK (w := w) (k := k) hk hu hz ho (hS.own _ hm.mem) false
  simp only [execOp, ha.ev hx, ha.ev hy, Sem.run_bind, this, Result.andThen_ok, Sem.run_pure]
  rfl⟩
theorem RunV.lookup2 {t kt et : TypeId} {x y : Operand} {b : Nat} {o : Obj} {kvs : List (κ × Value)} {k : κ} {z : Value} (hk : KeyK P kt enc) (hS : St w0 X L w) (hx : evO env x = some (.map (some b))) (hy : evO env y = some (enc k)) (hu : P.underlying t = some (.map kt et)) (hz : (P.info? et).bind (·.zero) = some z) (hm : Has L b o) (ho : IsMp enc o kvs) :
    RunV P N env w ⟨dd, .lookup t x y true, ty, pos, af, g⟩ (.tuple #[(kget kvs k).getD z, .bool (kget kvs k).isSome]) := ⟨fun a ha => by
  have := run_lookupK (w := w) (k := k) hk hu hz ho (hS.own _ hm.mem) true
  simp only [execOp, ha.ev hx, ha.ev hy, Sem.run_bind, this, Result.andThen_ok, Sem.run_pure]
  rfl⟩
theorem run_updK {t kt et : TypeId} {b : Nat} {o : Obj} {kvs : List (κ × Value)} {k : κ} {v : Value} (hk : KeyK P kt enc) (hu : P.underlying t = some (.map kt et)) (ho : IsMp enc o kvs) (hb : w.heap[b]? = some o) :
    ∃ o', IsMp enc o' (kput kvs k v) ∧ (Instr.mapUpdate t (.map (some b)) (enc k) v).run P w = .ok () { w with heap := w.heap.setIfInBounds b o' } := by
  obtain ⟨es, clk, rfl, he⟩ := ho
  obtain ⟨kd, hkd, hik, hsn⟩ := hk.kd
  obtain ⟨r, r1, r2, r3, r4⟩ := findNow_kget hk hsn k es.toList kvs 0 he
  have h1 := MapKept.run_getObj_map (P := P) hb
  have h2 := MapKept.run_checkKey (P := P) (w := w) hkd (hik k) false 9999
  have h3 := MapKept.run_findKey (P := P) (w := w) hkd r1
  cases r with
  | none =>
    refine ⟨.map (es.push { key := enc k, val := v, born := clk }) (clk + 1), ⟨_, _, rfl, ?_⟩, ?_⟩
    · rw [r4 rfl]
      simp [he]
    · simp [Instr.mapUpdate, run_underlying hu, h1, h2, h3, MapKept.run_setObj_map _ hb]
  | some p =>
    obtain ⟨i, u⟩ := p
    obtain ⟨n, hn, hg, hp⟩ := r3 i u rfl
    obtain rfl : i = n := by omega
    have hkey : (((es[i]?).map (·.key)).getD (enc k)) = enc k := by
      have := congrArg (fun l => l[i]?) he
      simp only [List.getElem?_map, Array.getElem?_toList] at this
      cases hq : kvs[i]? with
      | none => rw [hq] at hg; cases hg
      | some q =>
        rw [hq] at this hg
        simp only [Option.map_some, Option.some.injEq] at hg
        cases he2 : es[i]? with
        | none => rfl
        | some e =>
          rw [he2] at this
          simp only [Option.map_some, Option.some.injEq, Prod.mk.injEq] at this
          simp [this.1, hg]
    have hks : (Instr.keyThatStays (enc k) (enc k)).run P w = .ok (enc k) w := by simp [Instr.keyThatStays, hk.same]
    refine ⟨.map (es.modify i fun e => { e with key := enc k, val := v }) clk, ⟨_, _, rfl, ?_⟩, ?_⟩
    · rw [hp]
      apply List.ext_getElem?
      intro j
      have := congrArg (fun l => l[j]?) he
      simp only [List.getElem?_map, Array.getElem?_toList] at this
      rw [List.getElem?_map, List.getElem?_map, List.getElem?_set, Array.getElem?_toList, Array.getElem?_modify]
      by_cases hij : i = j
      · subst hij
        have hlt : i < kvs.length := by
          rcases Nat.lt_or_ge i kvs.length with h' | h'
          · exact h'
          · rw [List.getElem?_eq_none h'] at hg; cases hg
        have hle : es.size = kvs.length := by have := congrArg List.length he; simpa using this
        simp [hlt, hle]
      · simp [hij]
        simpa using this
    · simp [Instr.mapUpdate, run_underlying hu, h1, h2, h3, hkey, hks, MapKept.run_setObj_map _ hb]
theorem St.setHeap {b : Nat} {o o' : Obj} (hS : St w0 X L w) (hm : Repl L b o o' L') : St w0 X L' { w with heap := w.heap.setIfInBounds b o' } := by
  have hb := hS.own _ hm.memL
  have := MapKept.heap_set (o' := o') hb
  exact hS.put hm rfl rfl rfl (by simp) this.1 this.2
theorem OpW.mapUpdate {t kt et : TypeId} {x y z : Operand} {b : Nat} {o : Obj} {kvs : List (κ × Value)} {k : κ} {v : Value} (hk : KeyK P kt enc) (hS : St w0 X L w) (hx : evO env x = some (.map (some b))) (hy : evO env y = some (enc k)) (hz : evO env z = some v) (hu : P.underlying t = some (.map kt et)) (ho : IsMp enc o kvs) (L' : Obj → List (Nat × Obj)) (hm : ∀ o', Repl L b o o' (L' o'))
    (h : ∀ o' w', IsMp enc o' (kput kvs k v) → St w0 X (L' o') w' → K env w') : OpW P N ⟨none, .mapUpdate t x y z, ty, pos, af, g⟩ env w K := by
  obtain ⟨o', h1, h2⟩ := run_updK (w := w) (k := k) (v := v) hk hu ho (hS.own _ (hm o).memL)
  refine OpW.base0 (w' := { w with heap := w.heap.setIfInBounds b o' }) (fun a ha => ?_) (h o' _ h1 (hS.setHeap (hm o')))
  simp only [execOp, ha.ev hx, ha.ev hy, ha.ev hz, Sem.run_bind, h2, Result.andThen_ok, Sem.run_pure]
theorem OpW.insert {t kt et : TypeId} {x y z : Operand} {b : Nat} {o : Obj} {kvs : List (κ × Value)} {k : κ} {v : Value} (hk : KeyK P kt enc) (hS : St w0 X L w) (hx : evO env x = some (.map (some b))) (hy : evO env y = some (enc k)) (hz : evO env z = some v) (hu : P.underlying t = some (.map kt et)) (ho : IsMp enc o kvs) (L' : Obj → List (Nat × Obj)) (hm : ∀ o', Repl L b o o' (L' o'))
    (h : ∀ o' w', IsMp enc o' (kput kvs k v) → St w0 X (L' o') w' → K env w') : OpW P N ⟨none, .insert t x y z, ty, pos, af, g⟩ env w K := by
  obtain ⟨o', h1, h2⟩ := run_updK (w := w) (k := k) (v := v) hk hu ho (hS.own _ (hm o).memL)
  refine OpW.base0 (w' := { w with heap := w.heap.setIfInBounds b o' }) (fun a ha => ?_) (h o' _ h1 (hS.setHeap (hm o')))
  simp only [execOp, ha.ev hx, ha.ev hy, ha.ev hz, Sem.run_bind, h2, Result.andThen_ok, Sem.run_pure]
end
end
/-! ### Is it nil? -/
theorem RunV.cast {P : Program} {N : Nat} {env : Env} {w : World} {o : Oper} {v v' : Value} (h : RunV P N env w o v) (e : v = v') : RunV P N env w o v' := e ▸ h
section
variable {P : Program} {N : Nat} {env : Env} {w : World} {dd : Option Nat} {ty : TypeId} {pos : String} {af : Array Edge} {g : Option (Nat × Bool)} {t t2 : TypeId} {x y : Operand}
theorem run_eqMapNil {m : Option Nat} {a b : TypeId} (hu : P.underlying t = some (.map a b)) : (Op.equal t (.map m) (.map none)).run P w = .ok m.isNone w := by
  unfold Op.equal Op.maxDepth
  unfold Op.equalIn
  simp only [Sem.run_bind, run_underlying hu w, Result.andThen_ok]
  cases m <;> rfl
theorem run_eqPtrNil {m : Option Addr} {a : TypeId} (hu : P.underlying t = some (.pointer a)) : (Op.equal t (.pointer m) (.pointer none)).run P w = .ok m.isNone w := by
  unfold Op.equal Op.maxDepth
  unfold Op.equalIn
  simp only [Sem.run_bind, run_underlying hu w, Result.andThen_ok]
  cases m <;> rfl
theorem run_guardMap {op : BinOp} {x y : Operand} {a b : Option Nat} : (eqGuard op t x y (.map a) (.map b)).run P w = .ok () w := by unfold eqGuard; split <;> rfl
theorem run_guardPtr {op : BinOp} {x y : Operand} {a b : Option Addr} : (eqGuard op t x y (.pointer a) (.pointer b)).run P w = .ok () w := by unfold eqGuard; split <;> rfl
theorem RunV.eqlMapNil {m : Option Nat} {a b : TypeId} (hx : evO env x = some (.map m)) (hy : evO env y = some (.map none)) (hu : P.underlying t = some (.map a b)) : RunV P N env w ⟨dd, .binOp .eql t x y t2, ty, pos, af, g⟩ (.bool m.isNone) :=
  RunV.bin hx hy run_guardMap (by simp only [binOp, Sem.run_bind, run_eqMapNil hu, Result.andThen_ok, Sem.run_pure])
theorem RunV.neqMapNil {m : Option Nat} {a b : TypeId} (hx : evO env x = some (.map m)) (hy : evO env y = some (.map none)) (hu : P.underlying t = some (.map a b)) : RunV P N env w ⟨dd, .binOp .neq t x y t2, ty, pos, af, g⟩ (.bool (!m.isNone)) :=
  RunV.bin hx hy run_guardMap (by simp only [binOp, Sem.run_bind, run_eqMapNil hu, Result.andThen_ok, Sem.run_pure])
theorem RunV.eqlPtrNil {m : Option Addr} {a : TypeId} (hx : evO env x = some (.pointer m)) (hy : evO env y = some (.pointer none)) (hu : P.underlying t = some (.pointer a)) : RunV P N env w ⟨dd, .binOp .eql t x y t2, ty, pos, af, g⟩ (.bool m.isNone) :=
  RunV.bin hx hy run_guardPtr (by simp only [binOp, Sem.run_bind, run_eqPtrNil hu, Result.andThen_ok, Sem.run_pure])
theorem RunV.neqPtrNil {m : Option Addr} {a : TypeId} (hx : evO env x = some (.pointer m)) (hy : evO env y = some (.pointer none)) (hu : P.underlying t = some (.pointer a)) : RunV P N env w ⟨dd, .binOp .neq t x y t2, ty, pos, af, g⟩ (.bool (!m.isNone)) :=
  RunV.bin hx hy run_guardPtr (by simp only [binOp, Sem.run_bind, run_eqPtrNil hu, Result.andThen_ok, Sem.run_pure])
end
end Go.Proofs.Ytdoinfpkfbfjaaa
