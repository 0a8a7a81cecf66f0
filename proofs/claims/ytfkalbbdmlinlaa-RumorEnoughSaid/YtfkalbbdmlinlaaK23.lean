/- sort.Slice at rows of one's own: a permutation, sorted by the closure's order. Over any program that lays the library's sort. -/
import Derived.Test.YtfkalbbdmlinlaaK13
import Derived.Shelf.SlSortFuncK.WholeK
import Derived.Shelf.GgSortFunc.Tiny
set_option linter.unusedSimpArgs false
set_option linter.unusedVariables false
set_option maxHeartbeats 1000000
namespace Go.Proofs.Ytfkalbbdmlinlaa
open Go Go.Proofs Go.Shelf Go.RowKit Go.Lib Go.Sort
section
variable {P : Program} {ρ : Ren} {α : Type} [Inhabited α]
theorem flatK_eq (enc : α → List Value) (k : Nat) (hk : ∀ x, (enc x).length = k) (d : Array α) : (flatK enc k d).toList = (d.toList.map enc).flatten := by
  have hl : ∀ r ∈ d.toList.map enc, r.length = k := by
    intro r hr
    obtain ⟨x, _, rfl⟩ := List.mem_map.1 hr
    exact hk x
  have hfl := flat_len hl
  rw [List.length_map, show d.toList.length = d.size from Array.length_toList] at hfl
  apply List.ext_getElem?
  intro t
  by_cases ht : t < d.size * k
  · have k0 : 0 < k := by
      rcases Nat.eq_zero_or_pos k with h | h
      · subst h; simp at ht
      · exact h
    have hq : t / k < d.size := Nat.div_lt_of_lt_mul (by rwa [Nat.mul_comm] at ht)
    have hr : t % k < k := Nat.mod_lt _ k0
    have e1 : (d.toList.map enc)[t / k]? = some (enc d[t / k]!) := by
      rw [List.getElem?_map, Array.getElem?_toList, getElem!_pos d _ hq, Array.getElem?_eq_getElem hq]; rfl
    have e2 : (enc d[t / k]!)[t % k]? = some ((enc d[t / k]!)[t % k]!) := by
      rw [getElem!_pos (enc d[t / k]!) (t % k) (by rw [hk]; exact hr), List.getElem?_eq_getElem (by rw [hk]; exact hr)]
    have := flat_at hl e1 e2
    rw [show t / k * k + t % k = t from by rw [Nat.mul_comm]; exact Nat.div_add_mod t k] at this
    rw [this, Array.getElem?_toList, Array.getElem?_eq_getElem (by rw [size_flatK]; exact ht), ← getElem!_pos (flatK enc k d) t (by rw [size_flatK]; exact ht), get_flatK _ _ _ _ ht]
  · rw [List.getElem?_eq_none (by rw [Array.length_toList, size_flatK]; omega), List.getElem?_eq_none (by rw [hfl]; omega)]
theorem put_take (cur : Array Value) (F : Array Value) (h : F.size ≤ cur.size) : (putCells id 0 F cur).toList.take F.size = F.toList := by
  apply List.ext_getElem?
  intro j
  by_cases hj : j < F.size
  · rw [List.getElem?_take_of_lt hj, Array.getElem?_toList, Array.getElem?_toList]
    simp [putCells, hj, show j < cur.size by omega]
  · rw [List.getElem?_take_eq_none (by omega), List.getElem?_eq_none (by simp; omega)]
theorem heap_putK {w : World} {g n : Nat} {os : Array Obj} {cur : Array Value} {e : TypeId} {fr : Nat × Nat} (enc : α → List Value) (k : Nat) (d : Array α) (hb : w.heap[g]? = some (.cells cur e fr)) :
    (grow (putRowK enc k (Sort.ahead w n) g 0 d) os).heap[g]? = some (.cells (putCells id 0 (flatK enc k d) cur) e fr) := by
  have hg : g < w.heap.size := (Array.getElem?_eq_some_iff.1 hb).1
  rw [heap_grow_old _ _ (by simpa [putRowK] using hg)]
  simp [putRowK, putRow, mapBlock, Sort.ahead, Array.getElem?_modify, hb, onCells]
theorem heap_putK_ne {w : World} {g n b : Nat} {os : Array Obj} (enc : α → List Value) (k : Nat) (d : Array α) (hb : b < w.heap.size) (hne : g ≠ b) :
    (grow (putRowK enc k (Sort.ahead w n) g 0 d) os).heap[b]? = w.heap[b]? := by
  rw [heap_grow_old _ _ (by simpa [putRowK] using hb)]
  simp [putRowK, putRow, mapBlock, Sort.ahead, Array.getElem?_modify, hne]
theorem holdsK_block {w : World} {g : Nat} {cur : Array Value} {e : TypeId} {enc : α → List Value} {k : Nat} {ds : List α} (hk : ∀ x, (enc x).length = k) (hb : w.heap[g]? = some (.cells cur e (0, 0))) (ht : cur.toList.take (ds.length * k) = (ds.map enc).flatten) :
    HoldsK enc k w g 0 ds.toArray := by
  intro j hj
  rw [size_flatK] at hj
  have hj' : j < ds.length * k := by simpa using hj
  refine ⟨?_, by simp [World.frozen?, hb]⟩
  have h1 : (cur.toList.take (ds.length * k))[j]? = (flatK enc k ds.toArray).toList[j]? := by rw [ht, flatK_eq enc k hk]
  rw [List.getElem?_take_of_lt hj', Array.getElem?_toList, Array.getElem?_toList, Array.getElem?_eq_getElem (xs := flatK enc k ds.toArray) (by rw [size_flatK]; exact hj), ← getElem!_pos (flatK enc k ds.toArray) j (by rw [size_flatK]; exact hj)] at h1
  simp only [World.cell?, hb, Nat.zero_add]
  simp only [Option.isSome_none, Bool.false_eq_true, if_false]
  exact h1
theorem perm_of_permIn {d : List α} {d' : Array α} (h : PermIn 0 d.length d.toArray d') : d'.toList.Perm d := by
  obtain ⟨h1, _, h3⟩ := h
  simp only [List.size_toArray] at h1
  have e1 : d'.extract 0 d.length = d' := by rw [← h1]; simp
  have e2 : d.toArray.extract 0 d.length = d.toArray := by rw [← List.size_toArray]; simp
  rw [e1, e2] at h3
  simpa using h3
theorem pair_of_sortedIn {lt : α → α → Bool} {d' : Array α} {n : Nat} (hn : d'.size = n) (h : SortedIn lt 0 n d') : d'.toList.Pairwise (fun a b => lt b a = false) := by
  rw [List.pairwise_iff_getElem]
  intro i j hi hj hij
  rw [Array.length_toList] at hi hj
  have := h i j (Nat.zero_le _) hij (by omega)
  rw [getElem!_pos d' i hi, getElem!_pos d' j hj] at this
  simpa using this
theorem sortSlice_own (L : LaysGg.n6 P ρ) (t e : TypeId) (i ie : TypeInfo) (hi : P.info? t = some i) (hd : i.desc = .slice e) (hpk : P.packed t = false) (hie : P.info? e = some ie) (ke : Nat) (hke : ∀ w, (Extern.Rtype.kind e).run P w = .ok ke w)
    (enc : α → List Value) (k : Nat) (hk : ∀ x, (enc x).length = k) (hs1 : ie.size = k) (hagg : ∀ w, (isAgg e).run P w = .ok true w) (h1 : ∀ x, ∀ v ∈ enc x, v.oneCell' = true) (lt : α → α → Bool) (hO : SWO lt) (g0 : Nat) (lb : Array Value)
    (eg : ∀ args w, (callFunc g0 args).run P w = .ok (.enter g0 args) w) (f : Nat) (hf : ∀ n, 2 ≤ n → P.funcs.findIdx? (·.name == "internal/reflectlite" ++ ".Swapper$" ++ toString (swapperK n ie ke)) = some f)
    (hf0 : ∀ n, n ≤ 1 → ∃ f, P.funcs.findIdx? (·.name == "internal/reflectlite" ++ ".Swapper$" ++ toString (swapperK n ie ke)) = some f)
    (gS : Bool) (hx : ∀ args W, (callFunc f args).run P W = ((Extern.ReflectliteSwapper.swap gS args).run P W).andThen fun v w' => .ok (.value v) w')
    {T : TypeId} {v : Value} {A B : List (Nat × Obj)} {w : World} {ds : List α} (hsl : Sl T k v (ds.map enc) B) (hown : Own w (A ++ B)) (hl : ds.length ≤ 1000000)
    (hless : ∀ g cap, v = .slice (some ⟨g, 0, none⟩) ds.length cap → ∀ (W : World) (dk : Array α), dk.size = ds.length → (∀ c ∈ A, W.heap[c.1]? = some c.2) → (∀ t c, t < dk.size → c < k → W.cell? ⟨g, t * k + c, none⟩ = some (enc dk[t]!)[c]!) →
      ∀ i j : Nat, i < ds.length → j < ds.length → Calls P g0 (#[.int .i64 i, .int .i64 j] ++ lb) W fun e w' => e = .returned (.bool (lt dk[i]! dk[j]!)) ∧ ∃ q, w' = W.drewN q) :
    Ret P (ρ.f 6) #[.iface t v, .func (.func g0) #[] lb] w fun u w' => u = .tuple #[] ∧ ∃ (ds' : List α) (B' : List (Nat × Obj)), ds'.Perm ds ∧ ds'.Pairwise (fun a b => lt b a = false) ∧ Sl T k v (ds'.map enc) B' ∧ St w (B.map Prod.fst) B' w' := by
  have hown2 : Own w B := ⟨fun c hc => hown.1 c (List.mem_append_right _ hc), by have := hown.2; rw [List.map_append] at this; exact (List.nodup_append.1 this).2.1⟩
  by_cases h2 : 2 ≤ ds.length
  · generalize hrows : ds.map enc = rows at hsl
    cases hsl with
    | nil =>
      obtain rfl : ds = [] := by simpa using hrows
      simp at h2
    | @own g cap cur rows q1 q2 q3 q4 q5 =>
      subst hrows
      have hb : w.heap[g]? = some (.cells cur.toArray T (0, 0)) := hown2.1 _ List.mem_cons_self
      have hg : g < w.heap.size := (Array.getElem?_eq_some_iff.1 hb).1
      rw [List.length_map] at q3 q5 ⊢
      have hH : HoldsK enc k w g 0 ds.toArray := holdsK_block hk hb (by simpa using q5)
      have hA : ∀ c ∈ A, c.1 < w.heap.size ∧ g ≠ c.1 := fun c hc => ⟨(Array.getElem?_eq_some_iff.1 (hown.1 c (List.mem_append_left _ hc))).1, fun e => by
        have := hown.2
        rw [List.map_append] at this
        exact (List.nodup_append.1 this).2.2 c.1 (List.mem_map_of_mem hc) c.1 (by rw [← e]; simp) rfl⟩
      have hL : LessReadsK P g0 lb enc k lt g 0 ds.toArray.size w := by
        intro m os dk hs i j hi hj
        simp only [List.size_toArray] at hs hi hj
        refine hless g cap (by rw [List.length_map]) _ dk hs (fun c hc => ?_) (fun t c ht hc => ?_) i j hi hj
        · unfold sortWorldK
          rw [heap_putK_ne enc k dk (hA c hc).1 (hA c hc).2]
          exact hown.1 c (List.mem_append_left _ hc)
        · have e : sortWorldK enc k w g 0 m dk os = putRowK enc k (grow (Sort.ahead w m) os) g 0 dk := by
            unfold sortWorldK; rw [putRowK_grow _ _ (Sort.ahead w m) _ g 0 _ (by simpa using hg)]
          have hHg : HoldsK enc k (grow (Sort.ahead w m) os) g 0 ds.toArray := holdsK_grow _ _ _ _ g 0 _ (by simpa using hg) (holdsK_ahead _ _ _ _ _ _ _ hH)
          have := ((holdsK_putRowK _ _ _ g 0 ds.toArray dk hHg (by simpa using hs)).cell (i := t) (c := c) ht hc).1
          rw [e]
          rwa [Nat.zero_add] at this
      have hc := Any.sort_Slice_cells_sorted L t e i ie hi hd hpk hie ke hke enc k hk hs1 hagg h1 lt hO g0 lb eg g 0 cap ds.toArray (by simpa using h2) (by simp; omega) f (hf _ (by simpa using h2)) gS hx w hL hH hg
      rw [List.size_toArray] at hc
      refine Calls.mono hc ?_
      rintro e' w' ⟨rfl, d', n, os, hp, hs, rfl⟩
      have hd' : d'.size = ds.length := by have := hp.1; simpa using this
      have hper := perm_of_permIn hp
      have hlen := hper.length_eq
      have hts : (putCells id 0 (flatK enc k d') cur.toArray).toList.take (d'.toList.length * k) = (d'.toList.map enc).flatten := by
        rw [← flatK_eq enc k hk, ← put_take cur.toArray (flatK enc k d') (by rw [size_flatK, hd', List.size_toArray, q2]; exact Nat.mul_le_mul_right k q3), size_flatK, Array.length_toList]
      refine ⟨_, rfl, rfl, d'.toList, [(g, C T (putCells id 0 (flatK enc k d') cur.toArray).toList)], hper, pair_of_sortedIn hd' hs, ?_, ?_⟩
      · have := Sl.own (T := T) (k := k) (g := g) (cap := cap) (cur := (putCells id 0 (flatK enc k d') cur.toArray).toList) (rows := d'.toList.map enc) (by intro r hr; obtain ⟨x, _, rfl⟩ := List.mem_map.1 hr; exact hk x)
          (by simp [putCells, q2]) (by rw [List.length_map, hlen]; exact q3) q4 (by rw [List.length_map]; exact hts)
        rwa [List.length_map, hlen] at this
      · refine ⟨rfl, rfl, rfl, by simp [putRowK], fun b hb hx => ?_, ?_, by simp, fun c hc => ?_⟩
        · exact heap_putK_ne enc k d' hb (fun e => hx (by rw [← e]; simp))
        · intro c hc
          rw [List.mem_singleton] at hc
          subst hc
          rw [show C T (putCells id 0 (flatK enc k d') cur.toArray).toList = .cells (putCells id 0 (flatK enc k d') cur.toArray) T (0, 0) by simp [C]]
          exact heap_putK enc k d' hb
        · rw [List.mem_singleton] at hc
          subst hc
          exact .inl (by simp)
  · obtain ⟨p, n, c, rfl, hn⟩ : ∃ p n c, v = .slice p n c ∧ n = ds.length := by
      generalize hrows : ds.map enc = rows at hsl
      cases hsl with
      | nil => exact ⟨_, _, _, rfl, by have : ds = [] := by simpa using hrows
                                       subst this; rfl⟩
      | @own g cap cur rows q1 q2 q3 q4 q5 => exact ⟨_, _, _, rfl, by rw [← hrows, List.length_map]⟩
    obtain ⟨f1, hf1⟩ := hf0 n (by omega)
    refine Calls.mono (Any.sort_Slice_tiny L t e i ie hi hd hpk hie ke hke p n c (by omega) f1 hf1 (.func g0) #[] lb w) ?_
    rintro e' w' ⟨rfl, os, rfl⟩
    refine ⟨_, rfl, rfl, ds, B, List.Perm.refl _, ?_, hsl, ?_⟩
    · match ds, h2 with
      | [], _ => exact List.Pairwise.nil
      | [x], _ => exact List.pairwise_singleton _ _
      | _ :: _ :: _, h2 => simp at h2
    · have hS := St.init hown2
      exact ⟨rfl, rfl, rfl, by simp, fun b hb _ => heap_grow_old _ _ hb, fun c hc => by rw [heap_grow_old _ _ (Array.getElem?_eq_some_iff.1 (hown2.1 c hc)).1]; exact hown2.1 c hc, hown2.2, fun c hc => .inl (List.mem_map_of_mem hc)⟩
end
end Go.Proofs.Ytfkalbbdmlinlaa
