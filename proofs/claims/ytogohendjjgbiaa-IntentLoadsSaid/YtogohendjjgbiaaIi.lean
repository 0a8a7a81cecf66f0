/- sort.Slice over own intentions: a permutation, sorted. -/
import Derived.Test.YtogohendjjgbiaaIh
import Derived.Shelf.GgSortFunc.Tiny
import Derived.Test.YtogohendjjgbiaaChecked
set_option linter.unusedSimpArgs false
set_option linter.unusedVariables false
set_option maxRecDepth 100000
set_option maxHeartbeats 4000000
namespace Go.Proofs.Ytogohendjjgbiaa
open Go.RowKit Go.Sort Go.Shelf Go.Lib
theorem swo_lex {α κ : Type} [DecidableEq κ] (k : α → κ) (l1 : κ → κ → Bool) (l2 : α → α → Bool) (h1 : SWO l1) (ht : ∀ a b, l1 a b = false → l1 b a = false → a = b) (h2 : SWO l2) : SWO (fun x y => if k x = k y then l2 x y else l1 (k x) (k y)) := by
  refine ⟨fun x => ?_, fun x y z => ?_, fun x y z => ?_⟩
  · rw [if_pos rfl]; exact h2.irrefl x
  · by_cases e1 : k x = k y
    · by_cases e2 : k y = k z
      · rw [if_pos e1, if_pos e2, if_pos (e1.trans e2)]; exact h2.trans x y z
      · rw [if_pos e1, if_neg e2, if_neg (c := k x = k z) (by rw [e1]; exact e2), e1]; exact fun _ h => h
    · by_cases e2 : k y = k z
      · rw [if_neg e1, if_pos e2, if_neg (c := k x = k z) (by rw [← e2]; exact e1), ← e2]; exact fun h _ => h
      · rw [if_neg e1, if_neg e2]
        intro a b
        have c := h1.trans _ _ _ a b
        by_cases e3 : k x = k z
        · rw [e3, h1.irrefl] at c; cases c
        · rw [if_neg e3]; exact c
  · by_cases e1 : k x = k y
    · by_cases e2 : k y = k z
      · rw [if_pos e1, if_pos e2, if_pos (e1.trans e2)]; exact h2.ntrans x y z
      · rw [if_pos e1, if_neg e2, if_neg (c := k x = k z) (by rw [e1]; exact e2), e1]; exact fun _ h => h
    · by_cases e2 : k y = k z
      · rw [if_neg e1, if_pos e2, if_neg (c := k x = k z) (by rw [← e2]; exact e1), ← e2]; exact fun h _ => h
      · rw [if_neg e1, if_neg e2]
        intro a b
        by_cases e3 : k x = k z
        · exact absurd (ht _ _ a (by rw [e3]; exact b)) e1
        · rw [if_neg e3]; exact h1.ntrans _ _ _ a b
theorem swo_firstI : SWO firstI := by
  have hs : ∀ a b : List UInt8, ltStr a b = false → ltStr b a = false → a = b := fun a b h1 h2 => by
    rcases lt_tri a b with h | h | h
    · simp [ltStr, h] at h1
    · exact h
    · simp [ltStr, h] at h2
  have h0 : SWO (fun x y : Itn => ltStr x.s y.s) := ⟨fun x => swo_ltStr.irrefl _, fun x y z => swo_ltStr.trans _ _ _, fun x y z => swo_ltStr.ntrans _ _ _⟩
  have h1 : SWO (fun a b : Nat => decide (b < a)) := ⟨fun x => by simp, fun x y z => by simp; omega, fun x y z => by simp; omega⟩
  have h2 := swo_lex (fun x : Itn => rankI x) _ _ h1 (fun a b => by simp; omega) (swo_lex (fun x : Itn => x.d) ltStr _ swo_ltStr hs h0)
  exact h2
noncomputable def svT : TypeInfo := (Try.prog.info? 22).get (by kernel_rfl)
noncomputable def svE : TypeInfo := (Try.prog.info? 28).get (by kernel_rfl)
theorem svK (n : Nat) (h2 : 2 ≤ n) : Lib.swapperK n svE 25 = 9 := by
  have a : svE.hasPointers = true := by kernel_rfl
  have b : svE.bytes = 56 := by kernel_rfl
  have c : (n == 0) = false := by simp; omega
  have d : (n == 1) = false := by simp; omega
  simp [Lib.swapperK, a, b, c, d]
theorem svK1 (n : Nat) (h : n ≤ 1) : ∃ f, Try.prog.funcs.findIdx? (·.name == "internal/reflectlite" ++ ".Swapper$" ++ toString (Lib.swapperK n svE 25)) = some f := by
  match n, h with
  | 0, _ => exact ⟨73, by kernel_rfl⟩
  | 1, _ => exact ⟨74, by kernel_rfl⟩
section
variable {bl g n c : Nat}
theorem sw_swap (W : World) (B : List (Nat × Obj)) (d : Array Itn) (i j : Nat) (i' j' : Int) (ei : i' = i) (ej : j' = j) (hi : i < n) (hj : j < n) (hn : d.size = n) (hsl : Rw (.slice (some ⟨g, 0, none⟩) n c) d B) (hown : Own W B) :
    ∃ B2 W2, Rw (.slice (some ⟨g, 0, none⟩) n c) (swp d i j) B2 ∧ (callFunc 81 ([] ++ [Value.int .i64 i', Value.int .i64 j'] ++ [Value.slice (some ⟨g, 0, none⟩) n c, typeHandle Try.prog 28]).toArray).run Try.prog W = .ok (.value (.tuple #[])) W2 ∧ St W (B.map Prod.fst) B2 W2 := by
  subst ei ej
  have hS := St.init hown
  have hd : ∀ k : Nat, k < d.size → (d.toList.map ic)[k]? = some (ic d[k]!) := fun k hk => by
    rw [List.getElem?_map, Array.getElem?_toList, getElem!_pos d _ hk, Array.getElem?_eq_getElem hk]; rfl
  have hB : blk B = g := by
    unfold Rw at hsl
    generalize hv : Value.slice (some ⟨g, 0, none⟩) n c = v at hsl
    generalize d.toList.map ic = rows at hsl
    cases hsl with
    | nil => cases hv
    | own => cases hv; rfl
  have hrd := hsl.rdOf hown.1
  rw [hB] at hrd
  have hfr : ∀ k, W.frozen? ⟨g, k, none⟩ = false := fun k => by
    unfold Rw at hsl
    generalize hv : Value.slice (some ⟨g, 0, none⟩) n c = v at hsl
    generalize d.toList.map ic = rows at hsl
    cases hsl with
    | nil => cases hv
    | @own g0 cap cur rows q1 q2 q3 q4 q5 =>
      cases hv
      have := hown.1 _ List.mem_cons_self
      simp [World.frozen?, this]
  have hle : ∀ x : Itn, (ic x).length = svE.size := fun x => by kernel_rfl
  have hs1 : svE.size = 5 := by kernel_rfl
  have h1 : ∀ (x : Itn), ∀ v ∈ ic x, v.oneCell' = true := fun x v hv => by simp [ic] at hv; rcases hv with rfl | rfl | rfl | rfl | rfl <;> rfl
  have hrun := run_swap_cells (P := Try.prog) false 28 svE (by kernel_rfl) (fun _ => by kernel_rfl) g 0 n c i j hi hj (ic d[i]!) (ic d[j]!) (hle _) (hle _) (h1 _) (h1 _) W
    (fun k v hk => by have := (hrd i _ (hd i (by omega))).2 k v hk; rw [hs1]; rw [Nat.zero_add] at this ⊢; exact this) (fun k v hk => by have := (hrd j _ (hd j (by omega))).2 k v hk; rw [hs1]; rw [Nat.zero_add] at this ⊢; exact this) (fun k _ => hfr _) (fun k _ => hfr _)
  rw [hs1, Nat.zero_add, Nat.zero_add] at hrun
  obtain ⟨B', eB, hsl', hS'⟩ := hsl.swapC (L := []) (by rw [List.append_nil]; exact hS) (hd i (by omega)) (hd j (by omega)) rfl rfl
  rw [hB, List.append_nil] at hS'
  refine ⟨B', _, ?_, ?_, hS'⟩
  · unfold Rw
    have e : (swp d i j).toList.map ic = ((d.toList.map ic).set i (ic d[j]!)).set j (ic d[i]!) := by
      rw [swp, Array.toList_setIfInBounds, Array.toList_setIfInBounds, List.map_set, List.map_set]
    rw [e]
    exact hsl'
  · rw [run_callFunc_extern Try.func81 (by kernel_rfl) (by kernel_rfl) (by kernel_rfl) (e := Extern.ReflectliteSwapper.swap false) (by kernel_rfl)]
    have : ([] ++ [Value.int .i64 (i : Int), Value.int .i64 (j : Int)] ++ [Value.slice (some ⟨g, 0, none⟩) n c, typeHandle Try.prog 28]).toArray = #[.int .i64 i, .int .i64 j, .slice (some ⟨g, 0, none⟩) n c, typeHandle Try.prog 28] := rfl
    rw [this, hrun]
    rfl
theorem sw_itn (hl : n ≤ 1000) : SW 45 81 [.pointer (some ⟨bl, 0, none⟩)] [.slice (some ⟨g, 0, none⟩) n c, typeHandle Try.prog 28] bl (.slice (some ⟨g, 0, none⟩) n c) n := by
  refine ⟨rfl, fun W B d i j i' j' ei ej hi hj hn hsl hown => ?_, fun W B d i j i' j' ei ej hi hj hn hsl hown => sw_swap W B d i j i' j' ei ej hi hj hn hsl hown⟩
  subst ei ej
  have hd : ∀ k : Nat, k < d.size → d.toList[k]? = some d[k]! := fun k hk => by
    rw [Array.getElem?_toList, getElem!_pos d _ hk, Array.getElem?_eq_getElem hk]
  exact less_any (xs := d.toList) hsl (by rw [Array.length_toList]; omega) (hd i (by omega)) (hd j (by omega)) hown
theorem sort_itn {v : Value} {B : List (Nat × Obj)} {w : World} {ds : List Itn} (hsl : Sl 28 5 v (ds.map ic) B) (hown : Own w ((bl, C 22 [v]) :: B)) (hl : ds.length ≤ 1000) :
    Ret Try.prog 44 #[.iface 22 v, .func (.func 45) #[] #[.pointer (some ⟨bl, 0, none⟩)]] w fun u w' => u = .tuple #[] ∧ ∃ (ds' : List Itn) (B' : List (Nat × Obj)), ds'.Perm ds ∧ ds'.Pairwise (fun a b => firstI b a = false) ∧ Sl 28 5 v (ds'.map ic) B' ∧ St w (((bl, C 22 [v]) :: B).map Prod.fst) ((bl, C 22 [v]) :: B') w' := by
  by_cases h2 : 2 ≤ ds.length
  · obtain ⟨g, c, rfl⟩ : ∃ g c, v = .slice (some ⟨g, 0, none⟩) ds.length c := by
      generalize hrows : ds.map ic = rows at hsl
      cases hsl with
      | nil =>
        obtain rfl : ds = [] := by simpa using hrows
        simp at h2
      | @own g cap cur rows q1 q2 q3 q4 q5 =>
        subst hrows
        rw [List.length_map]
        exact ⟨_, _, rfl⟩
    have hS := St.init hown
    generalize hX : ((bl, C 22 [.slice (some ⟨g, 0, none⟩) ds.length c]) :: B).map Prod.fst = X at hS ⊢
    have hlim := Lib.bitLen_le ds.length 10 (by decide) (by omega)
    refine (Any.sort_Slice_of_pdq sl6 22 28 svT svE (by kernel_rfl) (by kernel_rfl) (by kernel_rfl) (by kernel_rfl) 25 (fun _ => by kernel_rfl) (some ⟨g, 0, none⟩) ds.length c (by omega) 81 (by rw [svK _ h2]; kernel_rfl) (.func 45) #[] #[.pointer (some ⟨bl, 0, none⟩)] w
      (fun w' => ∃ (ds' : List Itn) (B' : List (Nat × Obj)), ds'.Perm ds ∧ ds'.Pairwise (fun a b => firstI b a = false) ∧ Sl 28 5 (.slice (some ⟨g, 0, none⟩) ds.length c) (ds'.map ic) B' ∧ St w X ((bl, C 22 [.slice (some ⟨g, 0, none⟩) ds.length c]) :: B') w') ?_ : Calls Try.prog 44 _ w _).mono (fun e w' ⟨h, h'⟩ => ⟨_, h, rfl, h'⟩)
    have hSw := (hS.alloc (.cells #[.slice (some ⟨g, 0, none⟩) ds.length c] 22)).alloc (.cells #[.pointer (some ⟨Try.prog.globals.size, 22, none⟩), .pointer (some ⟨w.heap.size, 0, none⟩), .int .u64 151] (sl6_ren.t 35))
    have hBd : sliceBound Try.prog 28 svE 25 (some ⟨g, 0, none⟩) ds.length c = #[.slice (some ⟨g, 0, none⟩) ds.length c, typeHandle Try.prog 28] := by
      unfold sliceBound; rw [if_neg (by rw [svK _ h2]; decide)]
    rw [hBd]
    refine Calls.mono (pdq_any (v := .slice (some ⟨g, 0, none⟩) ds.length c) (n := ds.length) swo_firstI (sw_itn hl) hl ds.length 0 ds.length (Lib.bitLen ds.length) ds.toArray B _ (by omega) (by omega) (Nat.le_refl _) (by omega) (by simp) (.inl rfl) hsl ((hSw.sub (L' := (bl, C 22 [.slice (some ⟨g, 0, none⟩) ds.length c]) :: B) (by exact ((List.sublist_cons_self _ _).trans (List.sublist_cons_self _ _)))).toOwn)) ?_
    rintro e' w' ⟨u, rfl, rfl, d', B', hp, hs, hsl', hS'⟩
    have hz : d'.size = ds.length := by have := hp.1; simpa using this
    refine ⟨rfl, d'.toList, B', ?_, ?_, hsl', ?_⟩
    · obtain ⟨h1, _, h3⟩ := hp
      have e1 : d'.extract 0 ds.length = d' := by rw [← hz]; simp
      have e2 : ds.toArray.extract 0 ds.length = ds.toArray := by
        have := @Array.extract_size _ ds.toArray
        rwa [List.size_toArray] at this
      rw [e1, e2] at h3
      simpa using h3
    · rw [List.pairwise_iff_getElem]
      intro i j hi hj hij
      rw [Array.length_toList] at hi hj
      have := hs i j (Nat.zero_le _) hij (by omega)
      rw [getElem!_pos d' i hi, getElem!_pos d' j hj] at this
      simpa using this
    · have hc := (hSw.perm (L' := ((bl, C 22 [.slice (some ⟨g, 0, none⟩) ds.length c]) :: B) ++ [_, _]) (List.perm_append_comm (l₁ := [_, _]))).call hS'
      exact hc.sub (List.sublist_append_left _ _)
  · obtain ⟨p, n, c, rfl, hn⟩ : ∃ p n c, v = .slice p n c ∧ n = ds.length := by
      generalize hrows : ds.map ic = rows at hsl
      cases hsl with
      | nil => exact ⟨_, _, _, rfl, by have : ds = [] := by simpa using hrows
                                       subst this; rfl⟩
      | @own g cap cur rows q1 q2 q3 q4 q5 => exact ⟨_, _, _, rfl, by rw [← hrows, List.length_map]⟩
    obtain ⟨f1, hf1⟩ := svK1 n (by omega)
    refine Calls.mono (Any.sort_Slice_tiny sl6 22 28 svT svE (by kernel_rfl) (by kernel_rfl) (by kernel_rfl) (by kernel_rfl) 25 (fun _ => by kernel_rfl) p n c (by omega) f1 hf1 (.func 45) #[] #[.pointer (some ⟨bl, 0, none⟩)] w : Calls Try.prog 44 _ w _) ?_
    rintro e' w' ⟨rfl, os, rfl⟩
    refine ⟨_, rfl, rfl, ds, B, List.Perm.refl _, ?_, hsl, ?_⟩
    · match ds, h2 with
      | [], _ => exact List.Pairwise.nil
      | [x], _ => exact List.pairwise_singleton _ _
      | _ :: _ :: _, h2 => simp at h2
    · have hS := St.init hown
      exact ⟨rfl, rfl, rfl, by simp, fun b hb _ => heap_grow_old _ _ hb, fun c hc => by rw [heap_grow_old _ _ (Array.getElem?_eq_some_iff.1 (hown.1 c hc)).1]; exact hown.1 c hc, hown.2, fun c hc => .inl (List.mem_map_of_mem hc)⟩
end
end Go.Proofs.Ytogohendjjgbiaa
