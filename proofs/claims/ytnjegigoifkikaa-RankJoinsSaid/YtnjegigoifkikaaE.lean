/- Contracts of chapter 08's joins: both joins of two lists come to one list. -/
import Derived.Test.YtnjegigoifkikaaD
set_option linter.unusedSimpArgs false
set_option linter.unusedVariables false
set_option maxRecDepth 100000
set_option maxHeartbeats 1000000
namespace Go.Proofs.Ytnjegigoifkikaa
open Go.RowKit
def emp : List (Option Upd) := [none, none, none, none, none, none, none, none]
def tabOf (ys zs : List Upd) : List (Option Upd) := zs.foldl put (ys.foldl put emp)
/-- The table of two lists: of each node what counts, in the nodes' order. -/
def jn (ys zs : List Upd) : List Upd := (tabOf ys zs).filterMap id
theorem foldl_put_len (ys : List Upd) : ∀ tab : List (Option Upd), (ys.foldl put tab).length = tab.length := by
  induction ys with
  | nil => intro tab; rfl
  | cons y ys ih => intro tab; rw [List.foldl_cons, ih, put_len]
theorem foldl_put_wf (ys : List Upd) : ∀ tab : List (Option Upd), Wf tab → Wf (ys.foldl put tab) := by
  induction ys with
  | nil => intro tab h; exact h
  | cons y ys ih => intro tab h; exact ih _ (put_wf h)
theorem wf_emp : Wf emp := by
  intro k x hk
  have : k < 8 ∨ 8 ≤ k := by omega
  rcases this with h | h
  · match k, h with
    | 0, _ | 1, _ | 2, _ | 3, _ | 4, _ | 5, _ | 6, _ | 7, _ => simp [emp] at hk
  · rw [List.getElem?_eq_none (by simpa [emp] using h)] at hk
    cases hk
theorem tabOf_len (ys zs : List Upd) : (tabOf ys zs).length = 8 := by unfold tabOf; rw [foldl_put_len, foldl_put_len]; rfl
theorem take_next {tab : List (Option Upd)} {i : Nat} {x : Option Upd} (h : tab[i]? = some x) : (tab.take (i + 1)).filterMap id = (tab.take i).filterMap id ++ x.toList := by
  rw [List.take_add_one, List.filterMap_append, h]
  cases x <;> rfl
theorem join_any (v1 v2 : Value) (ys zs : List Upd) (w : World) (hr1 : RdRow w v1 3 (ys.map ud)) (hr2 : RdRow w v2 3 (zs.map ud)) :
    Ret Try.prog 20 #[v1, v2] w fun v' w' => ∃ B, Sl 24 3 v' ((jn ys zs).map ud) B ∧ St w [] B w' := by
  have hS := St.init0 w
  obtain ⟨b1, o1, c1, hv1, hmax1, hc1, hlt1⟩ := hr1.open
  obtain ⟨b2, o2, c2, hv2, hmax2, hc2, hlt2⟩ := hr2.open
  simp only [List.length_map] at hv1 hmax1 hlt1 hv2 hmax2 hlt2
  refine Ret.enter Try.func20 Try.ntmps20 rfl rfl ?_
  simp only [argEnv, Nat.reduceAdd]
  refine SatC.seq ?_
  refine SatC.region ?_
  refine SatL.pu (RunV.assign rfl) rfl ?_
  refine SatL.nil (SatE.thenC ?_)
  refine SatC.seq ?_
  refine SatC.region ?_
  refine SatL.pu (RunV.build rfl (by simp [go_sem]; try rfl)) rfl ?_
  refine SatL.op rfl (OpW.alloc hS rfl rfl (by repeat constructor) ?_)
  clear hS
  intro b5 w1 _ hS
  refine SatL.op rfl (OpW.store hS rfl rfl (by repeat constructor) (by repeat constructor) (by repeat constructor) rfl rfl ?_)
  clear hS
  intro w2 hS
  refine SatL.nil (SatE.thenC ?_)
  refine SatC.seq ?_
  refine SatC.region ?_
  refine SatL.pu (RunV.move rfl) rfl ?_
  refine SatL.op rfl (OpW.enter rfl rfl rfl rfl (take_any _ b1 o1 c1 _ ys emp _ (hS.ownOf .one) rfl wf_emp hv1 (hc1.st hS List.not_mem_nil) (fun hp e => by have := hlt1 hp; have := hS.wr _ List.mem_cons_self; simp at this; omega) hmax1) ?_)
  rintro r3 w3 ⟨rfl, h⟩
  replace hS := hS.call1 .one h
  refine SatL.nil (SatE.thenC ?_)
  refine SatC.seq ?_
  refine SatC.region ?_
  refine SatL.pu (RunV.move rfl) rfl ?_
  refine SatL.op rfl (OpW.enter rfl rfl rfl rfl (take_any _ b2 o2 c2 _ zs (ys.foldl put emp) _ (hS.ownOf .one) (by rw [foldl_put_len]; rfl) (foldl_put_wf _ _ wf_emp) hv2 (hc2.st hS List.not_mem_nil) (fun hp e => by have := hlt2 hp; have := hS.wr _ List.mem_cons_self; simp at this; omega) hmax2) ?_)
  rintro r4 w4 ⟨rfl, h⟩
  replace hS := hS.call1 .one h
  refine SatL.nil (SatE.thenC ?_)
  refine SatC.seq ?_
  refine SatC.region ?_
  refine SatL.pu (RunV.assign rfl) rfl ?_
  refine SatL.nil (SatE.thenC ?_)
  refine SatC.seq ?_
  refine SatC.seq ?_
  refine SatC.region ?_
  first | refine SatL.pu (RunV.fieldAddrL rfl rfl rfl) rfl ?_ | refine SatL.pu (RunV.fieldAddr rfl rfl rfl) rfl ?_
  refine SatL.pu (RunV.loadPre (pre := tcells (tabOf ys zs)) hS rfl rfl (by repeat constructor) (by unfold tcells; rw [flat_len (encO_len _), List.length_map, tabOf_len])) rfl ?_
  refine SatL.pu (RunV.move rfl) rfl ?_
  refine SatL.nil (SatE.thenC ?_)
  refine SatC.block ?_
  refine SatC.loopK (G := Nat × Value × List (Nat × Obj)) (V := fun ⟨i, v, B⟩ => [(16, .int .i64 (i : Int)), (6, v)]) (Cn := [(4, _), (15, _)]) (I := fun ⟨i, v, B⟩ w' => i ≤ 8 ∧ Sl 24 3 v ((((tabOf ys zs).take i).filterMap id).map ud) B ∧ St w [] (B ++ [(b5, C 49 (tcells (tabOf ys zs) ++ [.func (.func 11) #[] #[]]))]) w') (μ := fun ⟨i, v, B⟩ => 8 - i) (0, .slice none 0 0, []) ?_ (by repeat constructor) ?_
  · exact ⟨Nat.zero_le _, .nil, hS⟩
  clear hS
  rintro ⟨i, v, B⟩ w5 ⟨hi, hsl, hS⟩
  refine SatC.weak (e' := [(4, _), (6, _), (15, _), (16, _)]) (by repeat constructor) ?_
  refine SatC.seq ?_
  refine SatC.region ?_
  refine SatL.pu (RunV.lss rfl rfl) rfl ?_
  refine SatL.nil (SatE.thenC ?_)
  refine SatC.seq ?_
  refine SatC.cond rfl (fun h1 => ?_) (fun h1 => ?_)
  · (try simp only [cx, ne_eq] at h1)
    try (exfalso; first | omega | exact h1 trivial)
    all_goals
    refine SatC.skip (SatE.thenC ?_)
    refine SatC.seq ?_
    refine SatC.block ?_
    refine SatC.seq ?_
    obtain ⟨x, hx⟩ := get_some (tabOf ys zs) i (by have := tabOf_len ys zs; omega)
    have hnx := take_next hx
    have hln : (((tabOf ys zs).take i).filterMap id).length ≤ 8 := Nat.le_trans (List.length_filterMap_le ..) (by rw [List.length_take]; omega)
    refine SatC.region ?_
    refine SatL.pu (RunV.indexVRow (rows := (tabOf ys zs).map encO) rfl rfl rfl rfl (encO_len _) (by omega) (by omega) (map_get (by assumption))) rfl ?_
    refine SatL.op rfl (OpW.alloc hS rfl rfl (by repeat constructor) ?_)
    clear hS
    intro b8 w6 _ hS
    refine SatL.op rfl (OpW.store hS rfl rfl (by repeat constructor) (by repeat constructor) (by repeat constructor) rfl rfl ?_)
    clear hS
    intro w7 hS
    refine SatL.nil (SatE.thenC ?_)
    refine SatC.seq ?_
    refine SatC.region ?_
    first | refine SatL.pu (RunV.fieldAddrL rfl rfl rfl) rfl ?_ | refine SatL.pu (RunV.fieldAddr rfl rfl rfl) rfl ?_
    refine SatL.pu (RunV.load1 hS rfl rfl (by repeat constructor) rfl) rfl ?_
    refine SatL.nil (SatE.thenC ?_)
    refine SatC.cond rfl (fun h2 => ?_) (fun h2 => ?_)
    · (try simp only [cx, ne_eq] at h2)
      try (exfalso; first | omega | exact h2 trivial)
      all_goals
      refine SatC.region ?_
      refine SatL.pu (RunV.move rfl) rfl ?_
      first | refine SatL.pu (RunV.fieldAddrL rfl rfl rfl) rfl ?_ | refine SatL.pu (RunV.fieldAddr rfl rfl rfl) rfl ?_
      refine SatL.pu (RunV.loadN hS rfl rfl (by repeat constructor) (by repeat constructor)) rfl ?_
      refine SatL.op rfl (OpW.buildSlice1 hS rfl rfl rfl rfl rfl (by repeat constructor) rfl rfl rfl ?_)
      clear hS
      intro b24 w8 _ hS
      refine SatL.op rfl (OpW.append1 (by assumption) hS (by repeat constructor) rfl rfl (by repeat constructor) rfl rfl rfl rfl rfl rfl rfl rfl (by first | omega | (simp only [List.length_map]; omega)) rfl ?_)
      clear hS
      intro v25 B25 w9 hsl25 hS
      refine SatL.pu (RunV.assign rfl) rfl ?_
      refine SatL.nil (SatE.blk_normal (SatE.thenC ?_))
      refine SatC.region ?_
      refine SatL.pu (RunV.add rfl rfl (by first | exact wrapI64 (by omega) | rfl)) rfl ?_
      refine SatL.pu (RunV.move rfl) rfl ?_
      refine SatL.nil ?_
      refine SatE.again ((i + 1, v25, B25)) ?_ (by first | omega | (dsimp only; omega)) (by repeat constructor)
      refine ⟨by omega, ?_, hS.sb (by repeat constructor)⟩
      obtain ⟨u, rfl⟩ := Option.isSome_iff_exists.1 h2
      rw [hnx, List.map_append]
      exact hsl25
    · (try simp only [cx, ne_eq] at h2)
      try (exfalso; first | omega | exact h2 trivial)
      all_goals
      refine SatC.skip (SatE.blk_normal (SatE.thenC ?_))
      refine SatC.region ?_
      refine SatL.pu (RunV.add rfl rfl (by first | exact wrapI64 (by omega) | rfl)) rfl ?_
      refine SatL.pu (RunV.move rfl) rfl ?_
      refine SatL.nil ?_
      refine SatE.again ((i + 1, v, B)) ?_ (by first | omega | (dsimp only; omega)) (by repeat constructor)
      refine ⟨by omega, ?_, hS.sb (by repeat constructor)⟩
      obtain rfl : x = none := by cases x with
        | none => rfl
        | some u => cases h2
      rw [hnx, Option.toList_none, List.append_nil]
      exact hsl
  · (try simp only [cx, ne_eq] at h1)
    try (exfalso; first | omega | exact h1 trivial)
    all_goals
    refine SatC.exit (SatE.then_exit (SatE.then_exit (SatE.blk_exit (SatE.thenC ?_))))
    refine SatC.seq ?_
    refine SatC.region ?_
    refine SatL.pu (RunV.move rfl) rfl ?_
    refine SatL.pu (RunV.assign rfl) rfl ?_
    refine SatL.nil (SatE.thenC ?_)
    refine SatC.ret ?_
    refine SatE.ret1 rfl rfl ?_
    obtain rfl : i = 8 := by omega
    rw [List.take_of_length_le (by rw [tabOf_len]; omega)] at hsl
    exact ⟨B, hsl, hS.sb (by repeat constructor)⟩
end Go.Proofs.Ytnjegigoifkikaa
