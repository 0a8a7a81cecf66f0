/- A wheel in order, from call to call. -/
import Derived.Test.YtabladeenemfoaaWq
set_option linter.unusedSimpArgs false
set_option linter.unusedVariables false
set_option maxRecDepth 100000
set_option maxHeartbeats 4000000
namespace Go.Proofs.Ytabladeenemfoaa
open Go.RowKit
@[reducible] def prs (W : Wl) : List (Int × Nat) := W.ts.map pr
@[reducible] def hasT (W : Wl) (i : Int) : Prop := (tget W.ts i).isSome = true
theorem has_iff {W : Wl} (h : Inv W) (i : Int) : hasT W i ↔ ∃ d, (i, d) ∈ prs W := by
  constructor
  · intro hi
    obtain ⟨t, ht⟩ := Option.isSome_iff_exists.1 hi
    obtain ⟨hm, rfl⟩ := tget_mem ht
    exact ⟨t.due, List.mem_map_of_mem (f := pr) hm⟩
  · rintro ⟨d, hd⟩
    obtain ⟨t, ht, e⟩ := List.mem_map.1 hd
    simp only [pr, Prod.mk.injEq] at e
    obtain ⟨rfl, rfl⟩ := e
    show (tget W.ts t.id).isSome = true
    rw [tget_of h.nd ht]; rfl
theorem astop_inv {W : Wl} (h : Inv W) (i : Int) : Inv (aStop W i) ∧ (prs (aStop W i)).Perm ((prs W).filter fun p => decide (¬ p.1 = i)) ∧ (aStop W i).now = W.now ∧ W.ts.length = (aStop W i).ts.length + (if hasT W i then 1 else 0) ∧ (tget (aStop W i).ts i).isSome = false := by
  have key : ∀ V : Wl, Inv V → (prs V).Perm ((prs W).filter fun p => decide (¬ p.1 = i)) → (tget V.ts i).isSome = false := fun V hV hp => by
    by_cases hx : (tget V.ts i).isSome = true
    · obtain ⟨d, hd⟩ := (has_iff hV i).1 hx
      have := (List.mem_filter.1 (hp.mem_iff.1 hd)).2
      simp at this
    · simpa using hx
  unfold aStop
  by_cases hi : (tget W.ts i).isSome = true
  · rw [if_pos hi, if_pos hi]
    obtain ⟨h1, h2, h3⟩ := inv_take h hi
    exact ⟨h1, h2, rfl, h3, key _ h1 h2⟩
  · rw [if_neg hi, if_neg hi]
    have hp : (prs W).Perm ((prs W).filter fun p => decide (¬ p.1 = i)) := by
      rw [List.filter_eq_self.2]
      intro p hp
      simp only [decide_not, Bool.not_eq_true', decide_eq_false_iff_not]
      intro e
      exact hi ((has_iff h i).2 ⟨p.2, by rw [← e]; exact hp⟩)
    exact ⟨h, hp, rfl, rfl, key _ h hp⟩
theorem aset_no {W : Wl} {i n : Int} (h : ¬ setOk W i n) : aSet W i n = W := if_neg h
theorem aset_inv {W : Wl} (h : Inv W) {i n : Int} (hok : setOk W i n) : Inv (aSet W i n) ∧ (prs (aSet W i n)).Perm ((i, W.now + n.toNat) :: (prs W).filter fun p => decide (¬ p.1 = i)) ∧ (aSet W i n).now = W.now ∧ (aSet W i n).ts.length = W.ts.length + (if hasT W i then 0 else 1) := by
  obtain ⟨h1, h2, h3, h4, h5⟩ := astop_inv h i
  unfold aSet
  rw [if_pos hok]
  obtain ⟨ha, hb, hc⟩ := hok
  obtain ⟨k1, k2⟩ := inv_hang h1 h5 (due := W.now + n.toNat) (by rw [h3]; omega) (by rw [h3]; omega)
  refine ⟨k1, k2.trans (h2.cons _), h3, ?_⟩
  have := k2.length_eq
  simp only [List.length_map, List.length_cons] at this
  rw [this]
  split at h4
  · rename_i e; rw [if_pos e]; omega
  · rename_i e; rw [if_neg e]; omega
theorem aset_mem {W : Wl} (h : Inv W) {i n : Int} (hok : setOk W i n) (k : Int) (d : Nat) : (k, d) ∈ prs (aSet W i n) ↔ (k = i ∧ d = W.now + n.toNat) ∨ ((k, d) ∈ prs W ∧ k ≠ i) := by
  rw [(aset_inv h hok).2.1.mem_iff, List.mem_cons, List.mem_filter]
  simp
theorem astop_mem {W : Wl} (h : Inv W) (i k : Int) (d : Nat) : (k, d) ∈ prs (aStop W i) ↔ (k, d) ∈ prs W ∧ k ≠ i := by
  rw [(astop_inv h i).2.1.mem_iff, List.mem_filter]
  simp
theorem atick_mem {W : Wl} (h : Inv W) (k : Int) (d : Nat) : (k, d) ∈ prs (aTick W).1 ↔ (k, d) ∈ prs W ∧ d ≠ W.now + 1 := by
  rw [(inv_tick h).2.2.1.mem_iff, List.mem_filter]
  simp
theorem atick_out {W : Wl} (h : Inv W) (k : Int) : k ∈ (aTick W).2 ↔ (k, W.now + 1) ∈ prs W := by
  rw [(inv_tick h).2.2.2]
  unfold srt
  rw [List.mem_mergeSort, List.mem_map]
  constructor
  · rintro ⟨p, hp, rfl⟩
    obtain ⟨h1, h2⟩ := List.mem_filter.1 hp
    rw [← (of_decide_eq_true h2)]
    exact h1
  · intro hk
    exact ⟨_, List.mem_filter.2 ⟨hk, by simp⟩, rfl⟩
theorem atick_len {W : Wl} (h : Inv W) : (aTick W).1.ts.length ≤ W.ts.length ∧ (aTick W).2.length ≤ W.ts.length := by
  obtain ⟨_, _, h2, h3⟩ := inv_tick h
  constructor
  · have := h2.length_eq
    have h4 := List.length_filter_le (fun p : Int × Nat => decide (¬ p.2 = W.now + 1)) (W.ts.map pr)
    rw [List.length_map] at this h4
    omega
  · rw [h3, srt_len, List.length_map]
    have h4 := List.length_filter_le (fun p : Int × Nat => decide (p.2 = W.now + 1)) (W.ts.map pr)
    rw [List.length_map] at h4
    exact h4
def w0 : Wl := ⟨0, [], List.replicate 192 []⟩
theorem inv_new : Inv w0 := by
  refine ⟨rfl, List.length_replicate, by simp [w0], fun l hl => ?_, List.nodup_nil, fun i hi => (by cases hi), fun j k => ?_, fun t ht => (by cases ht), .refl _⟩
  · rw [List.eq_of_mem_replicate hl]; exact List.nodup_nil
  · constructor
    · rintro ⟨l, hl, hk⟩
      rw [List.eq_of_mem_replicate (List.mem_of_getElem? hl)] at hk
      cases hk
    · rintro ⟨t, ht, _⟩
      cases ht
/-- A wheel in memory and in order. -/
structure Wk (b m : Nat) (W : Wl) (L : List (Nat × Obj)) : Prop where
  whl : Whl b m W L
  inv : Inv W
  few : W.ts.length ≤ 64
theorem new_k (w : World) : Ret Try.prog 7 #[] w fun u w' => ∃ b m L, u = .pointer (some ⟨b, 0, none⟩) ∧ Wk b m w0 L ∧ St w [] L w' := by
  refine Calls.mono (wnew_any w) ?_
  rintro e w' ⟨v, rfl, b, m, mo, rfl, hmp, hS⟩
  have hD : hbl (List.replicate 192 zpl) = [] := List.flatMap_eq_nil_iff.2 fun x hx => by rw [List.eq_of_mem_replicate hx]; rfl
  refine ⟨_, rfl, b, m, WO b m mo 0 (List.replicate 192 zpl), rfl, ⟨⟨List.length_replicate, fun l hl => by rw [List.eq_of_mem_replicate hl]; exact Nat.zero_le _, mo, _, hmp, by rw [List.map_replicate]; rfl, fun x hx => ?_, rfl⟩, inv_new, Nat.zero_le _⟩, by unfold WO; rw [hD]; exact hS⟩
  rw [List.eq_of_mem_replicate hx]
  exact .nil
section
variable {b m : Nat} {W : Wl} {L : List (Nat × Obj)} {w : World}
theorem tick_k (hn : W.now ≤ 1000000) (h : Wk b m W L) (hown : Own w L) :
    Ret Try.prog 8 #[.pointer (some ⟨b, 0, none⟩)] w fun u w' => ∃ AB L', Sl 3 1 u ((aTick W).2.map ri) AB ∧ (aTick W).2.length ≤ 64 ∧ Wk b m (aTick W).1 L' ∧ (aTick W).1.now = W.now + 1 ∧ St w (L.map Prod.fst) (AB ++ L') w' := by
  refine Calls.mono (tick_d (M := W.now + 262144) (by omega) (by omega) (inv_due h.inv) (lenb_mono (inv_lenb h.inv) h.few) h.whl hown) ?_
  rintro e w' ⟨v, rfl, W', out, AB, L', he, hl, hsl, hw, hS⟩
  have hi := inv_tick h.inv
  have hlen := atick_len h.inv
  have hfew := h.few
  rw [he] at hi hlen ⊢
  exact ⟨_, rfl, AB, L', hsl, by have := hlen.2; dsimp only at this ⊢; omega, ⟨hw, hi.1, by have := hlen.1; dsimp only at this ⊢; omega⟩, hi.2.1, hS⟩
theorem set_k (id n : Int) (hn : W.now ≤ 1000000) (h : Wk b m W L) (hown : Own w L) :
    Ret Try.prog 9 #[.pointer (some ⟨b, 0, none⟩), .int .i64 id, .int .i64 n] w fun u w' => u = .bool (decide (setOk W id n)) ∧ ∃ L', Wk b m (aSet W id n) L' ∧ (aSet W id n).now = W.now ∧ St w (L.map Prod.fst) L' w' := by
  have hfew := h.few
  refine Calls.mono (set_d id n (by omega) (inv_pl h.inv) (lenb_mono (inv_lenb h.inv) (by omega)) h.whl hown) ?_
  rintro e w' ⟨v, rfl, rfl, L', hw, hS⟩
  refine ⟨_, rfl, rfl, L', ?_, ?_, hS⟩
  · by_cases hok : setOk W id n
    · obtain ⟨h1, h2, h3, h4⟩ := aset_inv h.inv hok
      refine ⟨hw, h1, ?_⟩
      rw [h4]
      obtain ⟨_, _, hc⟩ := hok
      split
      · omega
      · rcases hc with hc | hc
        · contradiction
        · omega
    · rw [aset_no hok] at hw ⊢
      exact ⟨hw, h.inv, hfew⟩
  · by_cases hok : setOk W id n
    · exact (aset_inv h.inv hok).2.2.1
    · rw [aset_no hok]
theorem stop_k (id : Int) (h : Wk b m W L) (hown : Own w L) :
    Ret Try.prog 10 #[.pointer (some ⟨b, 0, none⟩), .int .i64 id] w fun u w' => u = .bool (tget W.ts id).isSome ∧ ∃ L', Wk b m (aStop W id) L' ∧ (aStop W id).now = W.now ∧ St w (L.map Prod.fst) L' w' := by
  have hfew := h.few
  refine Calls.mono (stop_d id (inv_pl h.inv) (lenb_mono (inv_lenb h.inv) (by omega)) h.whl hown) ?_
  rintro e w' ⟨v, rfl, rfl, L', hw, hS⟩
  obtain ⟨h1, h2, h3, h4, h5⟩ := astop_inv h.inv id
  exact ⟨_, rfl, rfl, L', ⟨hw, h1, by omega⟩, h3, hS⟩
end
theorem works_any (w : World) : Ret Try.prog 11 #[] w fun u w' => u = .bool true ∧ St w [] [] w' := by
  have hS := St.init0 w
  have hok : setOk w0 7 1 := ⟨by decide, by decide, .inr (by decide)⟩
  have hki := (aset_inv inv_new hok)
  have hlen : (aTick (aSet w0 7 1)).2.length = 1 := by
    rw [(inv_tick hki.1).2.2.2, srt_len, List.length_map, (hki.2.1.filter _).length_eq, hki.2.2.1]
    rfl
  refine Ret.enter Try.func11 Try.ntmps11 rfl rfl ?_
  simp only [argEnv, Nat.reduceAdd]
  refine SatC.seq ?_
  refine SatC.region ?_
  refine SatL.pu (RunV.assign rfl) rfl ?_
  refine SatL.nil (SatE.thenC ?_)
  refine SatC.seq ?_
  refine SatC.region ?_
  refine SatL.op rfl (OpW.enter rfl rfl rfl (rfl) (new_k _) ?_)
  rintro r1 w1 ⟨b, m, L, rfl, hk, h⟩
  replace hS := hS.callT (A := []) .nil h
  refine SatL.pu (RunV.assign rfl) rfl ?_
  refine SatL.nil (SatE.thenC ?_)
  refine SatC.seq ?_
  refine SatC.region ?_
  refine SatL.pu (RunV.move rfl) rfl ?_
  refine SatL.op rfl (OpW.enter rfl rfl rfl (rfl) (set_k 7 1 (Nat.zero_le _) hk (hS.ownT (A := L) (.whole .here))) ?_)
  rintro r2 w2 ⟨rfl, L2, hk2, hn2, h⟩
  replace hS := hS.callT (A := L) (.whole .here) h
  rw [decide_eq_true hok]
  refine SatL.pu (RunV.move rfl) rfl ?_
  refine SatL.guard rfl rfl rfl (fun h1 => ?_) (fun h1 => ?_)
  · (try simp only [cx, ne_eq] at h1)
    try (exfalso; (first | omega | exact h1 trivial | contradiction | (first | omega | (simp at h1; done))); done)
    all_goals
    refine SatL.pu (RunV.move rfl) rfl ?_
    refine SatL.guard_y rfl rfl ?_
    refine SatL.op rfl (OpW.enter rfl rfl rfl (rfl) (tick_k (by rw [hn2]; exact Nat.zero_le _) hk2 (hS.ownT (A := L2) (.whole .here))) ?_)
    rintro r3 w3 ⟨AB, L3, hsl, hl3, hk3, hn3, h⟩
    replace hS := hS.callT (A := L2) (.whole .here) h
    obtain ⟨vc, hv⟩ := hsl.slv
    rw [List.length_map, hlen] at hv
    refine SatL.guard_y rfl rfl ?_
    first | refine SatL.pu (RunV.lenR (by assumption) rfl rfl) rfl ?_ | refine SatL.pu (RunV.lenS rfl rfl) rfl ?_
    refine SatL.guard_y rfl rfl ?_
    refine SatL.pu (RunV.eql rfl rfl) rfl ?_
    refine SatL.pu (RunV.pick_t rfl rfl) rfl ?_
    refine SatL.pu (RunV.assign rfl) rfl ?_
    refine SatL.nil (SatE.thenC ?_)
    refine SatC.ret ?_
    refine SatE.ret1 rfl rfl ?_
    exact ⟨rfl, hS.sel .nil⟩
  · (try simp only [cx, ne_eq] at h1)
    try (exfalso; (first | omega | exact h1 trivial | contradiction | (first | omega | (simp at h1; done))); done)
    all_goals
    refine SatL.guard_n rfl rfl rfl rfl ?_
    refine SatL.guard_n rfl rfl rfl rfl ?_
    refine SatL.guard_n rfl rfl rfl rfl ?_
    refine SatL.pu (RunV.pick_f rfl rfl) rfl ?_
    refine SatL.pu (RunV.assign rfl) rfl ?_
    refine SatL.nil (SatE.thenC ?_)
    refine SatC.ret ?_
    refine SatE.ret1 rfl rfl ?_
    exact ⟨rfl, hS.sel .nil⟩
end Go.Proofs.Ytabladeenemfoaa
