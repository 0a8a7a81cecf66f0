/- Choosing: what is chosen, in plain words; names and patterns. -/
import Derived.Test.YtogohendjjgbiaaIi
import Derived.Test.YtogohendjjgbiaaNm
import Derived.Test.YtogohendjjgbiaaK22
set_option linter.unusedSimpArgs false
set_option linter.unusedVariables false
set_option maxRecDepth 100000
set_option maxHeartbeats 4000000
namespace Go.Proofs.Ytogohendjjgbiaa
open Go.RowKit
def patI (s : List UInt8) : Bool := decide (s = [42]) || okN s
def mt (p s : List UInt8) : Bool := okN s && (decide (p = [42]) || decide (p = s))
def mI (x : Itn) (s d : List UInt8) : Bool := mt x.s s && mt x.d d
/-- The place that is chosen: of those that speak, the first of the most exact ones. -/
def Best (l : List Itn) (s d : List UInt8) (at_ : Int) : Prop := (at_ = -1 ∧ ∀ x ∈ l, mI x s d = false) ∨
  ∃ (k : Nat) (x : Itn), at_ = k ∧ l[k]? = some x ∧ mI x s d = true ∧ ∀ j y, l[j]? = some y → mI y s d = true → rankI y ≤ rankI x ∧ (j < k → rankI y < rankI x)
def alwI (l : List Itn) (df : Bool) (at_ : Int) : Bool := if at_ < 0 then df else (l.getD at_.toNat ⟨[], [], df, 0, 0⟩).a
theorem best_uniq {l : List Itn} {s d : List UInt8} {a b : Int} (h : Best l s d a) (h' : Best l s d b) : a = b := by
  rcases h with ⟨rfl, h⟩ | ⟨k, x, rfl, hk, hx, hb⟩
  · rcases h' with ⟨rfl, _⟩ | ⟨k', x', rfl, hk', hx', _⟩
    · rfl
    · rw [h x' (List.mem_of_getElem? hk')] at hx'; cases hx'
  · rcases h' with ⟨rfl, h'⟩ | ⟨k', x', rfl, hk', hx', hb'⟩
    · rw [h' x (List.mem_of_getElem? hk)] at hx; cases hx
    · have h1 := hb k' x' hk' hx'
      have h2 := hb' k x hk hx
      have : k = k' := by
        rcases Nat.lt_trichotomy k k' with h | h | h
        · have := h2.2 h; omega
        · exact h
        · have := h1.2 h; omega
      rw [this]
theorem best_lt {l : List Itn} {s d : List UInt8} {a : Int} (h : Best l s d a) : -1 ≤ a ∧ a < l.length := by
  rcases h with ⟨rfl, _⟩ | ⟨k, x, rfl, hk, _⟩
  · omega
  · have := (List.getElem?_eq_some_iff.1 hk).1; omega
/-- Those of a list that speak, with their places. -/
def spk (l : List Itn) (s d : List UInt8) : List (Nat × Itn) := (l.zipIdx.filter fun p => mI p.1 s d).map fun p => (p.2, p.1)
theorem spk_mem {l : List Itn} {s d : List UInt8} {k : Nat} {x : Itn} : (k, x) ∈ spk l s d ↔ l[k]? = some x ∧ mI x s d = true := by
  unfold spk
  simp only [List.mem_map, List.mem_filter, Prod.exists, Prod.mk.injEq]
  constructor
  · rintro ⟨a, b, ⟨h1, h2⟩, rfl, rfl⟩
    exact ⟨List.mem_zipIdx_iff_getElem?.1 h1, h2⟩
  · rintro ⟨h1, h2⟩
    exact ⟨x, k, ⟨List.mem_zipIdx_iff_getElem?.2 h1, h2⟩, rfl, rfl⟩
theorem spk_next {l : List Itn} {s d : List UInt8} {i : Nat} {y : Itn} (h : l[i]? = some y) : spk (l.take (i + 1)) s d = spk (l.take i) s d ++ (if mI y s d = true then [(i, y)] else []) := by
  have hi := (List.getElem?_eq_some_iff.1 h).1
  unfold spk
  rw [List.take_add_one, h, Option.toList_some, List.zipIdx_append, List.filter_append, List.map_append, List.length_take, Nat.min_eq_left (by omega), Nat.zero_add]
  congr 1
  by_cases hm : mI y s d = true
  · simp [hm]
  · simp [hm]
theorem spk_len (l : List Itn) (s d : List UInt8) : (spk l s d).length ≤ l.length := by
  unfold spk
  rw [List.length_map]
  exact Nat.le_trans (List.length_filter_le ..) (by rw [List.length_zipIdx]; exact Nat.le_refl _)
theorem spk_asc (l : List Itn) (s d : List UInt8) : (spk l s d).Pairwise fun p q => p.1 < q.1 := by
  unfold spk
  rw [List.pairwise_map]
  refine List.Pairwise.filter _ ?_
  rw [List.pairwise_iff_getElem]
  intro i j hi hj hij
  simp only [List.getElem_zipIdx]
  omega
/-- What is found of a list of those that speak. -/
def BestP (pre : List (Nat × Itn)) (g : Int × Int) : Prop := (pre = [] ∧ g = (-1, -1)) ∨ ∃ (a : List (Nat × Itn)) (k : Nat) (x : Itn) (b : List (Nat × Itn)), pre = a ++ (k, x) :: b ∧ g = ((k : Int), (rankI x : Int)) ∧ (∀ p ∈ a, rankI p.2 < rankI x) ∧ ∀ p ∈ b, rankI p.2 ≤ rankI x
theorem bestP_more {pre : List (Nat × Itn)} {g : Int × Int} {k : Nat} {x : Itn} (h : BestP pre g) (hr : g.2 < (rankI x : Int)) : BestP (pre ++ [(k, x)]) ((k : Int), (rankI x : Int)) := by
  refine .inr ⟨pre, k, x, [], rfl, rfl, fun p hp => ?_, fun p hp => by cases hp⟩
  rcases h with ⟨rfl, rfl⟩ | ⟨a, k', x', b, rfl, rfl, h1, h2⟩
  · cases hp
  · dsimp only at hr
    rcases List.mem_append.1 hp with hp | hp
    · have := h1 p hp; omega
    · rcases List.mem_cons.1 hp with rfl | hp
      · dsimp only; omega
      · have := h2 p hp; omega
theorem bestP_less {pre : List (Nat × Itn)} {g : Int × Int} {k : Nat} {x : Itn} (h : BestP pre g) (hr : (rankI x : Int) ≤ g.2) : BestP (pre ++ [(k, x)]) g := by
  rcases h with ⟨rfl, rfl⟩ | ⟨a, k', x', b, rfl, rfl, h1, h2⟩
  · dsimp only at hr; omega
  · refine .inr ⟨a, k', x', b ++ [(k, x)], by simp, rfl, h1, fun p hp => ?_⟩
    dsimp only at hr
    rcases List.mem_append.1 hp with hp | hp
    · exact h2 p hp
    · rw [List.mem_singleton] at hp
      subst hp
      dsimp only; omega
theorem bestP_low {pre : List (Nat × Itn)} {g : Int × Int} (h : BestP pre g) : g.2 = -1 ∨ 0 ≤ g.2 ∧ g.2 ≤ 3 := by
  rcases h with ⟨rfl, rfl⟩ | ⟨a, k', x', b, rfl, rfl, h1, h2⟩
  · exact .inl rfl
  · have := rank_lt x'
    right; dsimp only; omega
theorem best_of {l : List Itn} {s d : List UInt8} {g : Int × Int} (h : BestP (spk l s d) g) : Best l s d g.1 := by
  rcases h with ⟨h, rfl⟩ | ⟨a, k, x, b, h, rfl, h1, h2⟩
  · refine .inl ⟨rfl, fun x hx => ?_⟩
    obtain ⟨k, hk⟩ := List.getElem?_of_mem hx
    cases hm : mI x s d
    · rfl
    · have := spk_mem.2 ⟨hk, hm⟩
      rw [h] at this; cases this
  · have hin : (k, x) ∈ spk l s d := by rw [h]; simp
    have hx := spk_mem.1 hin
    refine .inr ⟨k, x, rfl, hx.1, hx.2, fun j y hj hy => ?_⟩
    have hjn := spk_mem.2 ⟨hj, hy⟩
    have ha := spk_asc l s d
    rw [h] at hjn ha
    rw [List.pairwise_append] at ha
    rcases List.mem_append.1 hjn with hj' | hj'
    · have := h1 _ hj'
      dsimp only at this
      exact ⟨by omega, fun _ => this⟩
    · rcases List.mem_cons.1 hj' with e | hj'
      · cases e
        exact ⟨Nat.le_refl _, fun h => absurd h (Nat.lt_irrefl _)⟩
      · have h3 := h2 _ hj'
        have h4 := (List.pairwise_cons.1 ha.2.1).1 _ hj'
        dsimp only at h3 h4
        exact ⟨h3, fun h => by omega⟩
/-- The rows of an argument as a block of one's own. -/
theorem RdRow.own {v : Value} {k : Nat} {xs : List (List Value)} {w : World} (h : RdRow w v k xs) : ∃ A : List (Nat × Obj), Own w A ∧ ∃ b o c, SlV v b o xs.length c ∧ xs.length ≤ 9223372036854775807 ∧ ∀ W, (∀ c ∈ A, W.heap[c.1]? = some c.2) → RdC W b o k xs := by
  obtain ⟨b, o, c, hv, hm, hc, hb⟩ := h.open
  by_cases h0 : 0 < xs.length
  · have hlt := hb h0
    refine ⟨[(b, w.heap[b])], ⟨fun c hc => ?_, by simp⟩, b, o, c, hv, hm, fun W hW i r hi => ⟨(hc i r hi).1, fun j u hj => ?_⟩⟩
    · rw [List.mem_singleton] at hc
      subst hc
      exact Array.getElem?_eq_getElem hlt
    · have h1 := (hc i r hi).2 j u hj
      have h2 := hW _ List.mem_cons_self
      dsimp only at h2
      rw [← h1]
      simp only [World.cell?, h2, Array.getElem?_eq_getElem hlt]
  · refine ⟨[], ⟨fun c hc => (by cases hc), List.nodup_nil⟩, b, o, c, hv, hm, fun W _ i r hi => ?_⟩
    have := (List.getElem?_eq_some_iff.1 hi).1
    omega
theorem match_any (p s : List UInt8) (w : World) : Ret Try.prog 51 #[str p, str s] w fun u w' => u = .bool (mt p s) ∧ St w [] [] w' := by
  have hS := St.init0 w
  refine Ret.enter Try.func51 Try.ntmps51 rfl rfl ?_
  simp only [argEnv, Nat.reduceAdd]
  refine SatC.seq ?_
  refine SatC.region ?_
  refine SatL.pu (RunV.assign rfl) rfl ?_
  refine SatL.nil (SatE.thenC ?_)
  refine SatC.seq ?_
  refine SatC.region ?_
  refine SatL.pu (RunV.move rfl) rfl ?_
  refine SatL.op rfl (OpW.enter rfl rfl rfl (rfl) (right_any s _) ?_)
  rintro r1 w1 ⟨rfl, h⟩
  replace hS := St.callN hS h
  refine SatL.pu (RunV.move rfl) rfl ?_
  refine SatL.guard rfl rfl rfl (fun h1 => ?_) (fun h1 => ?_)
  · (try simp only [cx, ne_eq] at h1)
    try (exfalso; (first | omega | exact h1 trivial | contradiction | (first | omega | (simp at h1; done))); done)
    all_goals
    refine SatL.pu (RunV.move rfl) rfl ?_
    refine SatL.guard_y rfl rfl ?_
    refine SatL.pu (RunV.seql rfl rfl) rfl ?_
    refine SatL.guard_y rfl rfl ?_
    refine SatL.pu (RunV.move rfl) rfl ?_
    refine SatL.guard rfl rfl rfl (fun h2 => ?_) (fun h2 => ?_)
    · (try simp only [cx, ne_eq] at h2)
      try (exfalso; (first | omega | exact h2 trivial | contradiction | (first | omega | (simp at h2; done))); done)
      all_goals
      refine SatL.pu (RunV.move rfl) rfl ?_
      refine SatL.guard_y rfl rfl ?_
      refine SatL.pu (RunV.move rfl) rfl ?_
      refine SatL.guard_y rfl rfl ?_
      refine SatL.pu (RunV.seql rfl rfl) rfl ?_
      refine SatL.guard_y rfl rfl ?_
      refine SatL.pu (RunV.pick_f rfl rfl) rfl ?_
      refine SatL.pu (RunV.pick_t rfl rfl) rfl ?_
      refine SatL.pu (RunV.assign rfl) rfl ?_
      refine SatL.nil (SatE.thenC ?_)
      refine SatC.ret ?_
      refine SatE.ret1 rfl rfl ?_
      exact ⟨by unfold mt; simp_all, hS⟩
    · (try simp only [cx, ne_eq] at h2)
      try (exfalso; (first | omega | exact h2 trivial | contradiction | (first | omega | (simp at h2; done))); done)
      all_goals
      refine SatL.guard_n rfl rfl rfl rfl ?_
      refine SatL.guard_n rfl rfl rfl rfl ?_
      refine SatL.guard_y rfl rfl ?_
      refine SatL.pu (RunV.pick_t rfl rfl) rfl ?_
      refine SatL.pu (RunV.pick_t rfl rfl) rfl ?_
      refine SatL.pu (RunV.assign rfl) rfl ?_
      refine SatL.nil (SatE.thenC ?_)
      refine SatC.ret ?_
      refine SatE.ret1 rfl rfl ?_
      exact ⟨by unfold mt; simp_all, hS⟩
  · (try simp only [cx, ne_eq] at h1)
    try (exfalso; (first | omega | exact h1 trivial | contradiction | (first | omega | (simp at h1; done))); done)
    all_goals
    refine SatL.guard_n rfl rfl rfl rfl ?_
    refine SatL.guard_n rfl rfl rfl rfl ?_
    refine SatL.guard_u rfl rfl rfl ?_
    refine SatL.guard_u rfl rfl rfl ?_
    refine SatL.guard_u rfl rfl rfl ?_
    refine SatL.guard_n rfl rfl rfl rfl ?_
    refine SatL.pu (RunV.pick_f rfl rfl) rfl ?_
    refine SatL.pu (RunV.assign rfl) rfl ?_
    refine SatL.nil (SatE.thenC ?_)
    refine SatC.ret ?_
    refine SatE.ret1 rfl rfl ?_
    exact ⟨by unfold mt; simp_all, hS⟩
theorem rmatch_any (p s : List UInt8) (w : World) : Ret Try.prog 17 #[str p, str s] w fun u w' => u = .bool (mt p s) ∧ St w [] [] w' := by
  have hS := St.init0 w
  refine Ret.enter Try.func17 Try.ntmps17 rfl rfl ?_
  simp only [argEnv, Nat.reduceAdd]
  refine SatC.seq ?_
  refine SatC.region ?_
  refine SatL.pu (RunV.assign rfl) rfl ?_
  refine SatL.nil (SatE.thenC ?_)
  refine SatC.seq ?_
  refine SatC.region ?_
  refine SatL.pu (RunV.move rfl) rfl ?_
  refine SatL.op rfl (OpW.enter rfl rfl rfl (rfl) (right_ref s _) ?_)
  rintro r1 w1 ⟨rfl, h⟩
  replace hS := St.callN hS h
  refine SatL.pu (RunV.move rfl) rfl ?_
  refine SatL.guard rfl rfl rfl (fun h1 => ?_) (fun h1 => ?_)
  · (try simp only [cx, ne_eq] at h1)
    try (exfalso; (first | omega | exact h1 trivial | contradiction | (first | omega | (simp at h1; done))); done)
    all_goals
    refine SatL.pu (RunV.move rfl) rfl ?_
    refine SatL.guard_y rfl rfl ?_
    refine SatL.pu (RunV.move rfl) rfl ?_
    refine SatL.guard_y rfl rfl ?_
    refine SatL.pu (RunV.seql rfl rfl) rfl ?_
    refine SatL.guard_y rfl rfl ?_
    refine SatL.pu (RunV.move rfl) rfl ?_
    refine SatL.guard rfl rfl rfl (fun h2 => ?_) (fun h2 => ?_)
    · (try simp only [cx, ne_eq] at h2)
      try (exfalso; (first | omega | exact h2 trivial | contradiction | (first | omega | (simp at h2; done))); done)
      all_goals
      refine SatL.pu (RunV.move rfl) rfl ?_
      refine SatL.guard_y rfl rfl ?_
      refine SatL.pu (RunV.seql rfl rfl) rfl ?_
      refine SatL.guard_y rfl rfl ?_
      refine SatL.pu (RunV.pick_f rfl rfl) rfl ?_
      refine SatL.pu (RunV.pick_t rfl rfl) rfl ?_
      refine SatL.pu (RunV.assign rfl) rfl ?_
      refine SatL.nil (SatE.thenC ?_)
      refine SatC.ret ?_
      refine SatE.ret1 rfl rfl ?_
      exact ⟨by unfold mt; simp_all, hS⟩
    · (try simp only [cx, ne_eq] at h2)
      try (exfalso; (first | omega | exact h2 trivial | contradiction | (first | omega | (simp at h2; done))); done)
      all_goals
      refine SatL.guard_n rfl rfl rfl rfl ?_
      refine SatL.guard_y rfl rfl ?_
      refine SatL.pu (RunV.pick_t rfl rfl) rfl ?_
      refine SatL.pu (RunV.pick_t rfl rfl) rfl ?_
      refine SatL.pu (RunV.assign rfl) rfl ?_
      refine SatL.nil (SatE.thenC ?_)
      refine SatC.ret ?_
      refine SatE.ret1 rfl rfl ?_
      exact ⟨by unfold mt; simp_all, hS⟩
  · (try simp only [cx, ne_eq] at h1)
    try (exfalso; (first | omega | exact h1 trivial | contradiction | (first | omega | (simp at h1; done))); done)
    all_goals
    refine SatL.guard_n rfl rfl rfl rfl ?_
    refine SatL.guard_n rfl rfl rfl rfl ?_
    refine SatL.guard_n rfl rfl rfl rfl ?_
    refine SatL.guard_u rfl rfl rfl ?_
    refine SatL.guard_u rfl rfl rfl ?_
    refine SatL.guard_n rfl rfl rfl rfl ?_
    refine SatL.pu (RunV.pick_f rfl rfl) rfl ?_
    refine SatL.pu (RunV.assign rfl) rfl ?_
    refine SatL.nil (SatE.thenC ?_)
    refine SatC.ret ?_
    refine SatE.ret1 rfl rfl ?_
    exact ⟨by unfold mt; simp_all, hS⟩
theorem pat_any (s : List UInt8) (w : World) : Ret Try.prog 35 #[str s] w fun u w' => u = .bool (patI s) ∧ St w [] [] w' := by
  have hS := St.init0 w
  refine Ret.enter Try.func35 Try.ntmps35 rfl rfl ?_
  simp only [argEnv, Nat.reduceAdd]
  refine SatC.seq ?_
  refine SatC.region ?_
  refine SatL.pu (RunV.assign rfl) rfl ?_
  refine SatL.nil (SatE.thenC ?_)
  refine SatC.seq ?_
  refine SatC.region ?_
  refine SatL.pu (RunV.move rfl) rfl ?_
  refine SatL.pu (RunV.seql rfl rfl) rfl ?_
  refine SatL.pu (RunV.move rfl) rfl ?_
  refine SatL.guard rfl rfl rfl (fun h1 => ?_) (fun h1 => ?_)
  · (try simp only [cx, ne_eq] at h1)
    try (exfalso; (first | omega | exact h1 trivial | contradiction | (first | omega | (simp at h1; done))); done)
    all_goals
    refine SatL.pu (RunV.move rfl) rfl ?_
    refine SatL.guard_y rfl rfl ?_
    refine SatL.op rfl (OpW.enter rfl rfl rfl (rfl) (right_any s _) ?_)
    rintro r1 w1 ⟨rfl, h⟩
    replace hS := St.callN hS h
    refine SatL.pu (RunV.pick_f rfl rfl) rfl ?_
    refine SatL.pu (RunV.assign rfl) rfl ?_
    refine SatL.nil (SatE.thenC ?_)
    refine SatC.ret ?_
    refine SatE.ret1 rfl rfl ?_
    exact ⟨by unfold patI; simp_all, hS⟩
  · (try simp only [cx, ne_eq] at h1)
    try (exfalso; (first | omega | exact h1 trivial | contradiction | (first | omega | (simp at h1; done))); done)
    all_goals
    refine SatL.guard_n rfl rfl rfl rfl ?_
    refine SatL.pu (RunV.pick_t rfl rfl) rfl ?_
    refine SatL.pu (RunV.assign rfl) rfl ?_
    refine SatL.nil (SatE.thenC ?_)
    refine SatC.ret ?_
    refine SatE.ret1 rfl rfl ?_
    exact ⟨by unfold patI; simp_all, hS⟩
theorem rpat_any (s : List UInt8) (w : World) : Ret Try.prog 39 #[str s] w fun u w' => u = .bool (patI s) ∧ St w [] [] w' := by
  have hS := St.init0 w
  refine Ret.enter Try.func39 Try.ntmps39 rfl rfl ?_
  simp only [argEnv, Nat.reduceAdd]
  refine SatC.seq ?_
  refine SatC.region ?_
  refine SatL.pu (RunV.assign rfl) rfl ?_
  refine SatL.nil (SatE.thenC ?_)
  refine SatC.seq ?_
  refine SatC.region ?_
  refine SatL.pu (RunV.move rfl) rfl ?_
  refine SatL.pu (RunV.seql rfl rfl) rfl ?_
  refine SatL.pu (RunV.move rfl) rfl ?_
  refine SatL.guard rfl rfl rfl (fun h1 => ?_) (fun h1 => ?_)
  · (try simp only [cx, ne_eq] at h1)
    try (exfalso; (first | omega | exact h1 trivial | contradiction | (first | omega | (simp at h1; done))); done)
    all_goals
    refine SatL.pu (RunV.move rfl) rfl ?_
    refine SatL.guard_y rfl rfl ?_
    refine SatL.op rfl (OpW.enter rfl rfl rfl (rfl) (right_ref s _) ?_)
    rintro r1 w1 ⟨rfl, h⟩
    replace hS := St.callN hS h
    refine SatL.pu (RunV.pick_f rfl rfl) rfl ?_
    refine SatL.pu (RunV.assign rfl) rfl ?_
    refine SatL.nil (SatE.thenC ?_)
    refine SatC.ret ?_
    refine SatE.ret1 rfl rfl ?_
    exact ⟨by unfold patI; simp_all, hS⟩
  · (try simp only [cx, ne_eq] at h1)
    try (exfalso; (first | omega | exact h1 trivial | contradiction | (first | omega | (simp at h1; done))); done)
    all_goals
    refine SatL.guard_n rfl rfl rfl rfl ?_
    refine SatL.pu (RunV.pick_t rfl rfl) rfl ?_
    refine SatL.pu (RunV.assign rfl) rfl ?_
    refine SatL.nil (SatE.thenC ?_)
    refine SatC.ret ?_
    refine SatE.ret1 rfl rfl ?_
    exact ⟨by unfold patI; simp_all, hS⟩
end Go.Proofs.Ytogohendjjgbiaa
