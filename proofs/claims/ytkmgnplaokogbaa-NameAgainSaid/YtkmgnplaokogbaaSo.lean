/- Contracts of sets of texts, both sides. -/
import Derived.Test.YtkmgnplaokogbaaQ
import Derived.Test.YtkmgnplaokogbaaK15
import Derived.Test.YtkmgnplaokogbaaK17
import Derived.Test.YtkmgnplaokogbaaSe
set_option linter.unusedSimpArgs false
set_option linter.unusedVariables false
set_option maxRecDepth 100000
set_option maxHeartbeats 1000000
namespace Go.Proofs.Ytkmgnplaokogbaa
open Go.RowKit
theorem Sl.blk_mem {T k : Nat} {v : Value} {rows : List (List Value)} {B : List (Nat × Obj)} (h : Sl T k v rows B) (h0 : 0 < rows.length) : blk B ∈ B.map Prod.fst := by
  cases h with
  | nil => simp at h0
  | own => simp [blk]
theorem slv_blk {v : Value} {b b' o o' n c c' : Nat} (h : SlV v b o n c) (h' : SlV v b' o' n c') (h0 : 0 < n) : b = b' := by
  obtain ⟨A1, e1, f1⟩ := h.eq
  obtain ⟨A2, e2, f2⟩ := h'.eq
  have g1 := f1 h0
  have g2 := f2 h0
  subst g1 g2
  rw [e1] at e2
  simp only [Value.slice.injEq, Option.some.injEq, Addr.mk.injEq] at e2
  exact e2.1.1
theorem tx_one (l : List Tx) : ∀ r ∈ l.map rs, ∀ u ∈ r, u.oneCell' = true := by
  intro r hr u hu
  obtain ⟨x, _, rfl⟩ := List.mem_map.1 hr
  simp only [rs, List.mem_cons, List.not_mem_nil, or_false] at hu
  subst hu
  rfl
/-- What a putting into a rising list knows on its way: what has come, whether x stands in it, what is written. -/
def WInv (x : Tx) (p : List Tx) (d : Bool) (r : List Tx) : Prop := r.Pairwise (· < ·) ∧ (∀ z, z ∈ r ↔ z ∈ p ∨ (d = true ∧ z = x)) ∧ (d = false → ∀ z ∈ p, z < x) ∧ (d = true → ∃ z ∈ p, ¬ z < x)
theorem winv_nil (x : Tx) : WInv x [] false [] := ⟨List.Pairwise.nil, fun z => by simp, fun _ z h => (by cases h), fun h => (by cases h)⟩
theorem snoc_pw {r : List Tx} {y : Tx} (h : r.Pairwise (· < ·)) (hy : ∀ z ∈ r, z < y) : (r ++ [y]).Pairwise (· < ·) := by
  rw [List.pairwise_append]
  refine ⟨h, List.pairwise_singleton _ _, fun a ha b hb => ?_⟩
  rw [List.mem_singleton] at hb
  subst hb
  exact hy a ha
theorem winv_lt {x y : Tx} {p r : List Tx} {d : Bool} (h : WInv x p d r) (hl : ∀ z ∈ p, z < y) : ∀ z ∈ r, z < y := fun z hz => by
  rcases (h.2.1 z).1 hz with h1 | ⟨h1, h2⟩
  · exact hl z h1
  · obtain ⟨u, hu, hux⟩ := h.2.2.2 h1
    rw [h2]
    exact le_lt hux (hl u hu)
theorem winv_eq {x y : Tx} {p r : List Tx} {d : Bool} (h : WInv x p d r) (hl : ∀ z ∈ p, z < y) (e : y = x) : WInv x (p ++ [y]) true (r ++ [y]) :=
  ⟨snoc_pw h.1 (winv_lt h hl), fun z => by
    simp only [List.mem_append, List.mem_singleton, h.2.1, e, true_and]
    constructor
    · rintro ((h | h) | h)
      · exact .inl (.inl h)
      · exact .inr h.2
      · exact .inr h
    · rintro ((h | h) | h)
      · exact .inl (.inl h)
      · exact .inr h
      · exact .inr h, fun h => (by cases h), fun _ => ⟨y, by simp, by rw [e]; exact lt_irr _⟩⟩
theorem winv_put {x y : Tx} {p r : List Tx} (h : WInv x p false r) (hl : ∀ z ∈ p, z < y) (e : x < y) : WInv x (p ++ [y]) true (r ++ [x] ++ [y]) :=
  ⟨snoc_pw (snoc_pw h.1 (fun z hz => h.2.2.1 rfl z (by rcases (h.2.1 z).1 hz with h1 | h1; exact h1; cases h1.1))) (fun z hz => by
    rcases List.mem_append.1 hz with hz | hz
    · exact winv_lt h hl z hz
    · rw [List.mem_singleton] at hz; rw [hz]; exact e), fun z => by
    simp only [List.mem_append, List.mem_singleton, h.2.1, true_and]
    constructor
    · rintro (((h | h) | h) | h)
      · exact .inl (.inl h)
      · cases h.1
      · exact .inr h
      · exact .inl (.inr h)
    · rintro ((h | h) | h)
      · exact .inl (.inl (.inl h))
      · exact .inr h
      · exact .inl (.inr h), fun h => (by cases h), fun _ => ⟨y, by simp, lt_asym e⟩⟩
theorem winv_on {x y : Tx} {p r : List Tx} {d : Bool} (h : WInv x p d r) (hl : ∀ z ∈ p, z < y) (e : ¬ y = x) (e2 : d = true ∨ ¬ x < y) : WInv x (p ++ [y]) d (r ++ [y]) :=
  ⟨snoc_pw h.1 (winv_lt h hl), fun z => by
    simp only [List.mem_append, List.mem_singleton, h.2.1]
    constructor
    · rintro ((h | h) | h)
      · exact .inl (.inl h)
      · exact .inr h
      · exact .inl (.inr h)
    · rintro ((h | h) | h)
      · exact .inl (.inl h)
      · exact .inr h
      · exact .inl (.inr h), fun hd z hz => by
    rcases List.mem_append.1 hz with hz | hz
    · exact h.2.2.1 hd z hz
    · rw [List.mem_singleton] at hz
      rw [hz]
      rcases e2 with e2 | e2
      · rw [hd] at e2; cases e2
      · rcases lt_tri y x with h1 | h1 | h1
        · exact h1
        · exact absurd h1 e
        · exact absurd h1 e2, fun hd => by
    obtain ⟨u, hu, hux⟩ := h.2.2.2 hd
    exact ⟨u, List.mem_append_left _ hu, hux⟩⟩
theorem winv_end {x : Tx} {l r : List Tx} (h : WInv x l true r) : SetOf r (x :: l) := ⟨h.1, fun z => by
  rw [h.2.1, List.mem_cons]
  constructor
  · rintro (h | h)
    · exact .inr h
    · exact .inl h.2
  · rintro (h | h)
    · exact .inr ⟨rfl, h⟩
    · exact .inl h⟩
theorem winv_end0 {x : Tx} {l r : List Tx} (h : WInv x l false r) : SetOf (r ++ [x]) (x :: l) := ⟨snoc_pw h.1 fun z hz => h.2.2.1 rfl z (by rcases (h.2.1 z).1 hz with h1 | h1; exact h1; cases h1.1), fun z => by
  have h0 := h.2.1 z
  simp only [Bool.false_eq_true, false_and, or_false] at h0
  rw [List.mem_append, List.mem_singleton, List.mem_cons, h0, or_comm]⟩
theorem take_lt {l : List Tx} {i : Nat} {y : Tx} (hp : l.Pairwise (· < ·)) (hy : l[i]? = some y) : ∀ z ∈ l.take i, z < y := fun z hz => by
  obtain ⟨j, hj⟩ := List.getElem?_of_mem hz
  have hlt := (List.getElem?_eq_some_iff.1 hj).1
  rw [List.length_take] at hlt
  rw [List.getElem?_take_of_lt (by omega)] at hj
  obtain ⟨h1, rfl⟩ := List.getElem?_eq_some_iff.1 hj
  obtain ⟨h2, rfl⟩ := List.getElem?_eq_some_iff.1 hy
  exact List.pairwise_iff_getElem.1 hp j i h1 h2 (by omega)
theorem same_any (v1 v2 : Value) (a b : List Tx) (w : World) (hr1 : RdRow w v1 1 (a.map rs)) (hr2 : RdRow w v2 1 (b.map rs)) : Ret Try.prog 24 #[v1, v2] w fun u w' => u = .bool (decide (a = b)) ∧ St w [] [] w' := by
  have hS := St.init0 w
  obtain ⟨b1, o1, c1, hv1, hmax1, hc1, hlt1⟩ := hr1.open
  obtain ⟨b2, o2, c2, hv2, hmax2, hc2, hlt2⟩ := hr2.open
  simp only [List.length_map] at hv1 hmax1 hlt1 hv2 hmax2 hlt2
  refine Ret.enter Try.func24 Try.ntmps24 rfl rfl ?_
  simp only [argEnv, Nat.reduceAdd]
  refine SatC.seq ?_
  refine SatC.region ?_
  refine SatL.pu (RunV.assign rfl) rfl ?_
  refine SatL.nil (SatE.thenC ?_)
  refine SatC.seq ?_
  refine SatC.seq ?_
  refine SatC.region ?_
  refine SatL.pu (RunV.move rfl) rfl ?_
  first | refine SatL.pu (RunV.lenR (by assumption) rfl rfl) rfl ?_ | refine SatL.pu (RunV.lenS rfl rfl) rfl ?_
  refine SatL.pu (RunV.move rfl) rfl ?_
  first | refine SatL.pu (RunV.lenR (by assumption) rfl rfl) rfl ?_ | refine SatL.pu (RunV.lenS rfl rfl) rfl ?_
  refine SatL.pu (RunV.neq rfl rfl) rfl ?_
  refine SatL.nil (SatE.thenC ?_)
  refine SatC.cond rfl (fun h1 => ?_) (fun h1 => ?_)
  · (try simp only [cx, ne_eq] at h1)
    try (exfalso; (first | omega | exact h1 trivial | contradiction); done)
    all_goals
    refine SatC.seq ?_
    refine SatC.region ?_
    refine SatL.pu (RunV.assign rfl) rfl ?_
    refine SatL.nil (SatE.thenC ?_)
    refine SatC.ret (SatE.then_ret ?_)
    refine SatE.ret1 rfl rfl ?_
    refine ⟨congrArg Value.bool ?_, hS⟩
    first
    | exact (decide_eq_false (fun e => by subst e; omega)).symm
    | (refine (decide_eq_false (fun e => ?_)).symm
       subst e
       rw [hx] at hy
       have := Option.some.inj hy
       contradiction)
    | (refine (decide_eq_true (List.ext_getElem? fun j => ?_)).symm
       rcases Nat.lt_or_ge j i with h' | h'
       · exact hf j h'
       · rw [List.getElem?_eq_none (by omega), List.getElem?_eq_none (by omega)])
  · (try simp only [cx, ne_eq] at h1)
    try (exfalso; (first | omega | exact h1 trivial | contradiction); done)
    all_goals
    refine SatC.skip (SatE.thenC ?_)
    refine SatC.seq ?_
    refine SatC.seq ?_
    refine SatC.region ?_
    refine SatL.pu (RunV.assign rfl) rfl ?_
    refine SatL.nil (SatE.thenC ?_)
    refine SatC.block ?_
    refine SatC.loopK (G := Nat) (V := fun i => [(5, .int .i64 (i : Int))]) (Cn := [(0, _), (1, _), (4, _)]) (I := fun i w' => i ≤ a.length ∧ a.length = b.length ∧ (∀ j, j < i → a[j]? = b[j]?) ∧ St w [] [] w') (μ := fun i => a.length - i) 0 ?_ (by repeat constructor) ?_
    · exact ⟨Nat.zero_le _, by omega, fun j h => by omega, hS⟩
    clear hS
    rintro i w1 ⟨hi, hab, hf, hS⟩
    refine SatC.weak (e' := [(0, _), (1, _), (4, _), (5, _)]) (by repeat constructor) ?_
    refine SatC.seq ?_
    refine SatC.seq ?_
    refine SatC.region ?_
    refine SatL.pu (RunV.move rfl) rfl ?_
    refine SatL.pu (RunV.move rfl) rfl ?_
    first | refine SatL.pu (RunV.lenR (by assumption) rfl rfl) rfl ?_ | refine SatL.pu (RunV.lenS rfl rfl) rfl ?_
    refine SatL.pu (RunV.lss rfl rfl) rfl ?_
    refine SatL.nil (SatE.thenC ?_)
    refine SatC.cond rfl (fun h2 => ?_) (fun h2 => ?_)
    · (try simp only [cx, ne_eq] at h2)
      try (exfalso; (first | omega | exact h2 trivial | contradiction); done)
      all_goals
      refine SatC.skip (SatE.thenC ?_)
      refine SatC.seq ?_
      refine SatC.block ?_
      refine SatC.seq ?_
      obtain ⟨x, hx⟩ := get_some a i (by omega)
      obtain ⟨y, hy⟩ := get_some b i (by omega)
      refine SatC.drawnT 9 hS (hS) (by kernel_rfl) ?_
      clear hS
      intro w2 hh hS hD
      refine SatD.tk 0 rfl hD (fun _ hw => RunV.move rfl) ?_
      refine SatD.tk 1 rfl hD (fun _ hw => RunV.move rfl) ?_
      first | refine SatD.tk 2 rfl hD (fun _ hw => RunV.indexR (by assumption) rfl rfl rfl (by omega) (by omega) rfl) ?_ | refine SatD.tk 2 rfl hD (fun _ hw => RunV.indexS rfl rfl rfl (by omega) (by omega) rfl) ?_
      first | refine SatD.tk 3 rfl hD (fun _ hw => RunV.loadR1z (RdC.st (by assumption) hw List.not_mem_nil) rfl rfl (by first | assumption | exact map_get (by assumption)) rfl) ?_ | refine SatD.tk 3 rfl hD (fun _ hw => RunV.loadR1z (Sl.rd (by assumption) hw (by repeat constructor)) rfl rfl (by first | assumption | exact map_get (by assumption)) rfl) ?_
      refine SatD.tk 4 rfl hD (fun _ hw => RunV.move rfl) ?_
      refine SatD.tk 5 rfl hD (fun _ hw => RunV.move rfl) ?_
      first | refine SatD.tk 6 rfl hD (fun _ hw => RunV.indexR (by assumption) rfl rfl rfl (by omega) (by omega) rfl) ?_ | refine SatD.tk 6 rfl hD (fun _ hw => RunV.indexS rfl rfl rfl (by omega) (by omega) rfl) ?_
      first | refine SatD.tk 7 rfl hD (fun _ hw => RunV.loadR1z (RdC.st (by assumption) hw List.not_mem_nil) rfl rfl (by first | assumption | exact map_get (by assumption)) rfl) ?_ | refine SatD.tk 7 rfl hD (fun _ hw => RunV.loadR1z (Sl.rd (by assumption) hw (by repeat constructor)) rfl rfl (by first | assumption | exact map_get (by assumption)) rfl) ?_
      refine SatD.tk 8 rfl hD (fun _ hw => RunV.sneq rfl rfl) ?_
      refine SatD.done 0 (by kernel_rfl) (SatE.thenC ?_)
      clear hD
      refine SatC.weak (e' := [(0, _), (1, _), (4, _), (5, _), (25, _)]) (by repeat constructor) ?_
      refine SatC.cond rfl (fun h3 => ?_) (fun h3 => ?_)
      · (try simp only [cx, ne_eq] at h3)
        try (exfalso; (first | omega | exact h3 trivial | contradiction); done)
        all_goals
        refine SatC.seq ?_
        refine SatC.region ?_
        refine SatL.pu (RunV.assign rfl) rfl ?_
        refine SatL.nil (SatE.thenC ?_)
        refine SatC.ret (SatE.blk_ret (SatE.then_ret (SatE.then_ret (SatE.blk_ret (SatE.then_ret ?_)))))
        refine SatE.ret1 rfl rfl ?_
        refine ⟨congrArg Value.bool ?_, hS⟩
        first
        | exact (decide_eq_false (fun e => by subst e; omega)).symm
        | (refine (decide_eq_false (fun e => ?_)).symm
           subst e
           rw [hx] at hy
           have := Option.some.inj hy
           contradiction)
        | (refine (decide_eq_true (List.ext_getElem? fun j => ?_)).symm
           rcases Nat.lt_or_ge j i with h' | h'
           · exact hf j h'
           · rw [List.getElem?_eq_none (by omega), List.getElem?_eq_none (by omega)])
      · (try simp only [cx, ne_eq] at h3)
        try (exfalso; (first | omega | exact h3 trivial | contradiction); done)
        all_goals
        refine SatC.skip (SatE.blk_normal (SatE.thenC ?_))
        refine SatC.region ?_
        refine SatL.pu (RunV.move rfl) rfl ?_
        refine SatL.pu (RunV.add rfl rfl (by first | exact wrapI64 (by omega) | rfl)) rfl ?_
        refine SatL.pu (RunV.assign rfl) rfl ?_
        refine SatL.nil ?_
        refine SatE.again (i + 1) ?_ (by first | omega | (dsimp only; omega)) (by repeat constructor)
        refine ⟨by omega, hab, fun j hj => ?_, hS⟩
        rcases Nat.lt_or_ge j i with h' | h'
        · exact hf j h'
        · obtain rfl : j = i := by omega
          rw [hx, hy]
          congr 1
    · (try simp only [cx, ne_eq] at h2)
      try (exfalso; (first | omega | exact h2 trivial | contradiction); done)
      all_goals
      refine SatC.exit (SatE.then_exit (SatE.then_exit (SatE.blk_exit (SatE.thenC ?_))))
      refine SatC.seq ?_
      refine SatC.region ?_
      refine SatL.pu (RunV.assign rfl) rfl ?_
      refine SatL.nil (SatE.thenC ?_)
      refine SatC.ret ?_
      refine SatE.ret1 rfl rfl ?_
      refine ⟨congrArg Value.bool ?_, hS⟩
      first
      | exact (decide_eq_false (fun e => by subst e; omega)).symm
      | (refine (decide_eq_false (fun e => ?_)).symm
         subst e
         rw [hx] at hy
         have := Option.some.inj hy
         contradiction)
      | (refine (decide_eq_true (List.ext_getElem? fun j => ?_)).symm
         rcases Nat.lt_or_ge j i with h' | h'
         · exact hf j h'
         · rw [List.getElem?_eq_none (by omega), List.getElem?_eq_none (by omega)])
theorem rhas_any (v : Value) (l : List Tx) (x : Tx) (w : World) (hr : RdRow w v 1 (l.map rs)) : Ret Try.prog 26 #[v, str x] w fun u w' => u = .bool (decide (x ∈ l)) ∧ St w [] [] w' := by
  have hS := St.init0 w
  obtain ⟨b1, o1, c1, hv1, hmax1, hc1, hlt1⟩ := hr.open
  simp only [List.length_map] at hv1 hmax1 hlt1
  refine Ret.enter Try.func26 Try.ntmps26 rfl rfl ?_
  simp only [argEnv, Nat.reduceAdd]
  refine SatC.seq ?_
  refine SatC.region ?_
  refine SatL.pu (RunV.assign rfl) rfl ?_
  refine SatL.nil (SatE.thenC ?_)
  refine SatC.seq ?_
  refine SatC.seq ?_
  refine SatC.region ?_
  refine SatL.pu (RunV.assign rfl) rfl ?_
  refine SatL.nil (SatE.thenC ?_)
  refine SatC.block ?_
  refine SatC.loopK (G := Nat) (V := fun i => [(5, .int .i64 (i : Int))]) (Cn := [(0, _), (1, _), (4, _)]) (I := fun i w' => i ≤ l.length ∧ (∀ j y, j < i → l[j]? = some y → ¬ y = x) ∧ St w [] [] w') (μ := fun i => l.length - i) 0 ?_ (by repeat constructor) ?_
  · exact ⟨Nat.zero_le _, fun j y h => by omega, hS⟩
  clear hS
  rintro i w1 ⟨hi, hf, hS⟩
  refine SatC.weak (e' := [(0, _), (1, _), (4, _), (5, _)]) (by repeat constructor) ?_
  refine SatC.seq ?_
  refine SatC.seq ?_
  refine SatC.region ?_
  refine SatL.pu (RunV.move rfl) rfl ?_
  refine SatL.pu (RunV.move rfl) rfl ?_
  first | refine SatL.pu (RunV.lenR (by assumption) rfl rfl) rfl ?_ | refine SatL.pu (RunV.lenS rfl rfl) rfl ?_
  refine SatL.pu (RunV.lss rfl rfl) rfl ?_
  refine SatL.nil (SatE.thenC ?_)
  refine SatC.cond rfl (fun h1 => ?_) (fun h1 => ?_)
  · (try simp only [cx, ne_eq] at h1)
    try (exfalso; (first | omega | exact h1 trivial | contradiction); done)
    all_goals
    refine SatC.skip (SatE.thenC ?_)
    refine SatC.seq ?_
    refine SatC.block ?_
    refine SatC.seq ?_
    obtain ⟨y, hy⟩ := get_some l i (by omega)
    refine SatC.region ?_
    refine SatL.pu (RunV.move rfl) rfl ?_
    refine SatL.pu (RunV.move rfl) rfl ?_
    first | refine SatL.pu (RunV.indexR (by assumption) rfl rfl rfl (by omega) (by omega) rfl) rfl ?_ | refine SatL.pu (RunV.indexS rfl rfl rfl (by omega) (by omega) rfl) rfl ?_
    first | refine SatL.pu (RunV.loadR1z (RdC.st (by assumption) hS List.not_mem_nil) rfl rfl (by first | assumption | exact map_get (by assumption)) rfl) rfl ?_ | refine SatL.pu (RunV.loadR1z (Sl.rd (by assumption) hS (by repeat constructor)) rfl rfl (by first | assumption | exact map_get (by assumption)) rfl) rfl ?_
    refine SatL.pu (RunV.move rfl) rfl ?_
    refine SatL.pu (RunV.seql rfl rfl) rfl ?_
    refine SatL.nil (SatE.thenC ?_)
    refine SatC.cond rfl (fun h2 => ?_) (fun h2 => ?_)
    · (try simp only [cx, ne_eq] at h2)
      try (exfalso; (first | omega | exact h2 trivial | contradiction); done)
      all_goals
      refine SatC.seq ?_
      refine SatC.region ?_
      refine SatL.pu (RunV.assign rfl) rfl ?_
      refine SatL.nil (SatE.thenC ?_)
      refine SatC.ret (SatE.blk_ret (SatE.then_ret (SatE.then_ret (SatE.blk_ret (SatE.then_ret ?_)))))
      refine SatE.ret1 rfl rfl ?_
      refine ⟨congrArg Value.bool (decide_eq_true ?_).symm, hS⟩
      rw [← (by assumption : y = x)]
      exact List.mem_of_getElem? hy
    · (try simp only [cx, ne_eq] at h2)
      try (exfalso; (first | omega | exact h2 trivial | contradiction); done)
      all_goals
      refine SatC.skip (SatE.blk_normal (SatE.thenC ?_))
      refine SatC.region ?_
      refine SatL.pu (RunV.move rfl) rfl ?_
      refine SatL.pu (RunV.add rfl rfl (by first | exact wrapI64 (by omega) | rfl)) rfl ?_
      refine SatL.pu (RunV.assign rfl) rfl ?_
      refine SatL.nil ?_
      refine SatE.again (i + 1) ?_ (by first | omega | (dsimp only; omega)) (by repeat constructor)
      refine ⟨by omega, fun j z hj hz => ?_, hS⟩
      rcases Nat.lt_or_ge j i with h' | h'
      · exact hf j z h' hz
      · obtain rfl : j = i := by omega
        rw [hy] at hz
        obtain rfl := Option.some.inj hz
        assumption
  · (try simp only [cx, ne_eq] at h1)
    try (exfalso; (first | omega | exact h1 trivial | contradiction); done)
    all_goals
    refine SatC.exit (SatE.then_exit (SatE.then_exit (SatE.blk_exit (SatE.thenC ?_))))
    refine SatC.seq ?_
    refine SatC.region ?_
    refine SatL.pu (RunV.assign rfl) rfl ?_
    refine SatL.nil (SatE.thenC ?_)
    refine SatC.ret ?_
    refine SatE.ret1 rfl rfl ?_
    refine ⟨congrArg Value.bool (decide_eq_false (fun h => ?_)).symm, hS⟩
    obtain ⟨j, hj⟩ := List.getElem?_of_mem h
    exact hf j x (by have := (List.getElem?_eq_some_iff.1 hj).1; omega) hj rfl
theorem rwithout_any (v : Value) (l : List Tx) (x : Tx) (w : World) (hr : RdRow w v 1 (l.map rs)) (hl : l.length ≤ 1000) : Ret Try.prog 30 #[v, str x] w fun u w' => ∃ B, Sl 9 1 u ((l.filter fun y => decide (¬ y = x)).map rs) B ∧ St w [] B w' := by
  have hS := St.init0 w
  obtain ⟨b1, o1, c1, hv1, hmax1, hc1, hlt1⟩ := hr.open
  simp only [List.length_map] at hv1 hmax1 hlt1
  refine Ret.enter Try.func30 Try.ntmps30 rfl rfl ?_
  simp only [argEnv, Nat.reduceAdd]
  refine SatC.seq ?_
  refine SatC.region ?_
  refine SatL.pu (RunV.assign rfl) rfl ?_
  refine SatL.nil (SatE.thenC ?_)
  refine SatC.seq ?_
  refine SatC.region ?_
  refine SatL.pu (RunV.assign rfl) rfl ?_
  refine SatL.nil (SatE.thenC ?_)
  refine SatC.seq ?_
  refine SatC.seq ?_
  refine SatC.region ?_
  refine SatL.pu (RunV.assign rfl) rfl ?_
  refine SatL.nil (SatE.thenC ?_)
  refine SatC.block ?_
  refine SatC.loopK (G := Nat × Value × List (Nat × Obj)) (V := fun ⟨i, v, B⟩ => [(6, .int .i64 (i : Int)), (5, v)]) (Cn := [(0, _), (1, _), (4, _)]) (I := fun ⟨i, v, B⟩ w' => i ≤ l.length ∧ Sl 9 1 v (((l.take i).filter fun y => decide (¬ y = x)).map rs) B ∧ St w [] B w') (μ := fun ⟨i, v, B⟩ => l.length - i) (0, .slice none 0 0, []) ?_ (by repeat constructor) ?_
  · exact ⟨Nat.zero_le _, .nil, hS⟩
  clear hS
  rintro ⟨i, v, B⟩ w1 ⟨hi, hsl, hS⟩
  refine SatC.weak (e' := [(0, _), (1, _), (4, _), (5, _), (6, _)]) (by repeat constructor) ?_
  refine SatC.seq ?_
  refine SatC.seq ?_
  refine SatC.region ?_
  refine SatL.pu (RunV.move rfl) rfl ?_
  refine SatL.pu (RunV.move rfl) rfl ?_
  first | refine SatL.pu (RunV.lenR (by assumption) rfl rfl) rfl ?_ | refine SatL.pu (RunV.lenS rfl rfl) rfl ?_
  refine SatL.pu (RunV.lss rfl rfl) rfl ?_
  refine SatL.nil (SatE.thenC ?_)
  refine SatC.cond rfl (fun h1 => ?_) (fun h1 => ?_)
  · (try simp only [cx, ne_eq] at h1)
    try (exfalso; (first | omega | exact h1 trivial | contradiction); done)
    all_goals
    refine SatC.skip (SatE.thenC ?_)
    refine SatC.seq ?_
    refine SatC.block ?_
    refine SatC.seq ?_
    obtain ⟨y, hy⟩ := get_some l i (by omega)
    have hnx : (l.take (i + 1)).filter (fun y => decide (¬ y = x)) = (l.take i).filter (fun y => decide (¬ y = x)) ++ (if y = x then [] else [y]) := by
      rw [List.take_add_one, hy, List.filter_append]
      by_cases e : y = x <;> simp [e]
    have hlf : ((l.take i).filter fun y => decide (¬ y = x)).length ≤ 1000 := Nat.le_trans (List.length_filter_le ..) (by rw [List.length_take]; omega)
    refine SatC.region ?_
    refine SatL.pu (RunV.move rfl) rfl ?_
    refine SatL.pu (RunV.move rfl) rfl ?_
    first | refine SatL.pu (RunV.indexR (by assumption) rfl rfl rfl (by omega) (by omega) rfl) rfl ?_ | refine SatL.pu (RunV.indexS rfl rfl rfl (by omega) (by omega) rfl) rfl ?_
    first | refine SatL.pu (RunV.loadR1z (RdC.st (by assumption) hS List.not_mem_nil) rfl rfl (by first | assumption | exact map_get (by assumption)) rfl) rfl ?_ | refine SatL.pu (RunV.loadR1z (Sl.rd (by assumption) hS (by repeat constructor)) rfl rfl (by first | assumption | exact map_get (by assumption)) rfl) rfl ?_
    refine SatL.pu (RunV.move rfl) rfl ?_
    refine SatL.pu (RunV.sneq rfl rfl) rfl ?_
    refine SatL.nil (SatE.thenC ?_)
    refine SatC.cond rfl (fun h2 => ?_) (fun h2 => ?_)
    · (try simp only [cx, ne_eq] at h2)
      try (exfalso; (first | omega | exact h2 trivial | contradiction); done)
      all_goals
      refine SatC.region ?_
      refine SatL.pu (RunV.move rfl) rfl ?_
      refine SatL.pu (RunV.move rfl) rfl ?_
      refine SatL.pu (RunV.move rfl) rfl ?_
      first | refine SatL.pu (RunV.indexR (by assumption) rfl rfl rfl (by omega) (by omega) rfl) rfl ?_ | refine SatL.pu (RunV.indexS rfl rfl rfl (by omega) (by omega) rfl) rfl ?_
      first | refine SatL.pu (RunV.loadR1z (RdC.st (by assumption) hS List.not_mem_nil) rfl rfl (by first | assumption | exact map_get (by assumption)) rfl) rfl ?_ | refine SatL.pu (RunV.loadR1z (Sl.rd (by assumption) hS (by repeat constructor)) rfl rfl (by first | assumption | exact map_get (by assumption)) rfl) rfl ?_
      refine SatL.op rfl (OpW.buildSlice1 hS rfl rfl rfl rfl rfl (by repeat constructor) rfl rfl rfl ?_)
      clear hS
      intro b24 w2 _ hS
      refine SatL.op rfl (OpW.append1 (by assumption) hS (by repeat constructor) rfl rfl (by repeat constructor) rfl rfl rfl rfl rfl rfl rfl rfl (by first | omega | (simp only [List.length_map]; omega)) rfl ?_)
      clear hS
      intro v25 B25 w3 hsl25 hS
      refine SatL.pu (RunV.assign rfl) rfl ?_
      refine SatL.nil (SatE.blk_normal (SatE.thenC ?_))
      refine SatC.weak (e' := [(0, _), (1, _), (4, _), (5, _), (6, _)]) (by repeat constructor) ?_
      refine SatC.region ?_
      refine SatL.pu (RunV.move rfl) rfl ?_
      refine SatL.pu (RunV.add rfl rfl (by first | exact wrapI64 (by omega) | rfl)) rfl ?_
      refine SatL.pu (RunV.assign rfl) rfl ?_
      refine SatL.nil ?_
      refine SatE.again ((i + 1, v25, B25)) ?_ (by first | omega | (dsimp only; omega)) (by repeat constructor)
      refine ⟨by omega, ?_, hS.sel (by repeat constructor)⟩
      rw [hnx, if_neg (by assumption), List.map_append]
      exact hsl25
    · (try simp only [cx, ne_eq] at h2)
      try (exfalso; (first | omega | exact h2 trivial | contradiction); done)
      all_goals
      refine SatC.skip (SatE.blk_normal (SatE.thenC ?_))
      refine SatC.region ?_
      refine SatL.pu (RunV.move rfl) rfl ?_
      refine SatL.pu (RunV.add rfl rfl (by first | exact wrapI64 (by omega) | rfl)) rfl ?_
      refine SatL.pu (RunV.assign rfl) rfl ?_
      refine SatL.nil ?_
      refine SatE.again ((i + 1, v, B)) ?_ (by first | omega | (dsimp only; omega)) (by repeat constructor)
      refine ⟨by omega, ?_, hS⟩
      rw [hnx, if_pos (by assumption), List.append_nil]
      exact hsl
  · (try simp only [cx, ne_eq] at h1)
    try (exfalso; (first | omega | exact h1 trivial | contradiction); done)
    all_goals
    refine SatC.exit (SatE.then_exit (SatE.then_exit (SatE.blk_exit (SatE.thenC ?_))))
    refine SatC.seq ?_
    refine SatC.region ?_
    refine SatL.pu (RunV.move rfl) rfl ?_
    refine SatL.pu (RunV.assign rfl) rfl ?_
    refine SatL.nil (SatE.thenC ?_)
    refine SatC.ret ?_
    refine SatE.ret1 rfl rfl ?_
    exact ⟨B, by rw [List.take_of_length_le (by omega)] at hsl; exact hsl, hS⟩
theorem rwith_any (v : Value) (l : List Tx) (x : Tx) (w : World) (hr : RdRow w v 1 (l.map rs)) (hl : l.length ≤ 1000) (hp : l.Pairwise (· < ·)) : Ret Try.prog 28 #[v, str x] w fun u w' => ∃ r B, SetOf r (x :: l) ∧ r.length ≤ l.length + 1 ∧ Sl 9 1 u (r.map rs) B ∧ St w [] B w' := by
  have hS := St.init0 w
  obtain ⟨b1, o1, c1, hv1, hmax1, hc1, hlt1⟩ := hr.open
  simp only [List.length_map] at hv1 hmax1 hlt1
  refine Ret.enter Try.func28 Try.ntmps28 rfl rfl ?_
  simp only [argEnv, Nat.reduceAdd]
  refine SatC.seq ?_
  refine SatC.region ?_
  refine SatL.pu (RunV.assign rfl) rfl ?_
  refine SatL.nil (SatE.thenC ?_)
  refine SatC.seq ?_
  refine SatC.region ?_
  refine SatL.pu (RunV.assign rfl) rfl ?_
  refine SatL.nil (SatE.thenC ?_)
  refine SatC.seq ?_
  refine SatC.region ?_
  refine SatL.pu (RunV.assign rfl) rfl ?_
  refine SatL.nil (SatE.thenC ?_)
  refine SatC.seq ?_
  refine SatC.seq ?_
  refine SatC.region ?_
  refine SatL.pu (RunV.assign rfl) rfl ?_
  refine SatL.nil (SatE.thenC ?_)
  refine SatC.block ?_
  refine SatC.loopK (G := Nat × Bool × List Tx × Value × List (Nat × Obj)) (V := fun ⟨i, d, r, v, B⟩ => [(7, .int .i64 (i : Int)), (6, .bool d), (5, v)]) (Cn := [(0, _), (1, _), (4, _)]) (I := fun ⟨i, d, r, v, B⟩ w' => i ≤ l.length ∧ WInv x (l.take i) d r ∧ r.length ≤ 2 * i ∧ Sl 9 1 v (r.map rs) B ∧ St w [] B w') (μ := fun ⟨i, d, r, v, B⟩ => l.length - i) (0, false, [], .slice none 0 0, []) ?_ (by repeat constructor) ?_
  · exact ⟨Nat.zero_le _, winv_nil x, Nat.le_refl _, .nil, hS⟩
  clear hS
  rintro ⟨i, d, r, v, B⟩ w1 ⟨hi, hw, hrl, hsl, hS⟩
  refine SatC.weak (e' := [(0, _), (1, _), (4, _), (5, _), (6, _), (7, _)]) (by repeat constructor) ?_
  refine SatC.seq ?_
  refine SatC.seq ?_
  refine SatC.region ?_
  refine SatL.pu (RunV.move rfl) rfl ?_
  refine SatL.pu (RunV.move rfl) rfl ?_
  first | refine SatL.pu (RunV.lenR (by assumption) rfl rfl) rfl ?_ | refine SatL.pu (RunV.lenS rfl rfl) rfl ?_
  refine SatL.pu (RunV.lss rfl rfl) rfl ?_
  refine SatL.nil (SatE.thenC ?_)
  refine SatC.cond rfl (fun h1 => ?_) (fun h1 => ?_)
  · (try simp only [cx, ne_eq] at h1)
    try (exfalso; (first | omega | exact h1 trivial | contradiction); done)
    all_goals
    refine SatC.skip (SatE.thenC ?_)
    refine SatC.seq ?_
    refine SatC.block ?_
    refine SatC.seq ?_
    refine SatC.seq ?_
    obtain ⟨y, hy⟩ := get_some l i (by omega)
    have hnx : l.take (i + 1) = l.take i ++ [y] := by rw [List.take_add_one, hy]; rfl
    have hlast : ∀ z ∈ l.take i, z < y := take_lt hp hy
    refine SatC.region ?_
    refine SatL.pu (RunV.move rfl) rfl ?_
    refine SatL.pu (RunV.move rfl) rfl ?_
    first | refine SatL.pu (RunV.indexR (by assumption) rfl rfl rfl (by omega) (by omega) rfl) rfl ?_ | refine SatL.pu (RunV.indexS rfl rfl rfl (by omega) (by omega) rfl) rfl ?_
    first | refine SatL.pu (RunV.loadR1z (RdC.st (by assumption) hS List.not_mem_nil) rfl rfl (by first | assumption | exact map_get (by assumption)) rfl) rfl ?_ | refine SatL.pu (RunV.loadR1z (Sl.rd (by assumption) hS (by repeat constructor)) rfl rfl (by first | assumption | exact map_get (by assumption)) rfl) rfl ?_
    refine SatL.pu (RunV.move rfl) rfl ?_
    refine SatL.pu (RunV.seql rfl rfl) rfl ?_
    refine SatL.nil (SatE.thenC ?_)
    refine SatC.cond rfl (fun h2 => ?_) (fun h2 => ?_)
    · (try simp only [cx, ne_eq] at h2)
      try (exfalso; (first | omega | exact h2 trivial | contradiction); done)
      all_goals
      refine SatC.region ?_
      refine SatL.pu (RunV.assign rfl) rfl ?_
      refine SatL.nil (SatE.thenC ?_)
      refine SatC.seq ?_
      refine SatC.seq ?_
      refine SatC.region ?_
      refine SatL.pu (RunV.move rfl) rfl ?_
      refine SatL.pu (RunV.not rfl) rfl ?_
      refine SatL.pu (RunV.move rfl) rfl ?_
      refine SatL.guard_n rfl rfl rfl rfl ?_
      refine SatL.guard_n rfl rfl rfl rfl ?_
      refine SatL.guard_n rfl rfl rfl rfl ?_
      refine SatL.guard_n rfl rfl rfl rfl ?_
      refine SatL.guard_n rfl rfl rfl rfl ?_
      refine SatL.guard_n rfl rfl rfl rfl ?_
      refine SatL.pu (RunV.pick_f rfl rfl) rfl ?_
      refine SatL.nil (SatE.thenC ?_)
      refine SatC.weak (e' := [(0, _), (1, _), (4, _), (5, _), (6, _), (7, _), (29, _)]) (by repeat constructor) ?_
      refine SatC.cond_f rfl ?_
      refine SatC.skip (SatE.thenC ?_)
      refine SatC.region ?_
      refine SatL.pu (RunV.move rfl) rfl ?_
      refine SatL.pu (RunV.move rfl) rfl ?_
      refine SatL.pu (RunV.move rfl) rfl ?_
      first | refine SatL.pu (RunV.indexR (by assumption) rfl rfl rfl (by omega) (by omega) rfl) rfl ?_ | refine SatL.pu (RunV.indexS rfl rfl rfl (by omega) (by omega) rfl) rfl ?_
      first | refine SatL.pu (RunV.loadR1z (RdC.st (by assumption) hS List.not_mem_nil) rfl rfl (by first | assumption | exact map_get (by assumption)) rfl) rfl ?_ | refine SatL.pu (RunV.loadR1z (Sl.rd (by assumption) hS (by repeat constructor)) rfl rfl (by first | assumption | exact map_get (by assumption)) rfl) rfl ?_
      refine SatL.op rfl (OpW.buildSlice1 hS rfl rfl rfl rfl rfl (by repeat constructor) rfl rfl rfl ?_)
      clear hS
      intro b39 w2 _ hS
      refine SatL.op rfl (OpW.append1 (by assumption) hS (by repeat constructor) rfl rfl (by repeat constructor) rfl rfl rfl rfl rfl rfl rfl rfl (by first | omega | (simp only [List.length_map, List.length_append, List.length_cons, List.length_nil]; omega)) rfl ?_)
      clear hS
      intro v40 B40 w3 hsl40 hS
      refine SatL.pu (RunV.assign rfl) rfl ?_
      refine SatL.nil (SatE.blk_normal (SatE.thenC ?_))
      refine SatC.region ?_
      refine SatL.pu (RunV.move rfl) rfl ?_
      refine SatL.pu (RunV.add rfl rfl (by first | exact wrapI64 (by omega) | rfl)) rfl ?_
      refine SatL.pu (RunV.assign rfl) rfl ?_
      refine SatL.nil ?_
      first
      | exact SatE.again (i + 1, true, r ++ [y], v40, B40) ⟨by omega, by rw [hnx]; exact winv_eq hw hlast (by assumption), by simp only [List.length_append, List.length_cons, List.length_nil]; omega, by rw [List.map_append]; exact hsl40, hS.sel (by repeat constructor)⟩ (by dsimp only; omega) (by repeat constructor)
      | (obtain rfl : d = false := by assumption
         exact SatE.again (i + 1, true, r ++ [x] ++ [y], v40, B40) ⟨by omega, by rw [hnx]; exact winv_put hw hlast (by assumption), by simp only [List.length_append, List.length_cons, List.length_nil]; omega, by rw [List.map_append, List.map_append]; exact hsl40, hS.sel (by repeat constructor)⟩ (by dsimp only; omega) (by repeat constructor))
      | exact SatE.again (i + 1, d, r ++ [y], v40, B40) ⟨by omega, by rw [hnx]; exact winv_on hw hlast (by assumption) (by first | exact .inl (by assumption) | exact .inr (by assumption)), by simp only [List.length_append, List.length_cons, List.length_nil]; omega, by rw [List.map_append]; exact hsl40, hS.sel (by repeat constructor)⟩ (by dsimp only; omega) (by repeat constructor)
    · (try simp only [cx, ne_eq] at h2)
      try (exfalso; (first | omega | exact h2 trivial | contradiction); done)
      all_goals
      refine SatC.skip (SatE.thenC ?_)
      refine SatC.seq ?_
      refine SatC.seq ?_
      refine SatC.region ?_
      refine SatL.pu (RunV.move rfl) rfl ?_
      refine SatL.pu (RunV.not rfl) rfl ?_
      refine SatL.pu (RunV.move rfl) rfl ?_
      refine SatL.guard rfl rfl rfl (fun h3 => ?_) (fun h3 => ?_)
      · (try simp only [cx, ne_eq] at h3)
        try (exfalso; (first | omega | exact h3 trivial | contradiction); done)
        all_goals
        refine SatL.pu (RunV.move rfl) rfl ?_
        refine SatL.guard_y rfl rfl ?_
        refine SatL.pu (RunV.move rfl) rfl ?_
        refine SatL.guard_y rfl rfl ?_
        first | refine SatL.pu (RunV.indexR (by assumption) rfl rfl rfl (by omega) (by omega) rfl) rfl ?_ | refine SatL.pu (RunV.indexS rfl rfl rfl (by omega) (by omega) rfl) rfl ?_
        refine SatL.guard_y rfl rfl ?_
        first | refine SatL.pu (RunV.loadR1z (RdC.st (by assumption) hS List.not_mem_nil) rfl rfl (by first | assumption | exact map_get (by assumption)) rfl) rfl ?_ | refine SatL.pu (RunV.loadR1z (Sl.rd (by assumption) hS (by repeat constructor)) rfl rfl (by first | assumption | exact map_get (by assumption)) rfl) rfl ?_
        refine SatL.guard_y rfl rfl ?_
        refine SatL.pu (RunV.move rfl) rfl ?_
        refine SatL.guard_y rfl rfl ?_
        refine SatL.pu (RunV.sgtr rfl rfl) rfl ?_
        refine SatL.pu (RunV.pick_t rfl rfl) rfl ?_
        refine SatL.nil (SatE.thenC ?_)
        refine SatC.weak (e' := [(0, _), (1, _), (4, _), (5, _), (6, _), (7, _), (29, _)]) (by repeat constructor) ?_
        refine SatC.cond rfl (fun h4 => ?_) (fun h4 => ?_)
        · (try simp only [cx, ne_eq] at h4)
          try (exfalso; (first | omega | exact h4 trivial | contradiction); done)
          all_goals
          refine SatC.seq ?_
          refine SatC.region ?_
          refine SatL.pu (RunV.move rfl) rfl ?_
          refine SatL.pu (RunV.move rfl) rfl ?_
          refine SatL.op rfl (OpW.buildSlice1 hS rfl rfl rfl rfl rfl (by repeat constructor) rfl rfl rfl ?_)
          clear hS
          intro b32 w2 _ hS
          refine SatL.op rfl (OpW.append1 (by assumption) hS (by repeat constructor) rfl rfl (by repeat constructor) rfl rfl rfl rfl rfl rfl rfl rfl (by first | omega | (simp only [List.length_map, List.length_append, List.length_cons, List.length_nil]; omega)) rfl ?_)
          clear hS
          intro v33 B33 w3 hsl33 hS
          refine SatL.pu (RunV.assign rfl) rfl ?_
          refine SatL.nil (SatE.thenC ?_)
          refine SatC.region ?_
          refine SatL.pu (RunV.assign rfl) rfl ?_
          refine SatL.nil (SatE.thenC ?_)
          refine SatC.region ?_
          refine SatL.pu (RunV.move rfl) rfl ?_
          refine SatL.pu (RunV.move rfl) rfl ?_
          refine SatL.pu (RunV.move rfl) rfl ?_
          first | refine SatL.pu (RunV.indexR (by assumption) rfl rfl rfl (by omega) (by omega) rfl) rfl ?_ | refine SatL.pu (RunV.indexS rfl rfl rfl (by omega) (by omega) rfl) rfl ?_
          first | refine SatL.pu (RunV.loadR1z (RdC.st (by assumption) hS List.not_mem_nil) rfl rfl (by first | assumption | exact map_get (by assumption)) rfl) rfl ?_ | refine SatL.pu (RunV.loadR1z (Sl.rd (by assumption) hS (by repeat constructor)) rfl rfl (by first | assumption | exact map_get (by assumption)) rfl) rfl ?_
          refine SatL.op rfl (OpW.buildSlice1 hS rfl rfl rfl rfl rfl (by repeat constructor) rfl rfl rfl ?_)
          clear hS
          intro b39 w4 _ hS
          refine SatL.op rfl (OpW.append1 (by assumption) hS (by repeat constructor) rfl rfl (by repeat constructor) rfl rfl rfl rfl rfl rfl rfl rfl (by first | omega | (simp only [List.length_map, List.length_append, List.length_cons, List.length_nil]; omega)) rfl ?_)
          clear hS
          intro v40 B40 w5 hsl40 hS
          refine SatL.pu (RunV.assign rfl) rfl ?_
          refine SatL.nil (SatE.blk_normal (SatE.thenC ?_))
          refine SatC.weak (e' := [(0, _), (1, _), (4, _), (5, _), (6, _), (7, _)]) (by repeat constructor) ?_
          refine SatC.region ?_
          refine SatL.pu (RunV.move rfl) rfl ?_
          refine SatL.pu (RunV.add rfl rfl (by first | exact wrapI64 (by omega) | rfl)) rfl ?_
          refine SatL.pu (RunV.assign rfl) rfl ?_
          refine SatL.nil ?_
          first
          | exact SatE.again (i + 1, true, r ++ [y], v40, B40) ⟨by omega, by rw [hnx]; exact winv_eq hw hlast (by assumption), by simp only [List.length_append, List.length_cons, List.length_nil]; omega, by rw [List.map_append]; exact hsl40, hS.sel (by repeat constructor)⟩ (by dsimp only; omega) (by repeat constructor)
          | (obtain rfl : d = false := by assumption
             exact SatE.again (i + 1, true, r ++ [x] ++ [y], v40, B40) ⟨by omega, by rw [hnx]; exact winv_put hw hlast (by assumption), by simp only [List.length_append, List.length_cons, List.length_nil]; omega, by rw [List.map_append, List.map_append]; exact hsl40, hS.sel (by repeat constructor)⟩ (by dsimp only; omega) (by repeat constructor))
          | exact SatE.again (i + 1, d, r ++ [y], v40, B40) ⟨by omega, by rw [hnx]; exact winv_on hw hlast (by assumption) (by first | exact .inl (by assumption) | exact .inr (by assumption)), by simp only [List.length_append, List.length_cons, List.length_nil]; omega, by rw [List.map_append]; exact hsl40, hS.sel (by repeat constructor)⟩ (by dsimp only; omega) (by repeat constructor)
        · (try simp only [cx, ne_eq] at h4)
          try (exfalso; (first | omega | exact h4 trivial | contradiction); done)
          all_goals
          refine SatC.skip (SatE.thenC ?_)
          refine SatC.region ?_
          refine SatL.pu (RunV.move rfl) rfl ?_
          refine SatL.pu (RunV.move rfl) rfl ?_
          refine SatL.pu (RunV.move rfl) rfl ?_
          first | refine SatL.pu (RunV.indexR (by assumption) rfl rfl rfl (by omega) (by omega) rfl) rfl ?_ | refine SatL.pu (RunV.indexS rfl rfl rfl (by omega) (by omega) rfl) rfl ?_
          first | refine SatL.pu (RunV.loadR1z (RdC.st (by assumption) hS List.not_mem_nil) rfl rfl (by first | assumption | exact map_get (by assumption)) rfl) rfl ?_ | refine SatL.pu (RunV.loadR1z (Sl.rd (by assumption) hS (by repeat constructor)) rfl rfl (by first | assumption | exact map_get (by assumption)) rfl) rfl ?_
          refine SatL.op rfl (OpW.buildSlice1 hS rfl rfl rfl rfl rfl (by repeat constructor) rfl rfl rfl ?_)
          clear hS
          intro b39 w2 _ hS
          refine SatL.op rfl (OpW.append1 (by assumption) hS (by repeat constructor) rfl rfl (by repeat constructor) rfl rfl rfl rfl rfl rfl rfl rfl (by first | omega | (simp only [List.length_map, List.length_append, List.length_cons, List.length_nil]; omega)) rfl ?_)
          clear hS
          intro v40 B40 w3 hsl40 hS
          refine SatL.pu (RunV.assign rfl) rfl ?_
          refine SatL.nil (SatE.blk_normal (SatE.thenC ?_))
          refine SatC.region ?_
          refine SatL.pu (RunV.move rfl) rfl ?_
          refine SatL.pu (RunV.add rfl rfl (by first | exact wrapI64 (by omega) | rfl)) rfl ?_
          refine SatL.pu (RunV.assign rfl) rfl ?_
          refine SatL.nil ?_
          first
          | exact SatE.again (i + 1, true, r ++ [y], v40, B40) ⟨by omega, by rw [hnx]; exact winv_eq hw hlast (by assumption), by simp only [List.length_append, List.length_cons, List.length_nil]; omega, by rw [List.map_append]; exact hsl40, hS.sel (by repeat constructor)⟩ (by dsimp only; omega) (by repeat constructor)
          | (obtain rfl : d = false := by assumption
             exact SatE.again (i + 1, true, r ++ [x] ++ [y], v40, B40) ⟨by omega, by rw [hnx]; exact winv_put hw hlast (by assumption), by simp only [List.length_append, List.length_cons, List.length_nil]; omega, by rw [List.map_append, List.map_append]; exact hsl40, hS.sel (by repeat constructor)⟩ (by dsimp only; omega) (by repeat constructor))
          | exact SatE.again (i + 1, d, r ++ [y], v40, B40) ⟨by omega, by rw [hnx]; exact winv_on hw hlast (by assumption) (by first | exact .inl (by assumption) | exact .inr (by assumption)), by simp only [List.length_append, List.length_cons, List.length_nil]; omega, by rw [List.map_append]; exact hsl40, hS.sel (by repeat constructor)⟩ (by dsimp only; omega) (by repeat constructor)
      · (try simp only [cx, ne_eq] at h3)
        try (exfalso; (first | omega | exact h3 trivial | contradiction); done)
        all_goals
        refine SatL.guard_n rfl rfl rfl rfl ?_
        refine SatL.guard_n rfl rfl rfl rfl ?_
        refine SatL.guard_n rfl rfl rfl rfl ?_
        refine SatL.guard_n rfl rfl rfl rfl ?_
        refine SatL.guard_n rfl rfl rfl rfl ?_
        refine SatL.pu (RunV.pick_f rfl rfl) rfl ?_
        refine SatL.nil (SatE.thenC ?_)
        refine SatC.weak (e' := [(0, _), (1, _), (4, _), (5, _), (6, _), (7, _), (29, _)]) (by repeat constructor) ?_
        refine SatC.cond_f rfl ?_
        refine SatC.skip (SatE.thenC ?_)
        refine SatC.region ?_
        refine SatL.pu (RunV.move rfl) rfl ?_
        refine SatL.pu (RunV.move rfl) rfl ?_
        refine SatL.pu (RunV.move rfl) rfl ?_
        first | refine SatL.pu (RunV.indexR (by assumption) rfl rfl rfl (by omega) (by omega) rfl) rfl ?_ | refine SatL.pu (RunV.indexS rfl rfl rfl (by omega) (by omega) rfl) rfl ?_
        first | refine SatL.pu (RunV.loadR1z (RdC.st (by assumption) hS List.not_mem_nil) rfl rfl (by first | assumption | exact map_get (by assumption)) rfl) rfl ?_ | refine SatL.pu (RunV.loadR1z (Sl.rd (by assumption) hS (by repeat constructor)) rfl rfl (by first | assumption | exact map_get (by assumption)) rfl) rfl ?_
        refine SatL.op rfl (OpW.buildSlice1 hS rfl rfl rfl rfl rfl (by repeat constructor) rfl rfl rfl ?_)
        clear hS
        intro b39 w2 _ hS
        refine SatL.op rfl (OpW.append1 (by assumption) hS (by repeat constructor) rfl rfl (by repeat constructor) rfl rfl rfl rfl rfl rfl rfl rfl (by first | omega | (simp only [List.length_map, List.length_append, List.length_cons, List.length_nil]; omega)) rfl ?_)
        clear hS
        intro v40 B40 w3 hsl40 hS
        refine SatL.pu (RunV.assign rfl) rfl ?_
        refine SatL.nil (SatE.blk_normal (SatE.thenC ?_))
        refine SatC.region ?_
        refine SatL.pu (RunV.move rfl) rfl ?_
        refine SatL.pu (RunV.add rfl rfl (by first | exact wrapI64 (by omega) | rfl)) rfl ?_
        refine SatL.pu (RunV.assign rfl) rfl ?_
        refine SatL.nil ?_
        first
        | exact SatE.again (i + 1, true, r ++ [y], v40, B40) ⟨by omega, by rw [hnx]; exact winv_eq hw hlast (by assumption), by simp only [List.length_append, List.length_cons, List.length_nil]; omega, by rw [List.map_append]; exact hsl40, hS.sel (by repeat constructor)⟩ (by dsimp only; omega) (by repeat constructor)
        | (obtain rfl : d = false := by assumption
           exact SatE.again (i + 1, true, r ++ [x] ++ [y], v40, B40) ⟨by omega, by rw [hnx]; exact winv_put hw hlast (by assumption), by simp only [List.length_append, List.length_cons, List.length_nil]; omega, by rw [List.map_append, List.map_append]; exact hsl40, hS.sel (by repeat constructor)⟩ (by dsimp only; omega) (by repeat constructor))
        | exact SatE.again (i + 1, d, r ++ [y], v40, B40) ⟨by omega, by rw [hnx]; exact winv_on hw hlast (by assumption) (by first | exact .inl (by assumption) | exact .inr (by assumption)), by simp only [List.length_append, List.length_cons, List.length_nil]; omega, by rw [List.map_append]; exact hsl40, hS.sel (by repeat constructor)⟩ (by dsimp only; omega) (by repeat constructor)
  · (try simp only [cx, ne_eq] at h1)
    try (exfalso; (first | omega | exact h1 trivial | contradiction); done)
    all_goals
    refine SatC.exit (SatE.then_exit (SatE.then_exit (SatE.blk_exit (SatE.thenC ?_))))
    refine SatC.seq ?_
    refine SatC.seq ?_
    rw [List.take_of_length_le (by omega)] at hw
    refine SatC.region ?_
    refine SatL.pu (RunV.move rfl) rfl ?_
    refine SatL.pu (RunV.not rfl) rfl ?_
    refine SatL.nil (SatE.thenC ?_)
    refine SatC.cond rfl (fun h2 => ?_) (fun h2 => ?_)
    · (try simp only [cx, ne_eq] at h2)
      try (exfalso; (first | omega | exact h2 trivial | contradiction); done)
      all_goals
      refine SatC.region ?_
      refine SatL.pu (RunV.move rfl) rfl ?_
      refine SatL.pu (RunV.move rfl) rfl ?_
      refine SatL.op rfl (OpW.buildSlice1 hS rfl rfl rfl rfl rfl (by repeat constructor) rfl rfl rfl ?_)
      clear hS
      intro b45 w2 _ hS
      refine SatL.op rfl (OpW.append1 (by assumption) hS (by repeat constructor) rfl rfl (by repeat constructor) rfl rfl rfl rfl rfl rfl rfl rfl (by first | omega | (simp only [List.length_map, List.length_append, List.length_cons, List.length_nil]; omega)) rfl ?_)
      clear hS
      intro v46 B46 w3 hsl46 hS
      refine SatL.pu (RunV.assign rfl) rfl ?_
      refine SatL.nil (SatE.thenC ?_)
      refine SatC.seq ?_
      refine SatC.weak (e' := [(4, _), (5, _)]) (by repeat constructor) ?_
      refine SatC.region ?_
      refine SatL.pu (RunV.move rfl) rfl ?_
      refine SatL.pu (RunV.assign rfl) rfl ?_
      refine SatL.nil (SatE.thenC ?_)
      refine SatC.ret ?_
      refine SatE.ret1 rfl rfl ?_
      first
      | (obtain rfl : d = true := by assumption
         exact ⟨r, B, winv_end hw, set_len (winv_end hw), hsl, hS⟩)
      | (obtain rfl : d = false := by assumption
         exact ⟨r ++ [x], B46, winv_end0 hw, set_len (winv_end0 hw), by rw [List.map_append]; exact hsl46, hS.sel (by repeat constructor)⟩)
    · (try simp only [cx, ne_eq] at h2)
      try (exfalso; (first | omega | exact h2 trivial | contradiction); done)
      all_goals
      refine SatC.skip (SatE.thenC ?_)
      refine SatC.seq ?_
      refine SatC.region ?_
      refine SatL.pu (RunV.move rfl) rfl ?_
      refine SatL.pu (RunV.assign rfl) rfl ?_
      refine SatL.nil (SatE.thenC ?_)
      refine SatC.ret ?_
      refine SatE.ret1 rfl rfl ?_
      first
      | (obtain rfl : d = true := by assumption
         exact ⟨r, B, winv_end hw, set_len (winv_end hw), hsl, hS⟩)
      | (obtain rfl : d = false := by assumption
         exact ⟨r ++ [x], B46, winv_end0 hw, set_len (winv_end0 hw), by rw [List.map_append]; exact hsl46, hS.sel (by repeat constructor)⟩)
theorem rsorted_any (v : Value) (l : List Tx) (w : World) (hr : RdRow w v 1 (l.map rs)) (hl : l.length ≤ 900) : Ret Try.prog 23 #[v] w fun u w' => ∃ r B, SetOf r l ∧ Sl 9 1 u (r.map rs) B ∧ St w [] B w' := by
  have hS := St.init0 w
  obtain ⟨b1, o1, c1, hv1, hmax1, hc1, hlt1⟩ := hr.open
  simp only [List.length_map] at hv1 hmax1 hlt1
  refine Ret.enter Try.func23 Try.ntmps23 rfl rfl ?_
  simp only [argEnv, Nat.reduceAdd]
  refine SatC.seq ?_
  refine SatC.region ?_
  refine SatL.pu (RunV.assign rfl) rfl ?_
  refine SatL.nil (SatE.thenC ?_)
  refine SatC.seq ?_
  refine SatC.region ?_
  refine SatL.pu (RunV.assign rfl) rfl ?_
  refine SatL.nil (SatE.thenC ?_)
  refine SatC.seq ?_
  refine SatC.seq ?_
  refine SatC.region ?_
  refine SatL.pu (RunV.assign rfl) rfl ?_
  refine SatL.nil (SatE.thenC ?_)
  refine SatC.block ?_
  refine SatC.loopK (G := Nat × List Tx × Value × List (Nat × Obj)) (V := fun ⟨i, r, v, B⟩ => [(4, .int .i64 (i : Int)), (3, v)]) (Cn := [(0, _), (2, _)]) (I := fun ⟨i, r, v, B⟩ w' => i ≤ l.length ∧ SetOf r (l.take i) ∧ Sl 9 1 v (r.map rs) B ∧ St w [] B w') (μ := fun ⟨i, r, v, B⟩ => l.length - i) (0, [], .slice none 0 0, []) ?_ (by repeat constructor) ?_
  · exact ⟨Nat.zero_le _, ⟨List.Pairwise.nil, fun x => Iff.rfl⟩, .nil, hS⟩
  clear hS
  rintro ⟨i, r, v, B⟩ w1 ⟨hi, hset, hsl, hS⟩
  refine SatC.weak (e' := [(0, _), (2, _), (3, _), (4, _)]) (by repeat constructor) ?_
  refine SatC.seq ?_
  refine SatC.seq ?_
  refine SatC.region ?_
  refine SatL.pu (RunV.move rfl) rfl ?_
  refine SatL.pu (RunV.move rfl) rfl ?_
  first | refine SatL.pu (RunV.lenR (by assumption) rfl rfl) rfl ?_ | refine SatL.pu (RunV.lenS rfl rfl) rfl ?_
  refine SatL.pu (RunV.lss rfl rfl) rfl ?_
  refine SatL.nil (SatE.thenC ?_)
  refine SatC.cond rfl (fun h1 => ?_) (fun h1 => ?_)
  · (try simp only [cx, ne_eq] at h1)
    try (exfalso; (first | omega | exact h1 trivial | contradiction); done)
    all_goals
    refine SatC.skip (SatE.thenC ?_)
    refine SatC.seq ?_
    refine SatC.block ?_
    obtain ⟨y, hy⟩ := get_some l i (by omega)
    have hnx : l.take (i + 1) = l.take i ++ [y] := by rw [List.take_add_one, hy]; rfl
    have hrl := set_len hset
    rw [List.length_take] at hrl
    refine SatC.region ?_
    refine SatL.pu (RunV.move rfl) rfl ?_
    refine SatL.pu (RunV.move rfl) rfl ?_
    refine SatL.pu (RunV.move rfl) rfl ?_
    first | refine SatL.pu (RunV.indexR (by assumption) rfl rfl rfl (by omega) (by omega) rfl) rfl ?_ | refine SatL.pu (RunV.indexS rfl rfl rfl (by omega) (by omega) rfl) rfl ?_
    first | refine SatL.pu (RunV.loadR1z (RdC.st (by assumption) hS List.not_mem_nil) rfl rfl (by first | assumption | exact map_get (by assumption)) rfl) rfl ?_ | refine SatL.pu (RunV.loadR1z (Sl.rd (by assumption) hS (by repeat constructor)) rfl rfl (by first | assumption | exact map_get (by assumption)) rfl) rfl ?_
    refine SatL.op rfl (OpW.enter rfl rfl rfl (rfl) (rwith_any _ r y _ (Sl.row hsl hS (by repeat constructor) (by simp only [List.length_map]; omega)) (by omega) hset.1) ?_)
    rintro r2 w2 ⟨r2, B2, hset2, hl2, hsl2, h⟩
    replace hS := hS.call0 h
    refine SatL.pu (RunV.assign rfl) rfl ?_
    refine SatL.nil (SatE.blk_normal (SatE.thenC ?_))
    refine SatC.region ?_
    refine SatL.pu (RunV.move rfl) rfl ?_
    refine SatL.pu (RunV.add rfl rfl (by first | exact wrapI64 (by omega) | rfl)) rfl ?_
    refine SatL.pu (RunV.assign rfl) rfl ?_
    refine SatL.nil ?_
    refine SatE.again ((i + 1, r2, _, B2)) ?_ (by first | omega | (dsimp only; omega)) (by repeat constructor)
    refine ⟨by omega, ⟨hset2.1, fun z => ?_⟩, hsl2, hS.sel (by repeat constructor)⟩
    rw [hset2.2, hnx, List.mem_cons, hset.2, List.mem_append, List.mem_singleton, or_comm]
  · (try simp only [cx, ne_eq] at h1)
    try (exfalso; (first | omega | exact h1 trivial | contradiction); done)
    all_goals
    refine SatC.exit (SatE.then_exit (SatE.then_exit (SatE.blk_exit (SatE.thenC ?_))))
    refine SatC.seq ?_
    refine SatC.region ?_
    refine SatL.pu (RunV.move rfl) rfl ?_
    refine SatL.pu (RunV.assign rfl) rfl ?_
    refine SatL.nil (SatE.thenC ?_)
    refine SatC.ret ?_
    refine SatE.ret1 rfl rfl ?_
    exact ⟨r, B, by rw [List.take_of_length_le (by omega)] at hset; exact hset, hsl, hS⟩
theorem kept_any {σ : Type} {f : FuncId} {cap : List Value} (A : σ → List (Nat × Obj)) (X : List Nat) (hX : ∀ s, (A s).map Prod.fst = X) (yes : σ → Tx → Bool) (nxt : σ → Tx → σ) (s0 : σ) (v : Value) (l : List Tx) (w : World) (hown : Own w (A s0)) (hr : RdRow w v 1 (l.map rs)) (hn : ∀ b o c, SlV v b o l.length c → 0 < l.length → ¬ b ∈ X) (hl : l.length ≤ 1000) (hf : enters Try.prog f = true)
    (hy : ∀ s c w, Own w (A s) → Ret Try.prog f (([] ++ [str c] ++ cap : List Value)).toArray w fun u w' => u = .bool (yes s c) ∧ St w X (A (nxt s c)) w') :
    Ret Try.prog 40 #[v, .func (.func f) #[] cap.toArray] w fun u w' => ∃ B, Sl 9 1 u ((keepL yes nxt s0 l).1.map rs) B ∧ St w X (B ++ A (keepL yes nxt s0 l).2) w' := by
  have hS := St.init hown
  rw [hX] at hS
  obtain ⟨b1, o1, c1, hv1, hmax1, hc1, hlt1⟩ := hr.open
  simp only [List.length_map] at hv1 hmax1 hlt1
  have hb1 : 0 < l.length → ¬ b1 ∈ X := hn b1 o1 c1 hv1
  refine Ret.enter Try.func40 Try.ntmps40 rfl rfl ?_
  simp only [argEnv, Nat.reduceAdd]
  refine SatC.seq ?_
  refine SatC.region ?_
  refine SatL.pu (RunV.assign rfl) rfl ?_
  refine SatL.nil (SatE.thenC ?_)
  refine SatC.seq ?_
  refine SatC.region ?_
  refine SatL.pu (RunV.assign rfl) rfl ?_
  refine SatL.nil (SatE.thenC ?_)
  refine SatC.seq ?_
  refine SatC.seq ?_
  refine SatC.region ?_
  refine SatL.pu (RunV.move rfl) rfl ?_
  first | refine SatL.pu (RunV.lenR (by assumption) rfl rfl) rfl ?_ | refine SatL.pu (RunV.lenS rfl rfl) rfl ?_
  refine SatL.pu (RunV.move rfl) rfl ?_
  refine SatL.nil (SatE.thenC ?_)
  refine SatC.block ?_
  refine SatC.loopK (G := Nat × Value × List (Nat × Obj)) (V := fun ⟨i, u, B⟩ => [(10, .int .i64 (i : Int)), (5, u)]) (Cn := [(1, _), (4, _), (8, _), (9, _)]) (I := fun ⟨i, u, B⟩ w' => i ≤ l.length ∧ Sl 9 1 u ((keepL yes nxt s0 (l.take i)).1.map rs) B ∧ St w X (B ++ A (keepL yes nxt s0 (l.take i)).2) w') (μ := fun ⟨i, u, B⟩ => l.length - i) (0, .slice none 0 0, []) ?_ (by repeat constructor) ?_
  · exact ⟨Nat.zero_le _, .nil, hS⟩
  clear hS
  rintro ⟨i, u, B⟩ w1 ⟨hi, hsl, hS⟩
  refine SatC.weak (e' := [(1, _), (4, _), (5, _), (8, _), (9, _), (10, _)]) (by repeat constructor) ?_
  refine SatC.seq ?_
  refine SatC.region ?_
  refine SatL.pu (RunV.lss rfl rfl) rfl ?_
  refine SatL.nil (SatE.thenC ?_)
  refine SatC.seq ?_
  refine SatC.cond rfl (fun h1 => ?_) (fun h1 => ?_)
  · (try simp only [cx, ne_eq] at h1)
    try (exfalso; (first | omega | exact h1 trivial | contradiction); done)
    all_goals
    refine SatC.skip (SatE.thenC ?_)
    refine SatC.seq ?_
    refine SatC.block ?_
    refine SatC.seq ?_
    obtain ⟨y, hyy⟩ := get_some l i (by omega)
    have hnx : l.take (i + 1) = l.take i ++ [y] := by rw [List.take_add_one, hyy]; rfl
    have hsn := keepL_snoc yes nxt y (l.take i) s0
    rw [← hnx] at hsn
    have hkl := keepL_len yes nxt (l.take i) s0
    rw [List.length_take] at hkl
    have hown2 : Own _ (A (keepL yes nxt s0 (l.take i)).2) := hS.ownOf (.app .all)
    have hcall := hy (keepL yes nxt s0 (l.take i)).2 y _ hown2
    refine SatC.region ?_
    first | refine SatL.pu (RunV.indexR (by assumption) rfl rfl rfl (by omega) (by omega) rfl) rfl ?_ | refine SatL.pu (RunV.indexS rfl rfl rfl (by omega) (by omega) rfl) rfl ?_
    first | refine SatL.pu (RunV.loadR1z (RdC.st (by assumption) hS (hb1 (by omega))) rfl rfl (by first | assumption | exact map_get (by assumption)) rfl) rfl ?_ | refine SatL.pu (RunV.loadR1z (Sl.rd (by assumption) hS (by repeat constructor)) rfl rfl (by first | assumption | exact map_get (by assumption)) rfl) rfl ?_
    refine SatL.pu (RunV.assign rfl) rfl ?_
    refine SatL.nil (SatE.thenC ?_)
    refine SatC.seq ?_
    refine SatC.region ?_
    refine SatL.pu (RunV.move rfl) rfl ?_
    refine SatL.pu (RunV.move rfl) rfl ?_
    refine SatL.op rfl (OpW.enterF (fs := []) (cap := cap) rfl rfl rfl (hf) (hcall) ?_)
    rintro r2 w2 ⟨rfl, h⟩
    replace hS := hS.callT (A := A (keepL yes nxt s0 (l.take i)).2) (.whole (.app .all)) (by rw [hX]; exact h)
    refine SatL.nil (SatE.thenC ?_)
    refine SatC.cond rfl (fun h2 => ?_) (fun h2 => ?_)
    · (try simp only [cx, ne_eq] at h2)
      try (exfalso; (first | omega | exact h2 trivial | contradiction); done)
      all_goals
      refine SatC.region ?_
      refine SatL.pu (RunV.move rfl) rfl ?_
      refine SatL.pu (RunV.move rfl) rfl ?_
      refine SatL.op rfl (OpW.buildSlice1 hS rfl rfl rfl rfl rfl (by repeat constructor) rfl rfl rfl ?_)
      clear hS
      intro b19 w3 _ hS
      refine SatL.op rfl (OpW.append1 (by assumption) hS (by repeat constructor) rfl rfl (by repeat constructor) rfl rfl rfl rfl rfl rfl rfl rfl (by first | omega | (simp only [List.length_map]; omega)) rfl ?_)
      clear hS
      intro v20 B20 w4 hsl20 hS
      refine SatL.pu (RunV.assign rfl) rfl ?_
      refine SatL.nil (SatE.blk_normal (SatE.thenC ?_))
      refine SatC.region ?_
      refine SatL.pu (RunV.add rfl rfl (by first | exact wrapI64 (by omega) | rfl)) rfl ?_
      refine SatL.pu (RunV.move rfl) rfl ?_
      refine SatL.nil ?_
      refine SatE.again ((i + 1, v20, B20)) ?_ (by first | omega | (dsimp only; omega)) (by repeat constructor)
      refine ⟨by omega, by rw [hsn, h2, List.map_append]; exact hsl20, ?_⟩
      rw [hsn]
      rw [List.append_nil] at hS
      exact hS.sub ((List.Sublist.refl _).append (List.sublist_cons_self _ _))
    · (try simp only [cx, ne_eq] at h2)
      try (exfalso; (first | omega | exact h2 trivial | contradiction); done)
      all_goals
      refine SatC.skip (SatE.blk_normal (SatE.thenC ?_))
      refine SatC.region ?_
      refine SatL.pu (RunV.add rfl rfl (by first | exact wrapI64 (by omega) | rfl)) rfl ?_
      refine SatL.pu (RunV.move rfl) rfl ?_
      refine SatL.nil ?_
      refine SatE.again ((i + 1, u, B)) ?_ (by first | omega | (dsimp only; omega)) (by repeat constructor)
      refine ⟨by omega, by rw [hsn, h2, cond_false, List.append_nil]; exact hsl, ?_⟩
      rw [hsn]
      first | (rw [List.append_nil] at hS; exact hS.perm List.perm_append_comm) | exact hS.perm List.perm_append_comm
  · (try simp only [cx, ne_eq] at h1)
    try (exfalso; (first | omega | exact h1 trivial | contradiction); done)
    all_goals
    refine SatC.exit (SatE.then_exit (SatE.then_exit (SatE.blk_exit (SatE.thenC ?_))))
    refine SatC.seq ?_
    refine SatC.region ?_
    refine SatL.pu (RunV.move rfl) rfl ?_
    refine SatL.pu (RunV.assign rfl) rfl ?_
    refine SatL.nil (SatE.thenC ?_)
    refine SatC.ret ?_
    refine SatE.ret1 rfl rfl ?_
    rw [List.take_of_length_le (by omega)] at hsl hS; exact ⟨B, hsl, hS⟩
theorem keepS_any {b5 b4 : Nat} (s : Bool × Tx) (c : Tx) (w : World) (hown : Own w [(b5, C 4 [.bool s.1]), (b4, C 9 [str s.2])]) : Ret Try.prog 41 #[str c, .pointer (some ⟨b5, 0, none⟩), .pointer (some ⟨b4, 0, none⟩)] w fun u w' => u = .bool (yesS s c) ∧ St w [b5, b4] [(b5, C 4 [.bool (nxtS s c).1]), (b4, C 9 [str (nxtS s c).2])] w' := by
  have hS := St.init hown
  simp only [List.map_cons, List.map_nil] at hS
  obtain ⟨s1, s2⟩ := s
  refine Ret.enter Try.func41 Try.ntmps41 rfl rfl ?_
  simp only [argEnv, Nat.reduceAdd]
  refine SatC.seq ?_
  refine SatC.region ?_
  refine SatL.pu (RunV.assign rfl) rfl ?_
  refine SatL.nil (SatE.thenC ?_)
  refine SatC.seq ?_
  refine SatC.region ?_
  refine SatL.pu (RunV.load1 hS rfl rfl (by repeat constructor) rfl) rfl ?_
  refine SatL.pu (RunV.not rfl) rfl ?_
  refine SatL.pu (RunV.move rfl) rfl ?_
  refine SatL.guard rfl rfl rfl (fun h1 => ?_) (fun h1 => ?_)
  · (try simp only [cx, ne_eq] at h1)
    try (exfalso; (first | omega | exact h1 trivial | contradiction); done)
    all_goals
    refine SatL.pu (RunV.move rfl) rfl ?_
    refine SatL.guard_y rfl rfl ?_
    refine SatL.pu (RunV.load1 hS rfl rfl (by repeat constructor) rfl) rfl ?_
    refine SatL.guard_y rfl rfl ?_
    refine SatL.pu (RunV.sneq rfl rfl) rfl ?_
    refine SatL.pu (RunV.pick_f rfl rfl) rfl ?_
    refine SatL.pu (RunV.assign rfl) rfl ?_
    refine SatL.nil (SatE.thenC ?_)
    refine SatC.seq ?_
    refine SatC.region ?_
    refine SatL.pu (RunV.move rfl) rfl ?_
    refine SatL.op rfl (OpW.store hS rfl rfl (by repeat constructor) (by repeat constructor) (by repeat constructor) rfl rfl ?_)
    clear hS
    intro w1 hS
    refine SatL.op rfl (OpW.store hS rfl rfl (by repeat constructor) (by repeat constructor) (by repeat constructor) rfl rfl ?_)
    clear hS
    intro w2 hS
    refine SatL.nil (SatE.thenC ?_)
    refine SatC.seq ?_
    refine SatC.region ?_
    refine SatL.pu (RunV.move rfl) rfl ?_
    refine SatL.pu (RunV.assign rfl) rfl ?_
    refine SatL.nil (SatE.thenC ?_)
    refine SatC.ret ?_
    refine SatE.ret1 rfl rfl ?_
    exact ⟨congrArg Value.bool (by simp_all [yesS]), hS.sel (by repeat constructor)⟩
  · (try simp only [cx, ne_eq] at h1)
    try (exfalso; (first | omega | exact h1 trivial | contradiction); done)
    all_goals
    refine SatL.guard_n rfl rfl rfl rfl ?_
    refine SatL.guard_n rfl rfl rfl rfl ?_
    refine SatL.pu (RunV.pick_t rfl rfl) rfl ?_
    refine SatL.pu (RunV.assign rfl) rfl ?_
    refine SatL.nil (SatE.thenC ?_)
    refine SatC.seq ?_
    refine SatC.region ?_
    refine SatL.pu (RunV.move rfl) rfl ?_
    refine SatL.op rfl (OpW.store hS rfl rfl (by repeat constructor) (by repeat constructor) (by repeat constructor) rfl rfl ?_)
    clear hS
    intro w1 hS
    refine SatL.op rfl (OpW.store hS rfl rfl (by repeat constructor) (by repeat constructor) (by repeat constructor) rfl rfl ?_)
    clear hS
    intro w2 hS
    refine SatL.nil (SatE.thenC ?_)
    refine SatC.seq ?_
    refine SatC.region ?_
    refine SatL.pu (RunV.move rfl) rfl ?_
    refine SatL.pu (RunV.assign rfl) rfl ?_
    refine SatL.nil (SatE.thenC ?_)
    refine SatC.ret ?_
    refine SatE.ret1 rfl rfl ?_
    exact ⟨congrArg Value.bool (by simp_all [yesS]), hS.sel (by repeat constructor)⟩
theorem keepX_any {b3 : Nat} (x c : Tx) (w : World) (hown : Own w [(b3, C 9 [str x])]) : Ret Try.prog 43 #[str c, .pointer (some ⟨b3, 0, none⟩)] w fun u w' => u = .bool (decide (¬ c = x)) ∧ St w [b3] [(b3, C 9 [str x])] w' := by
  have hS := St.init hown
  simp only [List.map_cons, List.map_nil] at hS
  refine Ret.enter Try.func43 Try.ntmps43 rfl rfl ?_
  simp only [argEnv, Nat.reduceAdd]
  refine SatC.seq ?_
  refine SatC.region ?_
  refine SatL.pu (RunV.assign rfl) rfl ?_
  refine SatL.nil (SatE.thenC ?_)
  refine SatC.seq ?_
  refine SatC.region ?_
  refine SatL.pu (RunV.move rfl) rfl ?_
  refine SatL.pu (RunV.load1 hS rfl rfl (by repeat constructor) rfl) rfl ?_
  refine SatL.pu (RunV.sneq rfl rfl) rfl ?_
  refine SatL.pu (RunV.assign rfl) rfl ?_
  refine SatL.nil (SatE.thenC ?_)
  refine SatC.ret ?_
  refine SatE.ret1 rfl rfl ?_
  exact ⟨rfl, hS.sel (by repeat constructor)⟩
theorem without_any (v : Value) (l : List Tx) (x : Tx) (w : World) (hr : RdRow w v 1 (l.map rs)) (hl : l.length ≤ 1000) : Ret Try.prog 29 #[v, str x] w fun u w' => ∃ B, Sl 9 1 u ((l.filter fun y => decide (¬ y = x)).map rs) B ∧ St w [] B w' := by
  have hS := St.init0 w
  obtain ⟨bl, ol, cl, hvl, hmaxl, hcl, hltl⟩ := hr.open
  simp only [List.length_map] at hvl hmaxl hltl
  refine Ret.enter Try.func29 Try.ntmps29 rfl rfl ?_
  simp only [argEnv, Nat.reduceAdd]
  refine SatC.seq ?_
  refine SatC.region ?_
  refine SatL.op rfl (OpW.box hS rfl rfl (by repeat constructor) ?_)
  clear hS
  intro b3 w1 _ hS
  refine SatL.pu (RunV.assign rfl) rfl ?_
  refine SatL.nil (SatE.thenC ?_)
  refine SatC.seq ?_
  refine SatC.region ?_
  refine SatL.pu (RunV.move rfl) rfl ?_
  refine SatL.pu (RunV.mkFunc rfl) rfl ?_
  refine SatL.op rfl (OpW.enter rfl rfl rfl (rfl) (kept_any (f := 43) (cap := [.pointer (some ⟨b3, 0, none⟩)]) (fun _ : Unit => [(b3, C 9 [str x])]) [b3] (fun _ => rfl) (fun _ c => decide (¬ c = x)) (fun s _ => s) () v l _ (hS.ownT (by repeat constructor)) (RdRow.st hr hS) (fun b o c hb h0 hm => by have := slv_blk hvl hb h0; have := hltl h0; simp only [List.mem_cons, List.not_mem_nil, or_false] at hm; omega) hl rfl (fun s c w ho => keepX_any x c w ho)) ?_)
  rintro r2 w2 ⟨B2, hsl2, h⟩
  replace hS := hS.callT (A := [(b3, C 9 [str x])]) (by repeat constructor) h
  refine SatL.pu (RunV.assign rfl) rfl ?_
  refine SatL.nil (SatE.thenC ?_)
  refine SatC.ret ?_
  refine SatE.ret1 rfl rfl ?_
  rw [keep_filter] at hsl2; exact ⟨B2, hsl2, by rw [List.append_nil] at hS; exact hS.sub (List.sublist_append_left _ _)⟩
theorem sorted_any (v : Value) (l : List Tx) (w : World) (hr : RdRow w v 1 (l.map rs)) (hl : l.length ≤ 900) : Ret Try.prog 22 #[v] w fun u w' => ∃ r B, SetOf r l ∧ Sl 9 1 u (r.map rs) B ∧ St w [] B w' := by
  have hS := St.init0 w
  obtain ⟨bl, ol, cl, hvl, hmaxl, hcl, hltl⟩ := hr.open
  simp only [List.length_map] at hvl hmaxl hltl
  refine Ret.enter Try.func22 Try.ntmps22 rfl rfl ?_
  simp only [argEnv, Nat.reduceAdd]
  refine SatC.seq ?_
  refine SatC.region ?_
  refine SatL.pu (RunV.assign rfl) rfl ?_
  refine SatL.nil (SatE.thenC ?_)
  refine SatC.seq ?_
  refine SatC.region ?_
  refine SatL.op rfl (OpW.buildSlice0 hS rfl rfl rfl ?_)
  clear hS
  intro v6 b6 w1 _ hsl6 hv6 hS
  refine SatL.pu (RunV.move rfl) rfl ?_
  refine SatL.op rfl (OpW.appendN hsl6 hS (by repeat constructor) hvl (hcl.st hS List.not_mem_nil) (by rw [List.length_map]) rfl rfl rfl rfl rfl rfl rfl (tx_one l) (by simp only [List.length_nil]; omega) rfl ?_)
  clear hS
  intro v8 B8 w2 hsl8 hS
  rw [List.nil_append] at hsl8
  refine SatL.pu (RunV.assign rfl) rfl ?_
  refine SatL.nil (SatE.thenC ?_)
  refine SatC.seq ?_
  refine SatC.region ?_
  refine SatL.pu (RunV.move rfl) rfl ?_
  refine SatL.op rfl (OpW.enter rfl rfl rfl (rfl) (sort_any l hsl8 (hS.ownOf .here) (by omega)) ?_)
  rintro r3 w3 ⟨rfl, B9, hsl9, h⟩
  replace hS := hS.callT (A := B8) (.whole .here) h
  refine SatL.nil (SatE.thenC ?_)
  refine SatC.seq ?_
  have hsl9' := hsl9
  have hslen : (srt l).length = l.length := by simp [srt]
  refine SatC.region ?_
  refine SatL.op rfl (OpW.alloc hS rfl rfl (by repeat constructor) ?_)
  clear hS
  intro b4 w4 _ hS
  refine SatL.op rfl (OpW.alloc hS rfl rfl (by repeat constructor) ?_)
  clear hS
  intro b5 w5 _ hS
  refine SatL.op rfl (OpW.store hS rfl rfl (by repeat constructor) (by repeat constructor) (by repeat constructor) rfl rfl ?_)
  clear hS
  intro w6 hS
  refine SatL.op rfl (OpW.store hS rfl rfl (by repeat constructor) (by repeat constructor) (by repeat constructor) rfl rfl ?_)
  clear hS
  intro w7 hS
  refine SatL.nil (SatE.thenC ?_)
  refine SatC.seq ?_
  have hrow := Sl.row hsl9 hS (by repeat constructor) (by simp only [List.length_map]; omega)
  have hne : ∀ h0 : 0 < (srt l).length, ¬ blk B9 ∈ [b5, b4] := fun h0 hm => by
    have hbm := hsl9.blk_mem (by rw [List.length_map]; exact h0)
    have hnd := hS.nd
    simp only [List.map_cons, List.map_append, List.nodup_cons, List.mem_cons, List.mem_append, not_or] at hnd
    simp only [List.mem_cons, List.not_mem_nil, or_false] at hm
    rcases hm with hm | hm
    · rw [hm] at hbm; exact hnd.1.2.1 hbm
    · rw [hm] at hbm; exact hnd.2.1.1 hbm
  obtain ⟨c9, hv9⟩ := hsl9.slv
  rw [List.length_map] at hv9
  refine SatC.region ?_
  refine SatL.pu (RunV.move rfl) rfl ?_
  refine SatL.pu (RunV.mkFunc rfl) rfl ?_
  refine SatL.op rfl (OpW.enter rfl rfl rfl (rfl) (kept_any (f := 41) (cap := [.pointer (some ⟨b5, 0, none⟩), .pointer (some ⟨b4, 0, none⟩)]) (fun s : Bool × Tx => [(b5, C 4 [.bool s.1]), (b4, C 9 [str s.2])]) [b5, b4] (fun _ => rfl) yesS nxtS (false, []) _ (srt l) _ (hS.ownT (by repeat constructor)) hrow (fun b o c hb h0 hm => hne h0 (by rw [slv_blk hv9 hb h0]; exact hm)) (by omega) rfl (fun s c w ho => keepS_any s c w ho)) ?_)
  rintro r8 w8 ⟨B2, hsl2, h⟩
  replace hS := hS.callT (A := [(b5, C 4 [.bool false]), (b4, C 9 [str []])]) (by repeat constructor) h
  refine SatL.pu (RunV.assign rfl) rfl ?_
  refine SatL.nil (SatE.thenC ?_)
  refine SatC.ret ?_
  refine SatE.ret1 rfl rfl ?_
  exact ⟨_, B2, srt_set l, hsl2, by rw [List.append_assoc] at hS; exact hS.sub (List.sublist_append_left _ _)⟩
theorem with_any (v : Value) (l : List Tx) (x : Tx) (w : World) (hr : RdRow w v 1 (l.map rs)) (hl : l.length ≤ 800) : Ret Try.prog 27 #[v, str x] w fun u w' => ∃ r B, SetOf r (x :: l) ∧ Sl 9 1 u (r.map rs) B ∧ St w [] B w' := by
  have hS := St.init0 w
  obtain ⟨bl, ol, cl, hvl, hmaxl, hcl, hltl⟩ := hr.open
  simp only [List.length_map] at hvl hmaxl hltl
  refine Ret.enter Try.func27 Try.ntmps27 rfl rfl ?_
  simp only [argEnv, Nat.reduceAdd]
  refine SatC.seq ?_
  refine SatC.region ?_
  refine SatL.pu (RunV.assign rfl) rfl ?_
  refine SatL.nil (SatE.thenC ?_)
  refine SatC.seq ?_
  refine SatC.region ?_
  refine SatL.op rfl (OpW.buildSlice0 hS rfl rfl rfl ?_)
  clear hS
  intro v5 b5 w1 _ hsl5 hv5 hS
  refine SatL.pu (RunV.move rfl) rfl ?_
  refine SatL.op rfl (OpW.appendN hsl5 hS (by repeat constructor) hvl (hcl.st hS List.not_mem_nil) (by rw [List.length_map]) rfl rfl rfl rfl rfl rfl rfl (tx_one l) (by simp only [List.length_nil]; omega) rfl ?_)
  clear hS
  intro v7 B7 w2 hsl7 hS
  rw [List.nil_append] at hsl7
  refine SatL.pu (RunV.move rfl) rfl ?_
  refine SatL.op rfl (OpW.buildSlice1 hS rfl rfl rfl rfl rfl (by repeat constructor) rfl rfl rfl ?_)
  clear hS
  intro b9 w3 _ hS
  refine SatL.op rfl (OpW.append1 hsl7 hS (by repeat constructor) rfl rfl (by repeat constructor) rfl rfl rfl rfl rfl rfl rfl rfl (by simp only [List.length_map]; omega) rfl ?_)
  clear hS
  intro v10 B10 w4 hsl10 hS
  refine SatL.op rfl (OpW.enter rfl rfl rfl (rfl) (sorted_any _ (l ++ [x]) _ (Sl.row (by rw [List.map_append]; exact hsl10) hS (by repeat constructor) (by simp only [List.length_map, List.length_append, List.length_cons, List.length_nil]; omega)) (by simp only [List.length_append, List.length_cons, List.length_nil]; omega)) ?_)
  rintro r5 w5 ⟨r, B2, hset, hsl2, h⟩
  replace hS := hS.call0 h
  refine SatL.pu (RunV.assign rfl) rfl ?_
  refine SatL.nil (SatE.thenC ?_)
  refine SatC.ret ?_
  refine SatE.ret1 rfl rfl ?_
  exact ⟨r, B2, ⟨hset.1, fun z => by rw [hset.2, List.mem_append, List.mem_singleton, List.mem_cons, or_comm]⟩, hsl2, hS.sub (List.sublist_append_left _ _)⟩
theorem sasks_any {b2 b3 : Nat} (v : Value) (l : List Tx) (x : Tx) (w w1 : World) (hr : RdRow w v 1 (l.map rs)) (k : Nat) (hk : k < l.length) (hn : ∀ b o c, SlV v b o l.length c → 0 < l.length → ¬ b ∈ [b3, b2])
    (hw : St w [b3, b2] [(b3, C 9 [str x]), (b2, C 25 [v])] w1) : Ret Try.prog 48 #[.int .i64 (k : Int), .pointer (some ⟨b2, 0, none⟩), .pointer (some ⟨b3, 0, none⟩)] w1 fun u w' => u = .bool (((l[k]?).map fun (y : Tx) => decide (¬ y < x)).getD false) ∧ St w1 [] [] w' := by
  have hS := St.init hw.toOwn
  simp only [List.map_cons, List.map_nil] at hS
  obtain ⟨bl, ol, cl, hvl, hmaxl, hcl0, hltl⟩ := hr.open
  simp only [List.length_map] at hvl hmaxl hltl
  have hnb := hn bl ol cl hvl (by omega)
  have hcl := hcl0.st hw hnb
  obtain ⟨y, hy⟩ := get_some l k hk
  refine Ret.enter Try.func48 Try.ntmps48 rfl rfl ?_
  simp only [argEnv, Nat.reduceAdd]
  refine SatC.seq ?_
  refine SatC.region ?_
  refine SatL.pu (RunV.assign rfl) rfl ?_
  refine SatL.nil (SatE.thenC ?_)
  refine SatC.seq ?_
  refine SatC.drawnT 7 hS (hS) (by kernel_rfl) ?_
  clear hS
  intro w1 hh hS hD
  refine SatD.tk 0 rfl hD (fun _ hw => RunV.load1 hw rfl rfl (by repeat constructor) rfl) ?_
  refine SatD.tk 1 rfl hD (fun _ hw => RunV.move rfl) ?_
  first | refine SatD.tk 2 rfl hD (fun _ hw => RunV.indexR (by assumption) rfl rfl rfl (by omega) (by omega) rfl) ?_ | refine SatD.tk 2 rfl hD (fun _ hw => RunV.indexS rfl rfl rfl (by omega) (by omega) rfl) ?_
  first | refine SatD.tk 3 rfl hD (fun _ hw => RunV.loadR1z (RdC.st (by assumption) hw hnb) rfl rfl (by first | assumption | exact map_get (by assumption)) rfl) ?_ | refine SatD.tk 3 rfl hD (fun _ hw => RunV.loadR1z (Sl.rd (by assumption) hw (by repeat constructor)) rfl rfl (by first | assumption | exact map_get (by assumption)) rfl) ?_
  refine SatD.tk 4 rfl hD (fun _ hw => RunV.load1 hw rfl rfl (by repeat constructor) rfl) ?_
  refine SatD.tk 5 rfl hD (fun _ hw => RunV.sgeq rfl rfl) ?_
  refine SatD.tk 6 rfl hD (fun _ hw => RunV.assign rfl) ?_
  refine SatD.done 0 (by kernel_rfl) (SatE.thenC ?_)
  clear hD
  refine SatC.ret ?_
  refine SatE.ret1 rfl rfl ?_
  exact ⟨by rw [hy]; rfl, St.ro hw.toOwn hS .all⟩
theorem search_str (v : Value) (l : List Tx) (x : Tx) (w : World) (hr : RdRow w v 1 (l.map rs)) (hl : l.length ≤ 1000) : Ret Try.prog 42 #[v, str x] w fun u w' => ∃ k : Nat, SrAt (fun k => ((l[k]?).map fun (y : Tx) => decide (¬ y < x)).getD false) l.length k ∧ u = .int .i64 k ∧ St w [] [] w' := by
  have hS := St.init0 w
  obtain ⟨bl, ol, cl, hvl, hmaxl, hcl, hltl⟩ := hr.open
  simp only [List.length_map] at hvl hmaxl hltl
  refine Ret.enter Try.func42 Try.ntmps42 rfl rfl ?_
  simp only [argEnv, Nat.reduceAdd]
  have hone : v.oneCell' = true := by
    obtain ⟨A, rfl, _⟩ := hvl.eq
    rfl
  refine SatC.seq ?_
  refine SatC.region ?_
  refine SatL.op rfl (OpW.box hS rfl rfl (.one hone) ?_)
  clear hS
  intro b2 w1 _ hS
  refine SatL.op rfl (OpW.box hS rfl rfl (by repeat constructor) ?_)
  clear hS
  intro b3 w2 _ hS
  refine SatL.pu (RunV.assign rfl) rfl ?_
  refine SatL.nil (SatE.thenC ?_)
  refine SatC.seq ?_
  have hb3 : w.heap.size ≤ b3 := (hS.wr _ List.mem_cons_self).resolve_left (by simp)
  have hb2 : w.heap.size ≤ b2 := (hS.wr _ (List.mem_cons_of_mem _ List.mem_cons_self)).resolve_left (by simp)
  refine SatC.region ?_
  refine SatL.pu (RunV.load1 hS rfl rfl (by repeat constructor) rfl) rfl ?_
  first | refine SatL.pu (RunV.lenR (by assumption) rfl rfl) rfl ?_ | refine SatL.pu (RunV.lenS rfl rfl) rfl ?_
  refine SatL.pu (RunV.mkFunc rfl) rfl ?_
  refine SatL.op rfl (OpW.enter rfl rfl rfl (rfl) (search_any (f := 48) (cap := [.pointer (some ⟨b2, 0, none⟩), .pointer (some ⟨b3, 0, none⟩)]) [(b3, C 9 [str x]), (b2, C 25 [v])] (fun k => ((l[k]?).map fun (y : Tx) => decide (¬ y < x)).getD false) l.length (by omega) hS.toOwn rfl (fun k w1 hk ho => sasks_any v l x _ w1 (RdRow.st hr hS) k hk (fun b o c hb h0 hm => by have := slv_blk hvl hb h0; have := hltl h0; simp only [List.mem_cons, List.not_mem_nil, or_false] at hm; omega) ho)) ?_)
  rintro r3 w3 ⟨k, hsr, rfl, h⟩
  replace hS := St.callN hS h
  refine SatL.pu (RunV.assign rfl) rfl ?_
  refine SatL.nil (SatE.thenC ?_)
  refine SatC.ret ?_
  refine SatE.ret1 rfl rfl ?_
  exact ⟨k, hsr, rfl, hS.sub (List.nil_sublist _)⟩
theorem sr_has {l : List Tx} {x : Tx} {k : Nat} (hp : l.Pairwise (· < ·)) (h : SrAt (fun k => ((l[k]?).map fun (y : Tx) => decide (¬ y < x)).getD false) l.length k) : (k < l.length ∧ l[k]? = some x) ↔ x ∈ l := by
  constructor
  · rintro ⟨_, h2⟩
    exact List.mem_of_getElem? h2
  · intro hx
    obtain ⟨j, hj⟩ := List.getElem?_of_mem hx
    have hjl := (List.getElem?_eq_some_iff.1 hj).1
    obtain ⟨h1, h2, h3⟩ := h
    have hk : k = j := by
      rcases Nat.lt_trichotomy k j with hh | hh | hh
      · obtain ⟨y, hy⟩ := get_some l k (by omega)
        have := h3 (by omega)
        dsimp only at this
        rw [hy] at this
        simp only [Option.map_some, Option.getD_some, decide_eq_true_eq] at this
        have hlt := List.pairwise_iff_getElem.1 hp k j (by omega) hjl hh
        rw [(List.getElem?_eq_some_iff.1 hj).2, (List.getElem?_eq_some_iff.1 hy).2] at hlt
        exact absurd hlt this
      · exact hh
      · obtain ⟨y, hy⟩ := get_some l (k - 1) (by omega)
        have := h2 (by omega)
        dsimp only at this
        rw [hy] at this
        simp only [Option.map_some, Option.getD_some, decide_eq_false_iff_not, Classical.not_not] at this
        rcases Nat.lt_or_ge j (k - 1) with h4 | h4
        · have hlt := List.pairwise_iff_getElem.1 hp j (k - 1) hjl (by omega) h4
          rw [(List.getElem?_eq_some_iff.1 hj).2, (List.getElem?_eq_some_iff.1 hy).2] at hlt
          exact absurd hlt (lt_asym this)
        · obtain rfl : j = k - 1 := by omega
          rw [hj] at hy
          obtain rfl := Option.some.inj hy
          exact absurd this (lt_irr _)
    subst hk
    exact ⟨hjl, hj⟩
theorem has_any (v : Value) (l : List Tx) (x : Tx) (w : World) (hr : RdRow w v 1 (l.map rs)) (hl : l.length ≤ 1000) (hp : l.Pairwise (· < ·)) : Ret Try.prog 25 #[v, str x] w fun u w' => u = .bool (decide (x ∈ l)) ∧ St w [] [] w' := by
  have hS := St.init0 w
  obtain ⟨bl, ol, cl, hvl, hmaxl, hcl, hltl⟩ := hr.open
  simp only [List.length_map] at hvl hmaxl hltl
  refine Ret.enter Try.func25 Try.ntmps25 rfl rfl ?_
  simp only [argEnv, Nat.reduceAdd]
  refine SatC.seq ?_
  refine SatC.region ?_
  refine SatL.pu (RunV.assign rfl) rfl ?_
  refine SatL.nil (SatE.thenC ?_)
  refine SatC.seq ?_
  refine SatC.region ?_
  refine SatL.pu (RunV.move rfl) rfl ?_
  refine SatL.pu (RunV.move rfl) rfl ?_
  refine SatL.op rfl (OpW.enter rfl rfl rfl (rfl) (search_str v l x _ (RdRow.st hr hS) hl) ?_)
  rintro r1 w1 ⟨k, hsr, rfl, h⟩
  replace hS := St.callN hS h
  have hh := sr_has hp hsr
  have hg : k < l.length → l[(k : Int).toNat]? = some (l.getD k []) := fun h => by rw [Int.toNat_natCast]; simp [h]
  refine SatL.pu (RunV.assign rfl) rfl ?_
  refine SatL.nil (SatE.thenC ?_)
  refine SatC.seq ?_
  refine SatC.region ?_
  refine SatL.pu (RunV.move rfl) rfl ?_
  refine SatL.pu (RunV.move rfl) rfl ?_
  first | refine SatL.pu (RunV.lenR (by assumption) rfl rfl) rfl ?_ | refine SatL.pu (RunV.lenS rfl rfl) rfl ?_
  refine SatL.pu (RunV.lss rfl rfl) rfl ?_
  refine SatL.pu (RunV.move rfl) rfl ?_
  refine SatL.guard rfl rfl rfl (fun h1 => ?_) (fun h1 => ?_)
  · (try simp only [cx, ne_eq] at h1)
    try (exfalso; (first | omega | exact h1 trivial | contradiction); done)
    all_goals
    refine SatL.pu (RunV.move rfl) rfl ?_
    refine SatL.guard_y rfl rfl ?_
    refine SatL.pu (RunV.move rfl) rfl ?_
    refine SatL.guard_y rfl rfl ?_
    first | refine SatL.pu (RunV.indexR (by assumption) rfl rfl rfl (by omega) (by omega) rfl) rfl ?_ | refine SatL.pu (RunV.indexS rfl rfl rfl (by omega) (by omega) rfl) rfl ?_
    refine SatL.guard_y rfl rfl ?_
    refine SatL.pu (RunV.loadR1z (RdC.st hcl hS List.not_mem_nil) rfl rfl (map_get (hg (by omega))) rfl) rfl ?_
    refine SatL.guard_y rfl rfl ?_
    refine SatL.pu (RunV.move rfl) rfl ?_
    refine SatL.guard_y rfl rfl ?_
    refine SatL.pu (RunV.seql rfl rfl) rfl ?_
    refine SatL.pu (RunV.pick_t rfl rfl) rfl ?_
    refine SatL.pu (RunV.assign rfl) rfl ?_
    refine SatL.nil (SatE.thenC ?_)
    refine SatC.ret ?_
    refine SatE.ret1 rfl rfl ?_
    first
    | (refine ⟨congrArg Value.bool (decide_eq_decide.2 ?_), hS⟩
       rw [← hh]
       have := hg (by omega)
       rw [Int.toNat_natCast] at this
       rw [this, Option.some.injEq]
       exact ⟨fun e => ⟨by omega, e⟩, fun e => e.2⟩)
    | (refine ⟨congrArg Value.bool (decide_eq_false (fun e => ?_)).symm, hS⟩
       have := (hh.2 e).1
       omega)
  · (try simp only [cx, ne_eq] at h1)
    try (exfalso; (first | omega | exact h1 trivial | contradiction); done)
    all_goals
    refine SatL.guard_n rfl rfl rfl rfl ?_
    refine SatL.guard_n rfl rfl rfl rfl ?_
    refine SatL.guard_n rfl rfl rfl rfl ?_
    refine SatL.guard_n rfl rfl rfl rfl ?_
    refine SatL.guard_n rfl rfl rfl rfl ?_
    refine SatL.pu (RunV.pick_f rfl rfl) rfl ?_
    refine SatL.pu (RunV.assign rfl) rfl ?_
    refine SatL.nil (SatE.thenC ?_)
    refine SatC.ret ?_
    refine SatE.ret1 rfl rfl ?_
    first
    | (refine ⟨congrArg Value.bool (decide_eq_decide.2 ?_), hS⟩
       rw [← hh]
       have := hg (by omega)
       rw [Int.toNat_natCast] at this
       rw [this, Option.some.injEq]
       exact ⟨fun e => ⟨by omega, e⟩, fun e => e.2⟩)
    | (refine ⟨congrArg Value.bool (decide_eq_false (fun e => ?_)).symm, hS⟩
       have := (hh.2 e).1
       omega)
end Go.Proofs.Ytkmgnplaokogbaa
