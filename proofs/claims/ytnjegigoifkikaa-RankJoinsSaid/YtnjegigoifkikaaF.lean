/- Contracts of chapter 08's document joins and of the comparison of two tables. -/
import Derived.Test.YtnjegigoifkikaaE
set_option linter.unusedSimpArgs false
set_option linter.unusedVariables false
set_option maxRecDepth 100000
set_option maxHeartbeats 1000000
namespace Go.Proofs.Ytnjegigoifkikaa
open Go.RowKit
def step (node : Nat) (cur : Option Upd) (u : Upd) : Option Upd := if right u = true ∧ u.n = (node : Int) then some (over cur u) else cur
theorem put_step {tab : List (Option Upd)} {y : Upd} {node : Nat} {x : Option Upd} (hn : node < 8) (hl : tab.length = 8) (hx : tab[node]? = some x) : (put tab y)[node]? = some (step node x y) := by
  unfold put step
  by_cases hr : right y = true
  · have hr' := hr
    simp only [right, decide_eq_true_eq] at hr'
    rw [if_pos hr]
    by_cases e : y.n = (node : Int)
    · have e' : y.n.toNat = node := by omega
      rw [if_pos ⟨hr, e⟩, e', hx, List.getElem?_set_self (by omega)]
      rfl
    · rw [if_neg (fun h => e h.2), List.getElem?_set_ne (by omega)]
      exact hx
  · rw [if_neg hr, if_neg (fun h => hr h.1)]
    exact hx
theorem fold_step {node : Nat} (hn : node < 8) (l : List Upd) : ∀ {tab : List (Option Upd)} {x : Option Upd}, tab.length = 8 → tab[node]? = some x → (l.foldl put tab)[node]? = some (l.foldl (step node) x) := by
  induction l with
  | nil => intro tab x _ hx; exact hx
  | cons y l ih => intro tab x hl hx; exact ih ((put_len tab y).trans hl) (put_step hn hl hx)
theorem tabOf_at {node : Nat} (hn : node < 8) (ys zs : List Upd) : (tabOf ys zs)[node]? = some ((ys ++ zs).foldl (step node) none) := by
  have h : tabOf ys zs = (ys ++ zs).foldl put emp := by rw [List.foldl_append]; rfl
  rw [h]
  refine fold_step hn _ rfl ?_
  match node, hn with
  | 0, _ | 1, _ | 2, _ | 3, _ | 4, _ | 5, _ | 6, _ | 7, _ => rfl
theorem step_a {i : Nat} {cur : Option Upd} {y : Upd} (h4 : 0 ≤ y.n ∧ y.n < 8 ∧ 0 ≤ y.s ∧ y.s ≤ 3) (h5 : y.n = (i : Int)) (h6 : cur.isSome = true) (h7 : abv ⟨y.n, y.i, y.s⟩ ⟨(ox cur).n, (ox cur).i, (ox cur).s⟩ = true) : step i cur y = some y := by
  obtain ⟨c, rfl⟩ := Option.isSome_iff_exists.1 h6
  unfold step
  rw [if_pos ⟨by simp only [right, decide_eq_true_eq]; exact h4, h5⟩]
  unfold over best
  dsimp only
  rw [if_pos (show abv y c = true from h7)]
theorem step_b {i : Nat} {cur : Option Upd} {y : Upd} (h4 : 0 ≤ y.n ∧ y.n < 8 ∧ 0 ≤ y.s ∧ y.s ≤ 3) (h5 : y.n = (i : Int)) (h6 : cur.isSome = true) (h7 : abv ⟨y.n, y.i, y.s⟩ ⟨(ox cur).n, (ox cur).i, (ox cur).s⟩ = false) : step i cur y = cur := by
  obtain ⟨c, rfl⟩ := Option.isSome_iff_exists.1 h6
  have h7' : ¬ abv y c = true := by rw [show abv y c = false from h7]; simp
  unfold step
  rw [if_pos ⟨by simp only [right, decide_eq_true_eq]; exact h4, h5⟩]
  unfold over best
  dsimp only
  rw [if_neg h7']
theorem step_c {i : Nat} {cur : Option Upd} {y : Upd} (h4 : 0 ≤ y.n ∧ y.n < 8 ∧ 0 ≤ y.s ∧ y.s ≤ 3) (h5 : y.n = (i : Int)) (h6 : cur.isSome = false) : step i cur y = some y := by
  cases cur with
  | some c => cases h6
  | none =>
    unfold step
    rw [if_pos ⟨by simp only [right, decide_eq_true_eq]; exact h4, h5⟩]
    rfl
theorem step_d {i : Nat} {cur : Option Upd} {y : Upd} (h4 : ¬ (0 ≤ y.n ∧ y.n < 8 ∧ 0 ≤ y.s ∧ y.s ≤ 3)) : step i cur y = cur := by
  unfold step
  rw [if_neg (fun h => h4 (by simpa only [right, decide_eq_true_eq] using h.1))]
theorem step_e {i : Nat} {cur : Option Upd} {y : Upd} (h5 : ¬ y.n = (i : Int)) : step i cur y = cur := by
  unfold step
  rw [if_neg (fun h => h5 h.2)]
theorem join_ref (v1 v2 : Value) (ys zs : List Upd) (w : World) (hr1 : RdRow w v1 3 (ys.map ud)) (hr2 : RdRow w v2 3 (zs.map ud)) (hly : ys.length ≤ 1000000) (hlz : zs.length ≤ 1000000) :
    Ret Try.prog 23 #[v1, v2] w fun v' w' => ∃ B, Sl 24 3 v' ((jn ys zs).map ud) B ∧ St w [] B w' := by
  have hS := St.init0 w
  obtain ⟨b1, o1, c1, hv1, hmax1, hc1, hlt1⟩ := hr1.open
  obtain ⟨b2, o2, c2, hv2, hmax2, hc2, hlt2⟩ := hr2.open
  simp only [List.length_map] at hv1 hmax1 hlt1 hv2 hmax2 hlt2
  refine Ret.enter Try.func23 Try.ntmps23 rfl rfl ?_
  simp only [argEnv, Nat.reduceAdd]
  refine SatC.seq ?_
  refine SatC.region ?_
  refine SatL.pu (RunV.assign rfl) rfl ?_
  refine SatL.nil (SatE.thenC ?_)
  refine SatC.seq ?_
  refine SatC.region ?_
  refine SatL.pu (RunV.assign rfl) rfl ?_
  refine SatL.nil (SatE.thenC ?_)
  refine SatC.seq ?_
  refine SatC.seq ?_
  refine SatC.region ?_
  refine SatL.pu (RunV.assign rfl) rfl ?_
  refine SatL.nil (SatE.thenC ?_)
  refine SatC.block ?_
  refine SatC.loopK (G := Nat × Value × List (Nat × Obj)) (V := fun ⟨i, v, B⟩ => [(6, .int .i64 (i : Int)), (5, v)]) (Cn := [(0, _), (1, _), (4, _)]) (I := fun ⟨i, v, B⟩ w' => i ≤ 8 ∧ Sl 24 3 v ((((tabOf ys zs).take i).filterMap id).map ud) B ∧ St w [] B w') (μ := fun ⟨i, v, B⟩ => 8 - i) (0, .slice none 0 0, []) ?_ (by repeat constructor) ?_
  · exact ⟨Nat.zero_le _, .nil, hS⟩
  clear hS
  rintro ⟨i, v, B⟩ w1 ⟨hi, hsl, hS⟩
  refine SatC.weak (e' := [(0, _), (1, _), (4, _), (5, _), (6, _)]) (by repeat constructor) ?_
  refine SatC.seq ?_
  refine SatC.seq ?_
  refine SatC.region ?_
  refine SatL.pu (RunV.move rfl) rfl ?_
  refine SatL.pu (RunV.lss rfl rfl) rfl ?_
  refine SatL.nil (SatE.thenC ?_)
  refine SatC.cond rfl (fun h1 => ?_) (fun h1 => ?_)
  · (try simp only [cx, ne_eq] at h1)
    try (exfalso; first | omega | exact h1 trivial)
    all_goals
    refine SatC.skip (SatE.thenC ?_)
    refine SatC.seq ?_
    refine SatC.block ?_
    refine SatC.seq ?_
    have hx := tabOf_at (show i < 8 by omega) ys zs
    have hnx := take_next hx
    have hln : (((tabOf ys zs).take i).filterMap id).length ≤ 8 := Nat.le_trans (List.length_filterMap_le ..) (by rw [List.length_take]; omega)
    refine SatC.region ?_
    refine SatL.pu (RunV.assign rfl) rfl ?_
    refine SatL.nil (SatE.thenC ?_)
    refine SatC.seq ?_
    refine SatC.region ?_
    refine SatL.op rfl (OpW.alloc hS rfl rfl (by repeat constructor) ?_)
    clear hS
    intro b8 w2 _ hS
    refine SatL.nil (SatE.thenC ?_)
    refine SatC.seq ?_
    refine SatC.seq ?_
    refine SatC.region ?_
    refine SatL.pu (RunV.assign rfl) rfl ?_
    refine SatL.nil (SatE.thenC ?_)
    refine SatC.block ?_
    refine SatC.loopK (G := Nat × Option Upd) (V := fun ⟨k, cur⟩ => [(9, .int .i64 (k : Int)), (7, .bool cur.isSome)]) (Cn := [(0, _), (1, _), (4, _), (5, _), (6, _), (8, _)]) (I := fun ⟨k, cur⟩ w' => k ≤ ys.length + zs.length ∧ ((ys ++ zs).drop k).foldl (step i) cur = (ys ++ zs).foldl (step i) none ∧ St w [] ((b8, C 24 (ud (ox cur))) :: B) w') (μ := fun ⟨k, cur⟩ => ys.length + zs.length - k) (0, none) ?_ (by repeat constructor) ?_
    · exact ⟨Nat.zero_le _, rfl, hS⟩
    clear hS
    rintro ⟨k, cur⟩ w3 ⟨hk, hf, hS⟩
    refine SatC.weak (e' := [(0, _), (1, _), (4, _), (5, _), (6, _), (7, _), (8, _), (9, _)]) (by repeat constructor) ?_
    refine SatC.seq ?_
    refine SatC.seq ?_
    refine SatC.region ?_
    refine SatL.pu (RunV.move rfl) rfl ?_
    refine SatL.pu (RunV.move rfl) rfl ?_
    first | refine SatL.pu (RunV.lenR (by assumption) rfl rfl) rfl ?_ | refine SatL.pu (RunV.lenS rfl rfl) rfl ?_
    refine SatL.pu (RunV.move rfl) rfl ?_
    first | refine SatL.pu (RunV.lenR (by assumption) rfl rfl) rfl ?_ | refine SatL.pu (RunV.lenS rfl rfl) rfl ?_
    refine SatL.pu (RunV.add rfl rfl (by first | exact wrapI64 (by omega) | rfl)) rfl ?_
    refine SatL.pu (RunV.lss rfl rfl) rfl ?_
    refine SatL.nil (SatE.thenC ?_)
    refine SatC.cond rfl (fun h2 => ?_) (fun h2 => ?_)
    · (try simp only [cx, ne_eq] at h2)
      try (exfalso; first | omega | exact h2 trivial)
      all_goals
      refine SatC.skip (SatE.thenC ?_)
      refine SatC.seq ?_
      refine SatC.block ?_
      refine SatC.seq ?_
      refine SatC.region ?_
      refine SatL.op rfl (OpW.alloc hS rfl rfl (by repeat constructor) ?_)
      clear hS
      intro b10 w4 _ hS
      refine SatL.nil (SatE.thenC ?_)
      refine SatC.seq ?_
      refine SatC.seq ?_
      refine SatC.region ?_
      refine SatL.pu (RunV.move rfl) rfl ?_
      refine SatL.pu (RunV.move rfl) rfl ?_
      first | refine SatL.pu (RunV.lenR (by assumption) rfl rfl) rfl ?_ | refine SatL.pu (RunV.lenS rfl rfl) rfl ?_
      refine SatL.pu (RunV.lss rfl rfl) rfl ?_
      refine SatL.nil (SatE.thenC ?_)
      refine SatC.cond rfl (fun h3 => ?_) (fun h3 => ?_)
      · (try simp only [cx, ne_eq] at h3)
        try (exfalso; first | omega | exact h3 trivial)
        all_goals
        obtain ⟨y, hy⟩ := get_some ys k (by omega)
        have hl : (ys ++ zs)[k]? = some y := by rw [List.getElem?_append_left (by omega)]; exact hy
        rw [drop_get hl, List.foldl_cons] at hf
        refine SatC.region ?_
        refine SatL.pu (RunV.move rfl) rfl ?_
        refine SatL.pu (RunV.move rfl) rfl ?_
        first | refine SatL.pu (RunV.indexR (by assumption) rfl rfl rfl (by omega) (by omega) rfl) rfl ?_ | refine SatL.pu (RunV.indexS rfl rfl rfl (by omega) (by omega) rfl) rfl ?_
        first | refine SatL.pu (RunV.loadRNz (RdC.st (by assumption) hS List.not_mem_nil) rfl rfl (by first | assumption | exact map_get (by assumption))) rfl ?_ | refine SatL.pu (RunV.loadRNz (Sl.rd (by assumption) hS (by repeat constructor)) rfl rfl (by first | assumption | exact map_get (by assumption))) rfl ?_
        refine SatL.op rfl (OpW.store hS rfl rfl (by repeat constructor) (by repeat constructor) (by repeat constructor) rfl rfl ?_)
        clear hS
        intro w5 hS
        refine SatL.nil (SatE.thenC ?_)
        refine SatC.seq ?_
        refine SatC.weak (e' := [(0, _), (1, _), (4, _), (5, _), (6, _), (7, _), (8, _), (9, _), (10, _)]) (by repeat constructor) ?_
        refine SatC.region ?_
        refine SatL.pu (RunV.loadN hS rfl rfl (by repeat constructor) (by repeat constructor)) rfl ?_
        refine SatL.op rfl (OpW.enter rfl rfl rfl rfl (right_ref _ _ _ _) ?_)
        rintro r6 w6 ⟨rfl, h⟩
        replace hS := St.callN hS h
        refine SatL.pu (RunV.move rfl) rfl ?_
        refine SatL.guard rfl rfl rfl (fun h4 => ?_) (fun h4 => ?_)
        · (try simp only [cx, ne_eq] at h4)
          try (exfalso; first | omega | exact h4 trivial)
          all_goals
          first | refine SatL.pu (RunV.fieldAddrL rfl rfl rfl) rfl ?_ | refine SatL.pu (RunV.fieldAddr rfl rfl rfl) rfl ?_
          refine SatL.guard_y rfl rfl ?_
          refine SatL.pu (RunV.load1 hS rfl rfl (by repeat constructor) rfl) rfl ?_
          refine SatL.guard_y rfl rfl ?_
          refine SatL.pu (RunV.move rfl) rfl ?_
          refine SatL.guard_y rfl rfl ?_
          refine SatL.pu (RunV.eql rfl rfl) rfl ?_
          refine SatL.pu (RunV.pick_t rfl rfl) rfl ?_
          refine SatL.pu (RunV.move rfl) rfl ?_
          refine SatL.guard rfl rfl rfl (fun h5 => ?_) (fun h5 => ?_)
          · (try simp only [cx, ne_eq] at h5)
            try (exfalso; first | omega | exact h5 trivial)
            all_goals
            refine SatL.pu (RunV.move rfl) rfl ?_
            refine SatL.guard_y rfl rfl ?_
            refine SatL.pu (RunV.not rfl) rfl ?_
            refine SatL.guard_y rfl rfl ?_
            refine SatL.pu (RunV.move rfl) rfl ?_
            refine SatL.guard rfl rfl rfl (fun h6 => ?_) (fun h6 => ?_)
            · (try simp only [cx, ne_eq] at h6)
              try (exfalso; first | omega | exact h6 trivial)
              all_goals
              refine SatL.pu (RunV.loadN hS rfl rfl (by repeat constructor) (by repeat constructor)) rfl ?_
              refine SatL.guard_y rfl rfl ?_
              refine SatL.pu (RunV.loadN hS rfl rfl (by repeat constructor) (by repeat constructor)) rfl ?_
              refine SatL.guard_y rfl rfl ?_
              refine SatL.op rfl (OpW.enter rfl rfl rfl rfl (above_ref _ _ _ _ _ _ _) ?_)
              rintro r7 w7 ⟨rfl, h⟩
              replace hS := St.callN hS h
              refine SatL.guard_y rfl rfl ?_
              refine SatL.pu (RunV.pick_f rfl rfl) rfl ?_
              refine SatL.pu (RunV.pick_t rfl rfl) rfl ?_
              refine SatL.nil (SatE.thenC ?_)
              refine SatC.weak (e' := [(0, _), (1, _), (4, _), (5, _), (6, _), (7, _), (8, _), (9, _), (10, _), (55, _)]) (by repeat constructor) ?_
              refine SatC.cond rfl (fun h7 => ?_) (fun h7 => ?_)
              · (try simp only [cx, ne_eq] at h7)
                try (exfalso; first | omega | exact h7 trivial)
                all_goals
                refine SatC.seq ?_
                refine SatC.region ?_
                refine SatL.pu (RunV.loadN hS rfl rfl (by repeat constructor) (by repeat constructor)) rfl ?_
                refine SatL.op rfl (OpW.store hS rfl rfl (by repeat constructor) (by repeat constructor) (by repeat constructor) rfl rfl ?_)
                clear hS
                intro w8 hS
                refine SatL.nil (SatE.thenC ?_)
                refine SatC.region ?_
                refine SatL.pu (RunV.assign rfl) rfl ?_
                refine SatL.nil (SatE.blk_normal (SatE.thenC ?_))
                refine SatC.region ?_
                refine SatL.pu (RunV.move rfl) rfl ?_
                refine SatL.pu (RunV.add rfl rfl (by first | exact wrapI64 (by omega) | rfl)) rfl ?_
                refine SatL.pu (RunV.assign rfl) rfl ?_
                refine SatL.nil ?_
                first | rw [step_a h4 h5 h6 h7] at hf | rw [step_b h4 h5 h6 h7] at hf | rw [step_c h4 h5 h6] at hf | rw [step_e h5] at hf | rw [step_d h4] at hf
                first | exact SatE.again (k + 1, some y) ⟨by omega, hf, hS.sb (by repeat constructor)⟩ (by dsimp only; omega) (by repeat constructor) | exact SatE.again (k + 1, cur) ⟨by omega, hf, hS.sb (by repeat constructor)⟩ (by dsimp only; omega) (by repeat constructor)
              · (try simp only [cx, ne_eq] at h7)
                try (exfalso; first | omega | exact h7 trivial)
                all_goals
                refine SatC.skip (SatE.blk_normal (SatE.thenC ?_))
                refine SatC.region ?_
                refine SatL.pu (RunV.move rfl) rfl ?_
                refine SatL.pu (RunV.add rfl rfl (by first | exact wrapI64 (by omega) | rfl)) rfl ?_
                refine SatL.pu (RunV.assign rfl) rfl ?_
                refine SatL.nil ?_
                first | rw [step_a h4 h5 h6 h7] at hf | rw [step_b h4 h5 h6 h7] at hf | rw [step_c h4 h5 h6] at hf | rw [step_e h5] at hf | rw [step_d h4] at hf
                first | exact SatE.again (k + 1, some y) ⟨by omega, hf, hS.sb (by repeat constructor)⟩ (by dsimp only; omega) (by repeat constructor) | exact SatE.again (k + 1, cur) ⟨by omega, hf, hS.sb (by repeat constructor)⟩ (by dsimp only; omega) (by repeat constructor)
            · (try simp only [cx, ne_eq] at h6)
              try (exfalso; first | omega | exact h6 trivial)
              all_goals
              refine SatL.guard_n rfl rfl rfl rfl ?_
              refine SatL.guard_n rfl rfl rfl rfl ?_
              refine SatL.guard_y rfl rfl ?_
              refine SatL.pu (RunV.pick_t rfl rfl) rfl ?_
              refine SatL.pu (RunV.pick_t rfl rfl) rfl ?_
              refine SatL.nil (SatE.thenC ?_)
              refine SatC.weak (e' := [(0, _), (1, _), (4, _), (5, _), (6, _), (7, _), (8, _), (9, _), (10, _), (55, _)]) (by repeat constructor) ?_
              refine SatC.cond_t rfl ?_
              refine SatC.seq ?_
              refine SatC.region ?_
              refine SatL.pu (RunV.loadN hS rfl rfl (by repeat constructor) (by repeat constructor)) rfl ?_
              refine SatL.op rfl (OpW.store hS rfl rfl (by repeat constructor) (by repeat constructor) (by repeat constructor) rfl rfl ?_)
              clear hS
              intro w7 hS
              refine SatL.nil (SatE.thenC ?_)
              refine SatC.region ?_
              refine SatL.pu (RunV.assign rfl) rfl ?_
              refine SatL.nil (SatE.blk_normal (SatE.thenC ?_))
              refine SatC.region ?_
              refine SatL.pu (RunV.move rfl) rfl ?_
              refine SatL.pu (RunV.add rfl rfl (by first | exact wrapI64 (by omega) | rfl)) rfl ?_
              refine SatL.pu (RunV.assign rfl) rfl ?_
              refine SatL.nil ?_
              first | rw [step_a h4 h5 h6 h7] at hf | rw [step_b h4 h5 h6 h7] at hf | rw [step_c h4 h5 h6] at hf | rw [step_e h5] at hf | rw [step_d h4] at hf
              first | exact SatE.again (k + 1, some y) ⟨by omega, hf, hS.sb (by repeat constructor)⟩ (by dsimp only; omega) (by repeat constructor) | exact SatE.again (k + 1, cur) ⟨by omega, hf, hS.sb (by repeat constructor)⟩ (by dsimp only; omega) (by repeat constructor)
          · (try simp only [cx, ne_eq] at h5)
            try (exfalso; first | omega | exact h5 trivial)
            all_goals
            refine SatL.guard_n rfl rfl rfl rfl ?_
            refine SatL.guard_n rfl rfl rfl rfl ?_
            refine SatL.guard_u rfl rfl rfl ?_
            refine SatL.guard_u rfl rfl rfl ?_
            refine SatL.guard_u rfl rfl rfl ?_
            refine SatL.guard_n rfl rfl rfl rfl ?_
            refine SatL.pu (RunV.pick_f rfl rfl) rfl ?_
            refine SatL.nil (SatE.thenC ?_)
            refine SatC.weak (e' := [(0, _), (1, _), (4, _), (5, _), (6, _), (7, _), (8, _), (9, _), (10, _), (55, _)]) (by repeat constructor) ?_
            refine SatC.cond_f rfl ?_
            refine SatC.skip (SatE.blk_normal (SatE.thenC ?_))
            refine SatC.region ?_
            refine SatL.pu (RunV.move rfl) rfl ?_
            refine SatL.pu (RunV.add rfl rfl (by first | exact wrapI64 (by omega) | rfl)) rfl ?_
            refine SatL.pu (RunV.assign rfl) rfl ?_
            refine SatL.nil ?_
            first | rw [step_a h4 h5 h6 h7] at hf | rw [step_b h4 h5 h6 h7] at hf | rw [step_c h4 h5 h6] at hf | rw [step_e h5] at hf | rw [step_d h4] at hf
            first | exact SatE.again (k + 1, some y) ⟨by omega, hf, hS.sb (by repeat constructor)⟩ (by dsimp only; omega) (by repeat constructor) | exact SatE.again (k + 1, cur) ⟨by omega, hf, hS.sb (by repeat constructor)⟩ (by dsimp only; omega) (by repeat constructor)
        · (try simp only [cx, ne_eq] at h4)
          try (exfalso; first | omega | exact h4 trivial)
          all_goals
          refine SatL.guard_n rfl rfl rfl rfl ?_
          refine SatL.guard_n rfl rfl rfl rfl ?_
          refine SatL.guard_n rfl rfl rfl rfl ?_
          refine SatL.pu (RunV.pick_f rfl rfl) rfl ?_
          refine SatL.pu (RunV.move rfl) rfl ?_
          refine SatL.guard_n rfl rfl rfl rfl ?_
          refine SatL.guard_n rfl rfl rfl rfl ?_
          refine SatL.guard_n rfl rfl rfl rfl ?_
          refine SatL.guard_u rfl rfl rfl ?_
          refine SatL.guard_u rfl rfl rfl ?_
          refine SatL.guard_u rfl rfl rfl ?_
          refine SatL.guard_n rfl rfl rfl rfl ?_
          refine SatL.pu (RunV.pick_f rfl rfl) rfl ?_
          refine SatL.nil (SatE.thenC ?_)
          refine SatC.weak (e' := [(0, _), (1, _), (4, _), (5, _), (6, _), (7, _), (8, _), (9, _), (10, _), (55, _)]) (by repeat constructor) ?_
          refine SatC.cond_f rfl ?_
          refine SatC.skip (SatE.blk_normal (SatE.thenC ?_))
          refine SatC.region ?_
          refine SatL.pu (RunV.move rfl) rfl ?_
          refine SatL.pu (RunV.add rfl rfl (by first | exact wrapI64 (by omega) | rfl)) rfl ?_
          refine SatL.pu (RunV.assign rfl) rfl ?_
          refine SatL.nil ?_
          first | rw [step_a h4 h5 h6 h7] at hf | rw [step_b h4 h5 h6 h7] at hf | rw [step_c h4 h5 h6] at hf | rw [step_e h5] at hf | rw [step_d h4] at hf
          first | exact SatE.again (k + 1, some y) ⟨by omega, hf, hS.sb (by repeat constructor)⟩ (by dsimp only; omega) (by repeat constructor) | exact SatE.again (k + 1, cur) ⟨by omega, hf, hS.sb (by repeat constructor)⟩ (by dsimp only; omega) (by repeat constructor)
      · (try simp only [cx, ne_eq] at h3)
        try (exfalso; first | omega | exact h3 trivial)
        all_goals
        obtain ⟨y, hy⟩ := get_some zs ((k : Int) - (ys.length : Int)).toNat (by omega)
        have hl : (ys ++ zs)[k]? = some y := by rw [List.getElem?_append_right (by omega), ← hy]; congr 1; omega
        rw [drop_get hl, List.foldl_cons] at hf
        refine SatC.region ?_
        refine SatL.pu (RunV.move rfl) rfl ?_
        refine SatL.pu (RunV.move rfl) rfl ?_
        refine SatL.pu (RunV.move rfl) rfl ?_
        first | refine SatL.pu (RunV.lenR (by assumption) rfl rfl) rfl ?_ | refine SatL.pu (RunV.lenS rfl rfl) rfl ?_
        refine SatL.pu (RunV.sub rfl rfl (by first | exact wrapI64 (by omega) | rfl)) rfl ?_
        first | refine SatL.pu (RunV.indexR (by assumption) rfl rfl rfl (by omega) (by omega) rfl) rfl ?_ | refine SatL.pu (RunV.indexS rfl rfl rfl (by omega) (by omega) rfl) rfl ?_
        first | refine SatL.pu (RunV.loadRNz (RdC.st (by assumption) hS List.not_mem_nil) rfl rfl (by first | assumption | exact map_get (by assumption))) rfl ?_ | refine SatL.pu (RunV.loadRNz (Sl.rd (by assumption) hS (by repeat constructor)) rfl rfl (by first | assumption | exact map_get (by assumption))) rfl ?_
        refine SatL.op rfl (OpW.store hS rfl rfl (by repeat constructor) (by repeat constructor) (by repeat constructor) rfl rfl ?_)
        clear hS
        intro w5 hS
        refine SatL.nil (SatE.thenC ?_)
        refine SatC.seq ?_
        refine SatC.weak (e' := [(0, _), (1, _), (4, _), (5, _), (6, _), (7, _), (8, _), (9, _), (10, _)]) (by repeat constructor) ?_
        refine SatC.region ?_
        refine SatL.pu (RunV.loadN hS rfl rfl (by repeat constructor) (by repeat constructor)) rfl ?_
        refine SatL.op rfl (OpW.enter rfl rfl rfl rfl (right_ref _ _ _ _) ?_)
        rintro r6 w6 ⟨rfl, h⟩
        replace hS := St.callN hS h
        refine SatL.pu (RunV.move rfl) rfl ?_
        refine SatL.guard rfl rfl rfl (fun h4 => ?_) (fun h4 => ?_)
        · (try simp only [cx, ne_eq] at h4)
          try (exfalso; first | omega | exact h4 trivial)
          all_goals
          first | refine SatL.pu (RunV.fieldAddrL rfl rfl rfl) rfl ?_ | refine SatL.pu (RunV.fieldAddr rfl rfl rfl) rfl ?_
          refine SatL.guard_y rfl rfl ?_
          refine SatL.pu (RunV.load1 hS rfl rfl (by repeat constructor) rfl) rfl ?_
          refine SatL.guard_y rfl rfl ?_
          refine SatL.pu (RunV.move rfl) rfl ?_
          refine SatL.guard_y rfl rfl ?_
          refine SatL.pu (RunV.eql rfl rfl) rfl ?_
          refine SatL.pu (RunV.pick_t rfl rfl) rfl ?_
          refine SatL.pu (RunV.move rfl) rfl ?_
          refine SatL.guard rfl rfl rfl (fun h5 => ?_) (fun h5 => ?_)
          · (try simp only [cx, ne_eq] at h5)
            try (exfalso; first | omega | exact h5 trivial)
            all_goals
            refine SatL.pu (RunV.move rfl) rfl ?_
            refine SatL.guard_y rfl rfl ?_
            refine SatL.pu (RunV.not rfl) rfl ?_
            refine SatL.guard_y rfl rfl ?_
            refine SatL.pu (RunV.move rfl) rfl ?_
            refine SatL.guard rfl rfl rfl (fun h6 => ?_) (fun h6 => ?_)
            · (try simp only [cx, ne_eq] at h6)
              try (exfalso; first | omega | exact h6 trivial)
              all_goals
              refine SatL.pu (RunV.loadN hS rfl rfl (by repeat constructor) (by repeat constructor)) rfl ?_
              refine SatL.guard_y rfl rfl ?_
              refine SatL.pu (RunV.loadN hS rfl rfl (by repeat constructor) (by repeat constructor)) rfl ?_
              refine SatL.guard_y rfl rfl ?_
              refine SatL.op rfl (OpW.enter rfl rfl rfl rfl (above_ref _ _ _ _ _ _ _) ?_)
              rintro r7 w7 ⟨rfl, h⟩
              replace hS := St.callN hS h
              refine SatL.guard_y rfl rfl ?_
              refine SatL.pu (RunV.pick_f rfl rfl) rfl ?_
              refine SatL.pu (RunV.pick_t rfl rfl) rfl ?_
              refine SatL.nil (SatE.thenC ?_)
              refine SatC.weak (e' := [(0, _), (1, _), (4, _), (5, _), (6, _), (7, _), (8, _), (9, _), (10, _), (55, _)]) (by repeat constructor) ?_
              refine SatC.cond rfl (fun h7 => ?_) (fun h7 => ?_)
              · (try simp only [cx, ne_eq] at h7)
                try (exfalso; first | omega | exact h7 trivial)
                all_goals
                refine SatC.seq ?_
                refine SatC.region ?_
                refine SatL.pu (RunV.loadN hS rfl rfl (by repeat constructor) (by repeat constructor)) rfl ?_
                refine SatL.op rfl (OpW.store hS rfl rfl (by repeat constructor) (by repeat constructor) (by repeat constructor) rfl rfl ?_)
                clear hS
                intro w8 hS
                refine SatL.nil (SatE.thenC ?_)
                refine SatC.region ?_
                refine SatL.pu (RunV.assign rfl) rfl ?_
                refine SatL.nil (SatE.blk_normal (SatE.thenC ?_))
                refine SatC.region ?_
                refine SatL.pu (RunV.move rfl) rfl ?_
                refine SatL.pu (RunV.add rfl rfl (by first | exact wrapI64 (by omega) | rfl)) rfl ?_
                refine SatL.pu (RunV.assign rfl) rfl ?_
                refine SatL.nil ?_
                first | rw [step_a h4 h5 h6 h7] at hf | rw [step_b h4 h5 h6 h7] at hf | rw [step_c h4 h5 h6] at hf | rw [step_e h5] at hf | rw [step_d h4] at hf
                first | exact SatE.again (k + 1, some y) ⟨by omega, hf, hS.sb (by repeat constructor)⟩ (by dsimp only; omega) (by repeat constructor) | exact SatE.again (k + 1, cur) ⟨by omega, hf, hS.sb (by repeat constructor)⟩ (by dsimp only; omega) (by repeat constructor)
              · (try simp only [cx, ne_eq] at h7)
                try (exfalso; first | omega | exact h7 trivial)
                all_goals
                refine SatC.skip (SatE.blk_normal (SatE.thenC ?_))
                refine SatC.region ?_
                refine SatL.pu (RunV.move rfl) rfl ?_
                refine SatL.pu (RunV.add rfl rfl (by first | exact wrapI64 (by omega) | rfl)) rfl ?_
                refine SatL.pu (RunV.assign rfl) rfl ?_
                refine SatL.nil ?_
                first | rw [step_a h4 h5 h6 h7] at hf | rw [step_b h4 h5 h6 h7] at hf | rw [step_c h4 h5 h6] at hf | rw [step_e h5] at hf | rw [step_d h4] at hf
                first | exact SatE.again (k + 1, some y) ⟨by omega, hf, hS.sb (by repeat constructor)⟩ (by dsimp only; omega) (by repeat constructor) | exact SatE.again (k + 1, cur) ⟨by omega, hf, hS.sb (by repeat constructor)⟩ (by dsimp only; omega) (by repeat constructor)
            · (try simp only [cx, ne_eq] at h6)
              try (exfalso; first | omega | exact h6 trivial)
              all_goals
              refine SatL.guard_n rfl rfl rfl rfl ?_
              refine SatL.guard_n rfl rfl rfl rfl ?_
              refine SatL.guard_y rfl rfl ?_
              refine SatL.pu (RunV.pick_t rfl rfl) rfl ?_
              refine SatL.pu (RunV.pick_t rfl rfl) rfl ?_
              refine SatL.nil (SatE.thenC ?_)
              refine SatC.weak (e' := [(0, _), (1, _), (4, _), (5, _), (6, _), (7, _), (8, _), (9, _), (10, _), (55, _)]) (by repeat constructor) ?_
              refine SatC.cond_t rfl ?_
              refine SatC.seq ?_
              refine SatC.region ?_
              refine SatL.pu (RunV.loadN hS rfl rfl (by repeat constructor) (by repeat constructor)) rfl ?_
              refine SatL.op rfl (OpW.store hS rfl rfl (by repeat constructor) (by repeat constructor) (by repeat constructor) rfl rfl ?_)
              clear hS
              intro w7 hS
              refine SatL.nil (SatE.thenC ?_)
              refine SatC.region ?_
              refine SatL.pu (RunV.assign rfl) rfl ?_
              refine SatL.nil (SatE.blk_normal (SatE.thenC ?_))
              refine SatC.region ?_
              refine SatL.pu (RunV.move rfl) rfl ?_
              refine SatL.pu (RunV.add rfl rfl (by first | exact wrapI64 (by omega) | rfl)) rfl ?_
              refine SatL.pu (RunV.assign rfl) rfl ?_
              refine SatL.nil ?_
              first | rw [step_a h4 h5 h6 h7] at hf | rw [step_b h4 h5 h6 h7] at hf | rw [step_c h4 h5 h6] at hf | rw [step_e h5] at hf | rw [step_d h4] at hf
              first | exact SatE.again (k + 1, some y) ⟨by omega, hf, hS.sb (by repeat constructor)⟩ (by dsimp only; omega) (by repeat constructor) | exact SatE.again (k + 1, cur) ⟨by omega, hf, hS.sb (by repeat constructor)⟩ (by dsimp only; omega) (by repeat constructor)
          · (try simp only [cx, ne_eq] at h5)
            try (exfalso; first | omega | exact h5 trivial)
            all_goals
            refine SatL.guard_n rfl rfl rfl rfl ?_
            refine SatL.guard_n rfl rfl rfl rfl ?_
            refine SatL.guard_u rfl rfl rfl ?_
            refine SatL.guard_u rfl rfl rfl ?_
            refine SatL.guard_u rfl rfl rfl ?_
            refine SatL.guard_n rfl rfl rfl rfl ?_
            refine SatL.pu (RunV.pick_f rfl rfl) rfl ?_
            refine SatL.nil (SatE.thenC ?_)
            refine SatC.weak (e' := [(0, _), (1, _), (4, _), (5, _), (6, _), (7, _), (8, _), (9, _), (10, _), (55, _)]) (by repeat constructor) ?_
            refine SatC.cond_f rfl ?_
            refine SatC.skip (SatE.blk_normal (SatE.thenC ?_))
            refine SatC.region ?_
            refine SatL.pu (RunV.move rfl) rfl ?_
            refine SatL.pu (RunV.add rfl rfl (by first | exact wrapI64 (by omega) | rfl)) rfl ?_
            refine SatL.pu (RunV.assign rfl) rfl ?_
            refine SatL.nil ?_
            first | rw [step_a h4 h5 h6 h7] at hf | rw [step_b h4 h5 h6 h7] at hf | rw [step_c h4 h5 h6] at hf | rw [step_e h5] at hf | rw [step_d h4] at hf
            first | exact SatE.again (k + 1, some y) ⟨by omega, hf, hS.sb (by repeat constructor)⟩ (by dsimp only; omega) (by repeat constructor) | exact SatE.again (k + 1, cur) ⟨by omega, hf, hS.sb (by repeat constructor)⟩ (by dsimp only; omega) (by repeat constructor)
        · (try simp only [cx, ne_eq] at h4)
          try (exfalso; first | omega | exact h4 trivial)
          all_goals
          refine SatL.guard_n rfl rfl rfl rfl ?_
          refine SatL.guard_n rfl rfl rfl rfl ?_
          refine SatL.guard_n rfl rfl rfl rfl ?_
          refine SatL.pu (RunV.pick_f rfl rfl) rfl ?_
          refine SatL.pu (RunV.move rfl) rfl ?_
          refine SatL.guard_n rfl rfl rfl rfl ?_
          refine SatL.guard_n rfl rfl rfl rfl ?_
          refine SatL.guard_n rfl rfl rfl rfl ?_
          refine SatL.guard_u rfl rfl rfl ?_
          refine SatL.guard_u rfl rfl rfl ?_
          refine SatL.guard_u rfl rfl rfl ?_
          refine SatL.guard_n rfl rfl rfl rfl ?_
          refine SatL.pu (RunV.pick_f rfl rfl) rfl ?_
          refine SatL.nil (SatE.thenC ?_)
          refine SatC.weak (e' := [(0, _), (1, _), (4, _), (5, _), (6, _), (7, _), (8, _), (9, _), (10, _), (55, _)]) (by repeat constructor) ?_
          refine SatC.cond_f rfl ?_
          refine SatC.skip (SatE.blk_normal (SatE.thenC ?_))
          refine SatC.region ?_
          refine SatL.pu (RunV.move rfl) rfl ?_
          refine SatL.pu (RunV.add rfl rfl (by first | exact wrapI64 (by omega) | rfl)) rfl ?_
          refine SatL.pu (RunV.assign rfl) rfl ?_
          refine SatL.nil ?_
          first | rw [step_a h4 h5 h6 h7] at hf | rw [step_b h4 h5 h6 h7] at hf | rw [step_c h4 h5 h6] at hf | rw [step_e h5] at hf | rw [step_d h4] at hf
          first | exact SatE.again (k + 1, some y) ⟨by omega, hf, hS.sb (by repeat constructor)⟩ (by dsimp only; omega) (by repeat constructor) | exact SatE.again (k + 1, cur) ⟨by omega, hf, hS.sb (by repeat constructor)⟩ (by dsimp only; omega) (by repeat constructor)
    · (try simp only [cx, ne_eq] at h2)
      try (exfalso; first | omega | exact h2 trivial)
      all_goals
      refine SatC.exit (SatE.then_exit (SatE.then_exit (SatE.blk_exit (SatE.thenC ?_))))
      refine SatC.seq ?_
      obtain rfl : k = ys.length + zs.length := by omega
      rw [List.drop_of_length_le (by rw [List.length_append]; omega), List.foldl_nil] at hf
      rw [← hf] at hnx
      refine SatC.region ?_
      refine SatL.pu (RunV.move rfl) rfl ?_
      refine SatL.nil (SatE.thenC ?_)
      refine SatC.cond rfl (fun h3 => ?_) (fun h3 => ?_)
      · (try simp only [cx, ne_eq] at h3)
        try (exfalso; first | omega | exact h3 trivial)
        all_goals
        refine SatC.region ?_
        refine SatL.pu (RunV.move rfl) rfl ?_
        refine SatL.pu (RunV.loadN hS rfl rfl (by repeat constructor) (by repeat constructor)) rfl ?_
        refine SatL.op rfl (OpW.buildSlice1 hS rfl rfl rfl rfl rfl (by repeat constructor) rfl rfl rfl ?_)
        clear hS
        intro b60 w4 _ hS
        refine SatL.op rfl (OpW.append1 (by assumption) hS (by repeat constructor) rfl rfl (by repeat constructor) rfl rfl rfl rfl rfl rfl rfl rfl (by first | omega | (simp only [List.length_map]; omega)) rfl ?_)
        clear hS
        intro v61 B61 w5 hsl61 hS
        refine SatL.pu (RunV.assign rfl) rfl ?_
        refine SatL.nil (SatE.blk_normal (SatE.thenC ?_))
        refine SatC.weak (e' := [(0, _), (1, _), (4, _), (5, _), (6, _)]) (by repeat constructor) ?_
        refine SatC.region ?_
        refine SatL.pu (RunV.move rfl) rfl ?_
        refine SatL.pu (RunV.add rfl rfl (by first | exact wrapI64 (by omega) | rfl)) rfl ?_
        refine SatL.pu (RunV.assign rfl) rfl ?_
        refine SatL.nil ?_
        refine SatE.again ((i + 1, v61, B61)) ?_ (by first | omega | (dsimp only; omega)) (by repeat constructor)
        refine ⟨by omega, ?_, hS.sb (by repeat constructor)⟩
        obtain ⟨u, rfl⟩ := Option.isSome_iff_exists.1 h3
        rw [hnx, List.map_append]
        exact hsl61
      · (try simp only [cx, ne_eq] at h3)
        try (exfalso; first | omega | exact h3 trivial)
        all_goals
        refine SatC.skip (SatE.blk_normal (SatE.thenC ?_))
        refine SatC.region ?_
        refine SatL.pu (RunV.move rfl) rfl ?_
        refine SatL.pu (RunV.add rfl rfl (by first | exact wrapI64 (by omega) | rfl)) rfl ?_
        refine SatL.pu (RunV.assign rfl) rfl ?_
        refine SatL.nil ?_
        refine SatE.again ((i + 1, v, B)) ?_ (by first | omega | (dsimp only; omega)) (by repeat constructor)
        refine ⟨by omega, ?_, hS.sb (by repeat constructor)⟩
        obtain rfl : cur = none := by cases cur with
          | none => rfl
          | some u => cases h3
        rw [hnx, Option.toList_none, List.append_nil]
        exact hsl
  · (try simp only [cx, ne_eq] at h1)
    try (exfalso; first | omega | exact h1 trivial)
    all_goals
    refine SatC.exit (SatE.then_exit (SatE.then_exit (SatE.blk_exit (SatE.thenC ?_))))
    refine SatC.seq ?_
    refine SatC.region ?_
    refine SatL.pu (RunV.move rfl) rfl ?_
    refine SatL.pu (RunV.assign rfl) rfl ?_
    refine SatL.nil (SatE.thenC ?_)
    refine SatC.ret ?_
    refine SatE.ret1 rfl rfl ?_
    obtain rfl : i = 8 := by omega
    rw [List.take_of_length_le (by rw [tabOf_len]; omega)] at hsl
    exact ⟨B, hsl, hS.sb (by repeat constructor)⟩
theorem same_any (v1 v2 : Value) (ys zs : List Upd) (w : World) (hr1 : RdRow w v1 3 (ys.map ud)) (hr2 : RdRow w v2 3 (zs.map ud)) :
    Ret Try.prog 19 #[v1, v2] w fun v' w' => v' = .bool (decide (ys = zs)) ∧ St w [] [] w' := by
  have hS := St.init0 w
  obtain ⟨b1, o1, c1, hv1, hmax1, hc1, hlt1⟩ := hr1.open
  obtain ⟨b2, o2, c2, hv2, hmax2, hc2, hlt2⟩ := hr2.open
  simp only [List.length_map] at hv1 hmax1 hlt1 hv2 hmax2 hlt2
  refine Ret.enter Try.func19 Try.ntmps19 rfl rfl ?_
  simp only [argEnv, Nat.reduceAdd]
  refine SatC.seq ?_
  refine SatC.region ?_
  refine SatL.pu (RunV.assign rfl) rfl ?_
  refine SatL.nil (SatE.thenC ?_)
  refine SatC.seq ?_
  refine SatC.seq ?_
  refine SatC.region ?_
  refine SatL.pu (RunV.move rfl) rfl ?_
  first | refine SatL.pu (RunV.lenR (by assumption) rfl rfl) rfl ?_ | refine SatL.pu (RunV.lenS rfl rfl) rfl ?_
  refine SatL.pu (RunV.move rfl) rfl ?_
  first | refine SatL.pu (RunV.lenR (by assumption) rfl rfl) rfl ?_ | refine SatL.pu (RunV.lenS rfl rfl) rfl ?_
  refine SatL.pu (RunV.neq rfl rfl) rfl ?_
  refine SatL.nil (SatE.thenC ?_)
  refine SatC.cond rfl (fun h1 => ?_) (fun h1 => ?_)
  · (try simp only [cx, ne_eq] at h1)
    try (exfalso; first | omega | exact h1 trivial)
    all_goals
    refine SatC.seq ?_
    refine SatC.region ?_
    refine SatL.pu (RunV.assign rfl) rfl ?_
    refine SatL.nil (SatE.thenC ?_)
    refine SatC.ret (SatE.then_ret ?_)
    refine SatE.ret1 rfl rfl ?_
    refine ⟨congrArg Value.bool ?_, hS⟩
    rw [decide_eq_false (fun e => h1 (by rw [e]))]
  · (try simp only [cx, ne_eq] at h1)
    try (exfalso; first | omega | exact h1 trivial)
    all_goals
    refine SatC.skip (SatE.thenC ?_)
    refine SatC.seq ?_
    refine SatC.seq ?_
    refine SatC.region ?_
    refine SatL.pu (RunV.assign rfl) rfl ?_
    refine SatL.nil (SatE.thenC ?_)
    refine SatC.block ?_
    refine SatC.loopK (G := Nat) (V := fun i => [(5, .int .i64 (i : Int))]) (Cn := [(0, _), (1, _), (4, _)]) (I := fun i w' => i ≤ ys.length ∧ ys.take i = zs.take i ∧ St w [] [] w') (μ := fun i => ys.length - i) 0 ?_ (by repeat constructor) ?_
    · exact ⟨Nat.zero_le _, rfl, hS⟩
    clear hS
    rintro i w1 ⟨hi, hf, hS⟩
    refine SatC.weak (e' := [(0, _), (1, _), (4, _), (5, _)]) (by repeat constructor) ?_
    refine SatC.seq ?_
    refine SatC.seq ?_
    refine SatC.region ?_
    refine SatL.pu (RunV.move rfl) rfl ?_
    refine SatL.pu (RunV.move rfl) rfl ?_
    first | refine SatL.pu (RunV.lenR (by assumption) rfl rfl) rfl ?_ | refine SatL.pu (RunV.lenS rfl rfl) rfl ?_
    refine SatL.pu (RunV.lss rfl rfl) rfl ?_
    refine SatL.nil (SatE.thenC ?_)
    refine SatC.cond rfl (fun h2 => ?_) (fun h2 => ?_)
    · (try simp only [cx, ne_eq] at h2)
      try (exfalso; first | omega | exact h2 trivial)
      all_goals
      refine SatC.skip (SatE.thenC ?_)
      refine SatC.seq ?_
      refine SatC.block ?_
      refine SatC.seq ?_
      obtain ⟨y, hy⟩ := get_some ys i (by omega)
      obtain ⟨z, hz⟩ := get_some zs i (by omega)
      refine SatC.drawnS 9 (hS) (by kernel_rfl) ?_
      clear hS
      intro w2 _ hS hD
      refine SatD.take 0 rfl [] (by kernel_rfl) (fun _ _ _ h => h) rfl rfl hD (fun _ hw => RunV.move rfl) ?_
      refine SatD.take 1 rfl [] (by kernel_rfl) (fun _ _ _ h => h) rfl rfl hD (fun _ hw => RunV.move rfl) ?_
      first | refine SatD.take 2 rfl [] (by kernel_rfl) (fun _ _ _ h => h) rfl rfl hD (fun _ hw => RunV.indexR (by assumption) rfl rfl rfl (by omega) (by omega) rfl) ?_ | refine SatD.take 2 rfl [] (by kernel_rfl) (fun _ _ _ h => h) rfl rfl hD (fun _ hw => RunV.indexS rfl rfl rfl (by omega) (by omega) rfl) ?_
      first | refine SatD.take 3 rfl [] (by kernel_rfl) (fun _ _ _ h => h) rfl rfl hD (fun _ hw => RunV.loadRNz (RdC.st (by assumption) hw List.not_mem_nil) rfl rfl (by first | assumption | exact map_get (by assumption))) ?_ | refine SatD.take 3 rfl [] (by kernel_rfl) (fun _ _ _ h => h) rfl rfl hD (fun _ hw => RunV.loadRNz (Sl.rd (by assumption) hw (by repeat constructor)) rfl rfl (by first | assumption | exact map_get (by assumption))) ?_
      refine SatD.take 4 rfl [] (by kernel_rfl) (fun _ _ _ h => h) rfl rfl hD (fun _ hw => RunV.move rfl) ?_
      refine SatD.take 5 rfl [] (by kernel_rfl) (fun _ _ _ h => h) rfl rfl hD (fun _ hw => RunV.move rfl) ?_
      first | refine SatD.take 6 rfl [] (by kernel_rfl) (fun _ _ _ h => h) rfl rfl hD (fun _ hw => RunV.indexR (by assumption) rfl rfl rfl (by omega) (by omega) rfl) ?_ | refine SatD.take 6 rfl [] (by kernel_rfl) (fun _ _ _ h => h) rfl rfl hD (fun _ hw => RunV.indexS rfl rfl rfl (by omega) (by omega) rfl) ?_
      first | refine SatD.take 7 rfl [] (by kernel_rfl) (fun _ _ _ h => h) rfl rfl hD (fun _ hw => RunV.loadRNz (RdC.st (by assumption) hw List.not_mem_nil) rfl rfl (by first | assumption | exact map_get (by assumption))) ?_ | refine SatD.take 7 rfl [] (by kernel_rfl) (fun _ _ _ h => h) rfl rfl hD (fun _ hw => RunV.loadRNz (Sl.rd (by assumption) hw (by repeat constructor)) rfl rfl (by first | assumption | exact map_get (by assumption))) ?_
      refine SatD.take 8 rfl [] (by kernel_rfl) (fun _ _ _ h => h) rfl rfl hD (fun _ hw => RunV.bin rfl rfl (guard24 _ _ _ _ _ _ _ _ _ _) (run_neq24 _ _ _ _ _ _ _)) ?_
      refine SatD.done 0 (by kernel_rfl) (SatE.thenC ?_)
      clear hD
      refine SatC.weak (e' := [(0, _), (1, _), (4, _), (5, _), (25, _)]) (by repeat constructor) ?_
      refine SatC.cond rfl (fun h3 => ?_) (fun h3 => ?_)
      · (try simp only [cx, ne_eq] at h3)
        try (exfalso; first | omega | exact h3 trivial)
        all_goals
        refine SatC.seq ?_
        refine SatC.region ?_
        refine SatL.pu (RunV.assign rfl) rfl ?_
        refine SatL.nil (SatE.thenC ?_)
        refine SatC.ret (SatE.blk_ret (SatE.then_ret (SatE.then_ret (SatE.blk_ret (SatE.then_ret ?_)))))
        refine SatE.ret1 rfl rfl ?_
        refine ⟨congrArg Value.bool ?_, hS⟩
        rw [decide_eq_false]
        rintro rfl
        rw [hy] at hz
        obtain rfl := Option.some.inj hz
        exact h3 rfl
      · (try simp only [cx, ne_eq] at h3)
        try (exfalso; first | omega | exact h3 trivial)
        all_goals
        refine SatC.skip (SatE.blk_normal (SatE.thenC ?_))
        refine SatC.region ?_
        refine SatL.pu (RunV.move rfl) rfl ?_
        refine SatL.pu (RunV.add rfl rfl (by first | exact wrapI64 (by omega) | rfl)) rfl ?_
        refine SatL.pu (RunV.assign rfl) rfl ?_
        refine SatL.nil ?_
        refine SatE.again (i + 1) ?_ (by first | omega | (dsimp only; omega)) (by repeat constructor)
        obtain rfl : y = z := by
          obtain ⟨a, b, c⟩ := y
          obtain ⟨a', b', c'⟩ := z
          simpa using h3
        exact ⟨by omega, by rw [List.take_add_one, List.take_add_one, hy, hz, hf], hS⟩
    · (try simp only [cx, ne_eq] at h2)
      try (exfalso; first | omega | exact h2 trivial)
      all_goals
      refine SatC.exit (SatE.then_exit (SatE.then_exit (SatE.blk_exit (SatE.thenC ?_))))
      refine SatC.seq ?_
      refine SatC.region ?_
      refine SatL.pu (RunV.assign rfl) rfl ?_
      refine SatL.nil (SatE.thenC ?_)
      refine SatC.ret ?_
      refine SatE.ret1 rfl rfl ?_
      refine ⟨congrArg Value.bool ?_, hS⟩
      obtain rfl : i = ys.length := by omega
      rw [List.take_length, List.take_of_length_le (by omega)] at hf
      rw [decide_eq_true hf]
end Go.Proofs.Ytnjegigoifkikaa
