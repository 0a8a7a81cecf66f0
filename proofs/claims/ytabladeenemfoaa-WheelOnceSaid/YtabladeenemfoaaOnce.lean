/- WheelOnce: a timer expires once, after its number of ticks, whatever is done to others. -/
import Derived.Test.YtabladeenemfoaaWh
import Derived.Test.YtabladeenemfoaaK7
import Derived.Test.YtabladeenemfoaaU
import Derived.Test.YtabladeenemfoaaK16
import Derived.Test.YtabladeenemfoaaK25
import Derived.Test.YtabladeenemfoaaRows
set_option linter.unusedSimpArgs false
set_option linter.unusedVariables false
set_option maxRecDepth 100000
set_option maxHeartbeats 8000000
namespace Go.Proofs.Ytabladeenemfoaa
open Go.RowKit Go.ChangeShapes Go.WideShapes Go.ChangeAt
@[reducible] def opr (x : Int × Int × Int) : List Value := [.int .i64 x.1, .int .i64 x.2.1, .int .i64 x.2.2]
theorem nil_prs {W : Wl} (h : W.ts.length = 0) : prs W = [] := by
  rw [List.length_eq_zero_iff] at h
  rw [prs, h]; rfl
theorem keep_set {W : Wl} (h : Inv W) {id k n : Int} {D : Nat} (hk : k ≠ id) (hd : ∀ d, (id, d) ∈ prs W ↔ d = D) : ∀ d, (id, d) ∈ prs (aSet W k n) ↔ d = D := fun d => by
  by_cases hok : setOk W k n
  · rw [aset_mem h hok, hd]
    constructor
    · rintro (⟨e, _⟩ | ⟨e, _⟩)
      · exact absurd e.symm hk
      · exact e
    · exact fun e => .inr ⟨e, fun e2 => hk e2.symm⟩
  · rw [aset_no hok]; exact hd d
theorem keep_stop {W : Wl} (h : Inv W) {id k : Int} {D : Nat} (hk : k ≠ id) (hd : ∀ d, (id, d) ∈ prs W ↔ d = D) : ∀ d, (id, d) ∈ prs (aStop W k) ↔ d = D := fun d => by
  rw [astop_mem h, hd]
  exact ⟨fun e => e.1, fun e => ⟨e, fun e2 => hk e2.symm⟩⟩
theorem tick_one {W : Wl} (h : Inv W) {id : Int} {D : Nat} (hd : ∀ d, (id, d) ∈ prs W ↔ d = D ∧ W.now < D) : (∀ d, (id, d) ∈ prs (aTick W).1 ↔ d = D ∧ W.now + 1 < D) ∧ (id ∈ (aTick W).2 ↔ W.now + 1 = D) := by
  constructor
  · intro d
    rw [atick_mem h, hd]
    omega
  · rw [atick_out h, hd]
    omega
theorem once_any (id : Int) (n1 n2 : Nat) (hb1 : n1 < 65536) (hb2 : n2 < 65536) (v : Value) (ys : List (Int × Int × Int)) (w : World) (hr : RdRow w v 3 (ys.map opr)) : Ret Try.prog 3 #[.int .i64 id, .agg #[.int .u16 (n1 : Int), .int .u16 (n2 : Int)], v] w fun v w' => v = .bool true ∧ St w [] [] w' := by
  have hS := St.init0 w
  obtain ⟨bl, ol, cl, hvl, hmaxl, hcl, hltl⟩ := hr.open
  simp only [List.length_map] at hvl hmaxl
  obtain ⟨T, hT⟩ : ∃ T, T = n2 % 5000 := ⟨_, rfl⟩
  obtain ⟨A, hA⟩ : ∃ A, A = 1 + n1 % 9000 := ⟨_, rfl⟩
  refine Ret.enter Try.func3 Try.ntmps3 rfl rfl ?_
  simp only [argEnv, Nat.reduceAdd]
  refine SatC.seq ?_
  refine SatC.region ?_
  refine SatL.op rfl (OpW.box hS rfl rfl (by repeat constructor) ?_)
  clear hS
  intro b4 w1 _ hS
  refine SatL.pu (RunV.assign rfl) rfl ?_
  refine SatL.nil (SatE.thenC ?_)
  refine SatC.seq ?_
  refine SatC.drawnT 6 hS (hS) (by kernel_rfl) ?_
  clear hS
  intro w2 hh hS hD
  refine SatD.tk 0 rfl hD (fun _ hw => RunV.indexA rfl rfl rfl (by omega) (by omega) rfl) ?_
  refine SatD.tk 1 rfl hD (fun _ hw => RunV.load1 hw rfl rfl (by repeat constructor) rfl) ?_
  refine SatD.tk 2 rfl hD (fun _ hw => RunV.indexA rfl rfl rfl (by omega) (by omega) rfl) ?_
  refine SatD.tk 3 rfl hD (fun _ hw => RunV.load1 hw rfl rfl (by repeat constructor) rfl) ?_
  refine SatD.tk 4 rfl hD (fun _ hw => RunV.assign rfl) ?_
  refine SatD.tk 5 rfl hD (fun _ hw => RunV.assign rfl) ?_
  refine SatD.done 0 (by kernel_rfl) (SatE.thenC ?_)
  clear hD
  refine SatC.seq ?_
  refine SatC.region ?_
  refine SatL.op rfl (OpW.enter rfl rfl rfl (rfl) (new_k _) ?_)
  rintro r3 w3 ⟨b, m, L0, rfl, hk0, h⟩
  replace hS := hS.callT (A := []) .nil h
  have hS := hS.sel (R := L0) (by repeat constructor)
  refine SatL.pu (RunV.assign rfl) rfl ?_
  refine SatL.nil (SatE.thenC ?_)
  refine SatC.seq ?_
  refine SatC.seq ?_
  refine SatC.region ?_
  refine SatL.pu (RunV.assign rfl) rfl ?_
  refine SatL.nil (SatE.thenC ?_)
  refine SatC.block ?_
  refine SatC.loopK (G := Nat × Wl × List (Nat × Obj)) (V := fun ⟨k, W1, L1⟩ => [(10, .int .i64 (k : Int))]) (Cn := [(0, _), (2, _), (6, _), (7, _), (8, _), (9, _)]) (I := fun ⟨k, W1, L1⟩ w' => k ≤ T ∧ W1.now = k ∧ W1.ts.length = 0 ∧ Wk b m W1 L1 ∧ St w [] L1 w') (μ := fun ⟨k, W1, L1⟩ => T - k) (0, w0, L0) ?_ (by repeat constructor) ?_
  · exact ⟨by omega, rfl, rfl, hk0, hS⟩
  clear hS
  rintro ⟨k, W1, L1⟩ w4 ⟨hk, hn1, hl1, hk1, hS⟩
  refine SatC.weak (e' := [(0, _), (2, _), (6, _), (7, _), (8, _), (9, _), (10, _)]) (by repeat constructor) ?_
  refine SatC.seq ?_
  refine SatC.seq ?_
  refine SatC.region ?_
  refine SatL.pu (RunV.move rfl) rfl ?_
  refine SatL.pu (RunV.move rfl) rfl ?_
  refine SatL.pu (RunV.remP rfl rfl (by omega) (by decide)) rfl ?_
  refine SatL.pu (RunV.conv rfl rfl rfl (wrapI64 (by omega))) rfl ?_
  refine SatL.pu (RunV.lss rfl rfl) rfl ?_
  refine SatL.nil (SatE.thenC ?_)
  refine SatC.cond rfl (fun h1 => ?_) (fun h1 => ?_)
  · (try simp only [cx, ne_eq] at h1)
    try (exfalso; (first | omega | exact h1 trivial | contradiction | (first | omega | (simp at h1; done) | (exact absurd hgood h1) | (simp [hgood] at h1; done) | (rw [decide_eq_true_iff] at h1; omega))); done)
    all_goals
    refine SatC.skip (SatE.thenC ?_)
    refine SatC.seq ?_
    refine SatC.block ?_
    refine SatC.region ?_
    refine SatL.pu (RunV.move rfl) rfl ?_
    refine SatL.op rfl (OpW.enter rfl rfl rfl (rfl) (tick_k (by omega) hk1 (hS.ownT (A := L1) (.whole .all))) ?_)
    rintro r5 w5 ⟨AB, L2, hsl, hal, hk2, hn2, h⟩
    replace hS := hS.callT (A := L1) (.whole .all) h
    simp only [List.append_assoc, List.append_nil] at hS
    refine SatL.nil (SatE.blk_normal (SatE.thenC ?_))
    refine SatC.region ?_
    refine SatL.pu (RunV.move rfl) rfl ?_
    refine SatL.pu (RunV.add rfl rfl (by first | exact wrapI64 (by omega) | rfl)) rfl ?_
    refine SatL.pu (RunV.assign rfl) rfl ?_
    refine SatL.nil ?_
    refine SatE.again ((k + 1, (aTick W1).1, L2)) ?_ (by first | omega | (dsimp only; omega)) (by repeat constructor)
    exact ⟨by omega, by omega, by have := (atick_len hk1.inv).1; omega, hk2, hS.sel (by repeat constructor)⟩
  · (try simp only [cx, ne_eq] at h1)
    try (exfalso; (first | omega | exact h1 trivial | contradiction | (first | omega | (simp at h1; done) | (exact absurd hgood h1) | (simp [hgood] at h1; done) | (rw [decide_eq_true_iff] at h1; omega))); done)
    all_goals
    refine SatC.exit (SatE.then_exit (SatE.then_exit (SatE.blk_exit (SatE.thenC ?_))))
    refine SatC.seq ?_
    obtain rfl : k = T := by omega
    have hok1 : setOk W1 id (A : Int) := ⟨by omega, by omega, .inr (by omega)⟩
    have hp2 : ∀ d, (id, d) ∈ prs (aSet W1 id (A : Int)) ↔ d = k + A := fun d => by
      rw [aset_mem hk1.inv hok1, nil_prs hl1, hn1, Int.toNat_natCast]
      simp
    refine SatC.region ?_
    refine SatL.pu (RunV.move rfl) rfl ?_
    refine SatL.pu (RunV.remP rfl rfl (by omega) (by decide)) rfl ?_
    refine SatL.pu (RunV.conv rfl rfl rfl (wrapI64 (by omega))) rfl ?_
    refine SatL.pu (RunV.cast (v' := .int .i64 (A : Int)) (RunV.add rfl rfl (wrapI64 (by omega))) (by congr 1; omega)) rfl ?_
    refine SatL.pu (RunV.assign rfl) rfl ?_
    refine SatL.nil (SatE.thenC ?_)
    refine SatC.seq ?_
    refine SatC.seq ?_
    refine SatC.weak (e' := [(0, _), (2, _), (6, _), (9, _), (11, _)]) (by repeat constructor) ?_
    refine SatC.region ?_
    refine SatL.pu (RunV.move rfl) rfl ?_
    refine SatL.pu (RunV.move rfl) rfl ?_
    refine SatL.pu (RunV.move rfl) rfl ?_
    refine SatL.op rfl (OpW.enter rfl rfl rfl (rfl) (set_k id (A : Int) (by omega) hk1 (hS.ownT (A := L1) (.whole .all))) ?_)
    rintro r5 w5 ⟨rfl, L2, hk2, hn2, h⟩
    replace hS := hS.callT (A := L1) (.whole .all) h
    rw [decide_eq_true hok1]
    rw [List.append_nil] at hS
    refine SatL.pu (RunV.not rfl) rfl ?_
    refine SatL.nil (SatE.thenC ?_)
    refine SatC.cond rfl (fun h2 => ?_) (fun h2 => ?_)
    · (try simp only [cx, ne_eq] at h2)
      try (exfalso; (first | omega | exact h2 trivial | contradiction | (first | omega | (simp at h2; done) | (exact absurd hgood h2) | (simp [hgood] at h2; done) | (rw [decide_eq_true_iff] at h2; omega))); done)
      all_goals
      refine SatC.seq ?_
      refine SatC.region ?_
      refine SatL.pu (RunV.assign rfl) rfl ?_
      refine SatL.nil (SatE.thenC ?_)
      refine SatC.ret (SatE.then_ret ?_)
      refine SatE.ret1 rfl rfl ?_
      exact ⟨rfl, hS.sel .nil⟩
    · (try simp only [cx, ne_eq] at h2)
      try (exfalso; (first | omega | exact h2 trivial | contradiction | (first | omega | (simp at h2; done) | (exact absurd hgood h2) | (simp [hgood] at h2; done) | (rw [decide_eq_true_iff] at h2; omega))); done)
      all_goals
      refine SatC.skip (SatE.thenC ?_)
      refine SatC.seq ?_
      refine SatC.seq ?_
      refine SatC.region ?_
      refine SatL.pu (RunV.assign rfl) rfl ?_
      refine SatL.nil (SatE.thenC ?_)
      refine SatC.block ?_
      refine SatC.loopK (G := Nat × Wl × List (Nat × Obj)) (V := fun ⟨i, W3, L3⟩ => [(12, .int .i64 (i : Int))]) (Cn := [(0, _), (2, _), (6, _), (9, _), (11, _)]) (I := fun ⟨i, W3, L3⟩ w' => i ≤ ys.length ∧ W3.now = k ∧ (∀ d, (id, d) ∈ prs W3 ↔ d = k + A) ∧ Wk b m W3 L3 ∧ St w [] L3 w') (μ := fun ⟨i, W3, L3⟩ => ys.length - i) (0, aSet W1 id (A : Int), L2) ?_ (by repeat constructor) ?_
      · exact ⟨by omega, by omega, hp2, hk2, hS⟩
      clear hS
      rintro ⟨i, W3, L3⟩ w6 ⟨hi, hn3, hp3, hk3, hS⟩
      refine SatC.weak (e' := [(0, _), (2, _), (6, _), (9, _), (11, _), (12, _)]) (by repeat constructor) ?_
      refine SatC.seq ?_
      refine SatC.seq ?_
      refine SatC.region ?_
      refine SatL.pu (RunV.move rfl) rfl ?_
      refine SatL.pu (RunV.move rfl) rfl ?_
      first | refine SatL.pu (RunV.lenR (by assumption) rfl rfl) rfl ?_ | refine SatL.pu (RunV.lenS rfl rfl) rfl ?_
      refine SatL.pu (RunV.lss rfl rfl) rfl ?_
      refine SatL.pu (RunV.move rfl) rfl ?_
      refine SatL.guard rfl rfl rfl (fun h3 => ?_) (fun h3 => ?_)
      · (try simp only [cx, ne_eq] at h3)
        try (exfalso; (first | omega | exact h3 trivial | contradiction | (first | omega | (simp at h3; done) | (exact absurd hgood h3) | (simp [hgood] at h3; done) | (rw [decide_eq_true_iff] at h3; omega))); done)
        all_goals
        refine SatL.pu (RunV.move rfl) rfl ?_
        refine SatL.guard_y rfl rfl ?_
        refine SatL.pu (RunV.lss rfl rfl) rfl ?_
        refine SatL.pu (RunV.pick_t rfl rfl) rfl ?_
        refine SatL.nil (SatE.thenC ?_)
        refine SatC.cond rfl (fun h4 => ?_) (fun h4 => ?_)
        · (try simp only [cx, ne_eq] at h4)
          try (exfalso; (first | omega | exact h4 trivial | contradiction | (first | omega | (simp at h4; done) | (exact absurd hgood h4) | (simp [hgood] at h4; done) | (rw [decide_eq_true_iff] at h4; omega))); done)
          all_goals
          refine SatC.skip (SatE.thenC ?_)
          refine SatC.seq ?_
          refine SatC.block ?_
          refine SatC.seq ?_
          refine SatC.seq ?_
          obtain ⟨y, hy⟩ := get_some ys i (by omega)
          refine SatC.region ?_
          refine SatL.pu (RunV.move rfl) rfl ?_
          refine SatL.pu (RunV.move rfl) rfl ?_
          first | refine SatL.pu (RunV.indexR (by assumption) rfl rfl rfl (by omega) (by omega) rfl) rfl ?_ | refine SatL.pu (RunV.indexS rfl rfl rfl (by omega) (by omega) rfl) rfl ?_
          first | refine SatL.pu (RunV.fieldAddrL rfl rfl rfl) rfl ?_ | refine SatL.pu (RunV.fieldAddr rfl rfl rfl) rfl ?_
          refine SatL.pu (RunV.loadR1g i 1 (RdC.st hcl hS List.not_mem_nil) rfl rfl (by omega) (map_get hy) rfl) rfl ?_
          refine SatL.pu (RunV.move rfl) rfl ?_
          refine SatL.pu (RunV.eql rfl rfl) rfl ?_
          refine SatL.nil (SatE.thenC ?_)
          refine SatC.weak (e' := [(0, _), (2, _), (6, _), (9, _), (11, _), (12, _), (56, _)]) (by repeat constructor) ?_
          refine SatC.cond rfl (fun h5 => ?_) (fun h5 => ?_)
          · (try simp only [cx, ne_eq] at h5)
            try (exfalso; (first | omega | exact h5 trivial | contradiction | (first | omega | (simp at h5; done) | (exact absurd hgood h5) | (simp [hgood] at h5; done) | (rw [decide_eq_true_iff] at h5; omega))); done)
            all_goals
            refine SatC.exit (SatE.then_exit (SatE.blk_exit (SatE.thenC ?_)))
            refine SatC.region ?_
            refine SatL.pu (RunV.move rfl) rfl ?_
            refine SatL.pu (RunV.add rfl rfl (by first | exact wrapI64 (by omega) | rfl)) rfl ?_
            refine SatL.pu (RunV.assign rfl) rfl ?_
            refine SatL.nil ?_
            refine SatE.again ((i + 1, W3, L3)) ?_ (by first | omega | (dsimp only; omega)) (by repeat constructor)
            exact ⟨by omega, hn3, hp3, hk3, hS⟩
          · (try simp only [cx, ne_eq] at h5)
            try (exfalso; (first | omega | exact h5 trivial | contradiction | (first | omega | (simp at h5; done) | (exact absurd hgood h5) | (simp [hgood] at h5; done) | (rw [decide_eq_true_iff] at h5; omega))); done)
            all_goals
            refine SatC.skip (SatE.thenC ?_)
            refine SatC.seq ?_
            refine SatC.region ?_
            refine SatL.pu (RunV.move rfl) rfl ?_
            refine SatL.pu (RunV.move rfl) rfl ?_
            first | refine SatL.pu (RunV.indexR (by assumption) rfl rfl rfl (by omega) (by omega) rfl) rfl ?_ | refine SatL.pu (RunV.indexS rfl rfl rfl (by omega) (by omega) rfl) rfl ?_
            first | refine SatL.pu (RunV.fieldAddrL rfl rfl rfl) rfl ?_ | refine SatL.pu (RunV.fieldAddr rfl rfl rfl) rfl ?_
            refine SatL.pu (RunV.loadR1g i 0 (RdC.st hcl hS List.not_mem_nil) rfl rfl (by omega) (map_get hy) rfl) rfl ?_
            refine SatL.pu (RunV.eql rfl rfl) rfl ?_
            refine SatL.nil (SatE.thenC ?_)
            refine SatC.cond rfl (fun h6 => ?_) (fun h6 => ?_)
            · (try simp only [cx, ne_eq] at h6)
              try (exfalso; (first | omega | exact h6 trivial | contradiction | (first | omega | (simp at h6; done) | (exact absurd hgood h6) | (simp [hgood] at h6; done) | (rw [decide_eq_true_iff] at h6; omega))); done)
              all_goals
              refine SatC.drawnT 11 hS (hS.sub (List.nil_sublist _)) (by kernel_rfl) ?_
              clear hS
              intro w7 hh hS hD
              refine SatD.tk 0 rfl hD (fun _ hw => RunV.move rfl) ?_
              refine SatD.tkp 1 rfl [5, 4, 3] hD (fun _ hw => RunV.move rfl) ?_
              refine SatD.tkp 2 rfl [5, 4, 3] hD (fun _ hw => RunV.move rfl) ?_
              first | refine SatD.tkp 3 rfl [5, 4] hD (fun _ hw => RunV.indexR (by assumption) rfl rfl rfl (by omega) (by omega) rfl) ?_ | refine SatD.tkp 3 rfl [5, 4] hD (fun _ hw => RunV.indexS rfl rfl rfl (by omega) (by omega) rfl) ?_
              first | refine SatD.tkp 4 rfl [5] hD (fun _ hw => RunV.fieldAddrL rfl rfl rfl) ?_ | refine SatD.tkp 4 rfl [5] hD (fun _ hw => RunV.fieldAddr rfl rfl rfl) ?_
              refine SatD.tk 5 rfl hD (fun _ hw => RunV.loadR1g i 1 (RdC.st hcl hw List.not_mem_nil) rfl rfl (by omega) (map_get hy) rfl) ?_
              refine SatD.tkp 6 rfl [10, 9, 8] hD (fun _ hw => RunV.move rfl) ?_
              refine SatD.tkp 7 rfl [10, 9, 8] hD (fun _ hw => RunV.move rfl) ?_
              first | refine SatD.tkp 8 rfl [10, 9] hD (fun _ hw => RunV.indexR (by assumption) rfl rfl rfl (by omega) (by omega) rfl) ?_ | refine SatD.tkp 8 rfl [10, 9] hD (fun _ hw => RunV.indexS rfl rfl rfl (by omega) (by omega) rfl) ?_
              first | refine SatD.tkp 9 rfl [10] hD (fun _ hw => RunV.fieldAddrL rfl rfl rfl) ?_ | refine SatD.tkp 9 rfl [10] hD (fun _ hw => RunV.fieldAddr rfl rfl rfl) ?_
              refine SatD.tk 10 rfl hD (fun _ hw => RunV.loadR1g i 2 (RdC.st hcl hw List.not_mem_nil) rfl rfl (by omega) (map_get hy) rfl) ?_
              refine SatD.effF (by kernel_rfl) rfl rfl (OpW.enter rfl rfl rfl (rfl) (set_k y.2.1 y.2.2 (by omega) hk3 (hS.ownT (A := L3) (.whole .all))) ?_)
              rintro r8 w8 ⟨rfl, L4, hk4, hn4, h⟩
              replace hS := hS.callT (A := L3) (.whole .all) h
              rw [List.append_nil] at hS
              refine SatD.done 0 (by kernel_rfl) (SatE.blk_normal (SatE.thenC ?_))
              clear hD
              refine SatC.weak (e' := [(0, _), (2, _), (6, _), (9, _), (11, _), (12, _)]) (by repeat constructor) ?_
              refine SatC.region ?_
              refine SatL.pu (RunV.move rfl) rfl ?_
              refine SatL.pu (RunV.add rfl rfl (by first | exact wrapI64 (by omega) | rfl)) rfl ?_
              refine SatL.pu (RunV.assign rfl) rfl ?_
              refine SatL.nil ?_
              refine SatE.again ((i + 1, aSet W3 y.2.1 y.2.2, L4)) ?_ (by first | omega | (dsimp only; omega)) (by repeat constructor)
              exact ⟨by omega, by omega, keep_set hk3.inv (by assumption) hp3, hk4, hS⟩
            · (try simp only [cx, ne_eq] at h6)
              try (exfalso; (first | omega | exact h6 trivial | contradiction | (first | omega | (simp at h6; done) | (exact absurd hgood h6) | (simp [hgood] at h6; done) | (rw [decide_eq_true_iff] at h6; omega))); done)
              all_goals
              refine SatC.region ?_
              refine SatL.pu (RunV.move rfl) rfl ?_
              refine SatL.pu (RunV.move rfl) rfl ?_
              refine SatL.pu (RunV.move rfl) rfl ?_
              first | refine SatL.pu (RunV.indexR (by assumption) rfl rfl rfl (by omega) (by omega) rfl) rfl ?_ | refine SatL.pu (RunV.indexS rfl rfl rfl (by omega) (by omega) rfl) rfl ?_
              first | refine SatL.pu (RunV.fieldAddrL rfl rfl rfl) rfl ?_ | refine SatL.pu (RunV.fieldAddr rfl rfl rfl) rfl ?_
              refine SatL.pu (RunV.loadR1g i 1 (RdC.st hcl hS List.not_mem_nil) rfl rfl (by omega) (map_get hy) rfl) rfl ?_
              refine SatL.op rfl (OpW.enter rfl rfl rfl (rfl) (stop_k y.2.1 hk3 (hS.ownT (A := L3) (.whole .all))) ?_)
              rintro r7 w7 ⟨rfl, L4, hk4, hn4, h⟩
              replace hS := hS.callT (A := L3) (.whole .all) h
              rw [List.append_nil] at hS
              refine SatL.nil (SatE.blk_normal (SatE.thenC ?_))
              refine SatC.weak (e' := [(0, _), (2, _), (6, _), (9, _), (11, _), (12, _)]) (by repeat constructor) ?_
              refine SatC.region ?_
              refine SatL.pu (RunV.move rfl) rfl ?_
              refine SatL.pu (RunV.add rfl rfl (by first | exact wrapI64 (by omega) | rfl)) rfl ?_
              refine SatL.pu (RunV.assign rfl) rfl ?_
              refine SatL.nil ?_
              refine SatE.again ((i + 1, aStop W3 y.2.1, L4)) ?_ (by first | omega | (dsimp only; omega)) (by repeat constructor)
              exact ⟨by omega, by omega, keep_stop hk3.inv (by assumption) hp3, hk4, hS⟩
        · (try simp only [cx, ne_eq] at h4)
          try (exfalso; (first | omega | exact h4 trivial | contradiction | (first | omega | (simp at h4; done) | (exact absurd hgood h4) | (simp [hgood] at h4; done) | (rw [decide_eq_true_iff] at h4; omega))); done)
          all_goals
          refine SatC.exit (SatE.then_exit (SatE.then_exit (SatE.blk_exit (SatE.thenC ?_))))
          refine SatC.seq ?_
          refine SatC.seq ?_
          refine SatC.region ?_
          refine SatL.pu (RunV.assign rfl) rfl ?_
          refine SatL.nil (SatE.thenC ?_)
          refine SatC.block ?_
          refine SatC.loopK (G := Nat × Wl × List (Nat × Obj)) (V := fun ⟨j, W5, L5⟩ => [(13, .int .i64 (j : Int))]) (Cn := [(0, _), (9, _), (11, _), (6, _)]) (I := fun ⟨j, W5, L5⟩ w' => 1 ≤ j ∧ j ≤ A + 71 ∧ W5.now + 1 = k + j ∧ (∀ d, (id, d) ∈ prs W5 ↔ d = k + A ∧ W5.now < k + A) ∧ Wk b m W5 L5 ∧ St w [] L5 w') (μ := fun ⟨j, W5, L5⟩ => A + 71 - j) (1, W3, L3) ?_ (by repeat constructor) ?_
          · exact ⟨by omega, by omega, by omega, (fun d => by rw [hp3]; omega), hk3, hS⟩
          clear hS
          rintro ⟨j, W5, L5⟩ w7 ⟨hj1, hj, hn5, hp5, hk5, hS⟩
          refine SatC.weak (e' := [(0, _), (6, _), (9, _), (11, _), (13, _)]) (by repeat constructor) ?_
          refine SatC.seq ?_
          refine SatC.seq ?_
          refine SatC.region ?_
          refine SatL.pu (RunV.move rfl) rfl ?_
          refine SatL.pu (RunV.move rfl) rfl ?_
          refine SatL.pu (RunV.add rfl rfl (by first | exact wrapI64 (by omega) | rfl)) rfl ?_
          refine SatL.pu (RunV.leq rfl rfl) rfl ?_
          refine SatL.nil (SatE.thenC ?_)
          refine SatC.cond rfl (fun h5 => ?_) (fun h5 => ?_)
          · (try simp only [cx, ne_eq] at h5)
            try (exfalso; (first | omega | exact h5 trivial | contradiction | (first | omega | (simp at h5; done) | (exact absurd hgood h5) | (simp [hgood] at h5; done) | (rw [decide_eq_true_iff] at h5; omega))); done)
            all_goals
            refine SatC.skip (SatE.thenC ?_)
            refine SatC.seq ?_
            refine SatC.block ?_
            refine SatC.seq ?_
            refine SatC.region ?_
            refine SatL.pu (RunV.move rfl) rfl ?_
            refine SatL.op rfl (OpW.enter rfl rfl rfl (rfl) (tick_k (by omega) hk5 (hS.ownT (A := L5) (.whole .all))) ?_)
            rintro r8 w8 ⟨AB, L6, hsl, hal, hk6, hn6, h⟩
            replace hS := hS.callT (A := L5) (.whole .all) h
            obtain ⟨hp6, hout⟩ := tick_one hk5.inv hp5
            obtain ⟨vc, hv⟩ := hsl.slv
            rw [List.length_map] at hv
            simp only [List.append_assoc, List.append_nil] at hS
            generalize hO : (aTick W5).2 = O at hsl hal hout hv
            refine SatL.pu (RunV.assign rfl) rfl ?_
            refine SatL.nil (SatE.thenC ?_)
            refine SatC.seq ?_
            refine SatC.region ?_
            refine SatL.pu (RunV.assign rfl) rfl ?_
            refine SatL.nil (SatE.thenC ?_)
            refine SatC.seq ?_
            refine SatC.seq ?_
            refine SatC.region ?_
            refine SatL.pu (RunV.assign rfl) rfl ?_
            refine SatL.nil (SatE.thenC ?_)
            refine SatC.block ?_
            refine SatC.loopK (G := Nat × Bool) (V := fun ⟨q, fnd⟩ => [(16, .int .i64 (q : Int)), (15, .bool fnd)]) (Cn := [(0, _), (6, _), (9, _), (11, _), (13, _), (14, _)]) (I := fun ⟨q, fnd⟩ w' => q ≤ O.length ∧ (fnd = true ↔ id ∈ O.take q) ∧ St w [] (AB ++ L6) w') (μ := fun ⟨q, fnd⟩ => O.length - q) (0, false) ?_ (by repeat constructor) ?_
            · exact ⟨by omega, (by simp), hS⟩
            clear hS
            rintro ⟨q, fnd⟩ w9 ⟨hq, hfnd, hS⟩
            refine SatC.weak (e' := [(0, _), (6, _), (9, _), (11, _), (13, _), (14, _), (15, _), (16, _)]) (by repeat constructor) ?_
            refine SatC.seq ?_
            refine SatC.seq ?_
            refine SatC.region ?_
            refine SatL.pu (RunV.move rfl) rfl ?_
            refine SatL.pu (RunV.move rfl) rfl ?_
            first | refine SatL.pu (RunV.lenR (by assumption) rfl rfl) rfl ?_ | refine SatL.pu (RunV.lenS rfl rfl) rfl ?_
            refine SatL.pu (RunV.lss rfl rfl) rfl ?_
            refine SatL.nil (SatE.thenC ?_)
            refine SatC.cond rfl (fun h6 => ?_) (fun h6 => ?_)
            · (try simp only [cx, ne_eq] at h6)
              try (exfalso; (first | omega | exact h6 trivial | contradiction | (first | omega | (simp at h6; done) | (exact absurd hgood h6) | (simp [hgood] at h6; done) | (rw [decide_eq_true_iff] at h6; omega))); done)
              all_goals
              refine SatC.skip (SatE.thenC ?_)
              refine SatC.seq ?_
              refine SatC.block ?_
              obtain ⟨z, hz⟩ := get_some O q (by omega)
              have htk : O.take (q + 1) = O.take q ++ [z] := by rw [List.take_add_one, hz]; rfl
              refine SatC.region ?_
              refine SatL.pu (RunV.move rfl) rfl ?_
              refine SatL.pu (RunV.move rfl) rfl ?_
              refine SatL.guard rfl rfl rfl (fun h7 => ?_) (fun h7 => ?_)
              · (try simp only [cx, ne_eq] at h7)
                try (exfalso; (first | omega | exact h7 trivial | contradiction | (first | omega | (simp at h7; done) | (exact absurd hgood h7) | (simp [hgood] at h7; done) | (rw [decide_eq_true_iff] at h7; omega))); done)
                all_goals
                refine SatL.pu (RunV.move rfl) rfl ?_
                refine SatL.guard_y rfl rfl ?_
                refine SatL.pu (RunV.move rfl) rfl ?_
                refine SatL.guard_y rfl rfl ?_
                first | refine SatL.pu (RunV.indexR (by assumption) rfl rfl rfl (by omega) (by omega) rfl) rfl ?_ | refine SatL.pu (RunV.indexS rfl rfl rfl (by omega) (by omega) rfl) rfl ?_
                refine SatL.guard_y rfl rfl ?_
                refine SatL.pu (RunV.loadR1g q 0 (Sl.rd hsl hS (by repeat constructor)) rfl rfl (by omega) (map_get hz) rfl) rfl ?_
                refine SatL.guard_y rfl rfl ?_
                refine SatL.pu (RunV.move rfl) rfl ?_
                refine SatL.guard_y rfl rfl ?_
                refine SatL.pu (RunV.eql rfl rfl) rfl ?_
                refine SatL.pu (RunV.pick_f rfl rfl) rfl ?_
                refine SatL.pu (RunV.assign rfl) rfl ?_
                refine SatL.nil (SatE.blk_normal (SatE.thenC ?_))
                refine SatC.weak (e' := [(0, _), (6, _), (9, _), (11, _), (13, _), (14, _), (15, _), (16, _)]) (by repeat constructor) ?_
                refine SatC.region ?_
                refine SatL.pu (RunV.move rfl) rfl ?_
                refine SatL.pu (RunV.add rfl rfl (by first | exact wrapI64 (by omega) | rfl)) rfl ?_
                refine SatL.pu (RunV.assign rfl) rfl ?_
                refine SatL.nil ?_
                refine SatE.again ((q + 1, decide (z = id))) ?_ (by first | omega | (dsimp only; omega)) (by repeat constructor)
                refine ⟨by omega, ?_, hS⟩
                have hff : ¬ fnd = true := by simp_all
                rw [htk, List.mem_append, ← hfnd, decide_eq_true_eq]
                exact ⟨fun e => .inr (by simp [e]), fun e => e.elim (fun e => absurd e hff) (fun e => (List.mem_singleton.1 e).symm)⟩
              · (try simp only [cx, ne_eq] at h7)
                try (exfalso; (first | omega | exact h7 trivial | contradiction | (first | omega | (simp at h7; done) | (exact absurd hgood h7) | (simp [hgood] at h7; done) | (rw [decide_eq_true_iff] at h7; omega))); done)
                all_goals
                refine SatL.guard_n rfl rfl rfl rfl ?_
                refine SatL.guard_n rfl rfl rfl rfl ?_
                refine SatL.guard_n rfl rfl rfl rfl ?_
                refine SatL.guard_n rfl rfl rfl rfl ?_
                refine SatL.guard_n rfl rfl rfl rfl ?_
                refine SatL.pu (RunV.pick_t rfl rfl) rfl ?_
                refine SatL.pu (RunV.assign rfl) rfl ?_
                refine SatL.nil (SatE.blk_normal (SatE.thenC ?_))
                refine SatC.weak (e' := [(0, _), (6, _), (9, _), (11, _), (13, _), (14, _), (15, _), (16, _)]) (by repeat constructor) ?_
                refine SatC.region ?_
                refine SatL.pu (RunV.move rfl) rfl ?_
                refine SatL.pu (RunV.add rfl rfl (by first | exact wrapI64 (by omega) | rfl)) rfl ?_
                refine SatL.pu (RunV.assign rfl) rfl ?_
                refine SatL.nil ?_
                refine SatE.again ((q + 1, true)) ?_ (by first | omega | (dsimp only; omega)) (by repeat constructor)
                refine ⟨by omega, ?_, hS⟩
                have hft : fnd = true := by simp_all
                rw [htk, List.mem_append]
                exact ⟨fun _ => .inl (hfnd.1 hft), fun _ => rfl⟩
            · (try simp only [cx, ne_eq] at h6)
              try (exfalso; (first | omega | exact h6 trivial | contradiction | (first | omega | (simp at h6; done) | (exact absurd hgood h6) | (simp [hgood] at h6; done) | (rw [decide_eq_true_iff] at h6; omega))); done)
              all_goals
              refine SatC.exit (SatE.then_exit (SatE.then_exit (SatE.blk_exit (SatE.thenC ?_))))
              refine SatC.seq ?_
              rw [List.take_of_length_le (by omega)] at hfnd
              have hgood : fnd = decide ((j : Int) = (A : Int)) := by
                rw [Bool.eq_iff_iff, hfnd, hout, decide_eq_true_eq]
                omega
              refine SatC.region ?_
              refine SatL.pu (RunV.move rfl) rfl ?_
              refine SatL.pu (RunV.move rfl) rfl ?_
              refine SatL.pu (RunV.move rfl) rfl ?_
              refine SatL.pu (RunV.eql rfl rfl) rfl ?_
              refine SatL.pu (RunV.bneq rfl rfl rfl) rfl ?_
              refine SatL.nil (SatE.thenC ?_)
              refine SatC.cond rfl (fun h7 => ?_) (fun h7 => ?_)
              · (try simp only [cx, ne_eq] at h7)
                try (exfalso; (first | omega | exact h7 trivial | contradiction | (first | omega | (simp at h7; done) | (exact absurd hgood h7) | (simp [hgood] at h7; done) | (rw [decide_eq_true_iff] at h7; omega))); done)
                all_goals
                refine SatC.seq ?_
                refine SatC.weak (e' := [(0, _), (6, _), (9, _), (11, _), (13, _)]) (by repeat constructor) ?_
                refine SatC.region ?_
                refine SatL.pu (RunV.assign rfl) rfl ?_
                refine SatL.nil (SatE.thenC ?_)
                refine SatC.ret (SatE.blk_ret (SatE.then_ret (SatE.then_ret (SatE.blk_ret (SatE.then_ret ?_)))))
                refine SatE.ret1 rfl rfl ?_
                exact ⟨rfl, hS.sel .nil⟩
              · (try simp only [cx, ne_eq] at h7)
                try (exfalso; (first | omega | exact h7 trivial | contradiction | (first | omega | (simp at h7; done) | (exact absurd hgood h7) | (simp [hgood] at h7; done) | (rw [decide_eq_true_iff] at h7; omega))); done)
                all_goals
                refine SatC.skip (SatE.blk_normal (SatE.thenC ?_))
                refine SatC.weak (e' := [(0, _), (6, _), (9, _), (11, _), (13, _)]) (by repeat constructor) ?_
                refine SatC.region ?_
                refine SatL.pu (RunV.move rfl) rfl ?_
                refine SatL.pu (RunV.add rfl rfl (by first | exact wrapI64 (by omega) | rfl)) rfl ?_
                refine SatL.pu (RunV.assign rfl) rfl ?_
                refine SatL.nil ?_
                refine SatE.again ((j + 1, (aTick W5).1, L6)) ?_ (by first | omega | (dsimp only; omega)) (by repeat constructor)
                exact ⟨by omega, by omega, by omega, (fun d => by rw [hp6, hn6]), hk6, hS.sel (by repeat constructor)⟩
          · (try simp only [cx, ne_eq] at h5)
            try (exfalso; (first | omega | exact h5 trivial | contradiction | (first | omega | (simp at h5; done) | (exact absurd hgood h5) | (simp [hgood] at h5; done) | (rw [decide_eq_true_iff] at h5; omega))); done)
            all_goals
            refine SatC.exit (SatE.then_exit (SatE.then_exit (SatE.blk_exit (SatE.thenC ?_))))
            refine SatC.seq ?_
            refine SatC.region ?_
            refine SatL.op rfl (OpW.enter rfl rfl rfl (rfl) (works_any _) ?_)
            rintro r8 w8 ⟨rfl, h⟩
            replace hS := St.callN hS h
            refine SatL.pu (RunV.assign rfl) rfl ?_
            refine SatL.nil (SatE.thenC ?_)
            refine SatC.ret ?_
            refine SatE.ret1 rfl rfl ?_
            exact ⟨rfl, hS.sel .nil⟩
      · (try simp only [cx, ne_eq] at h3)
        try (exfalso; (first | omega | exact h3 trivial | contradiction | (first | omega | (simp at h3; done) | (exact absurd hgood h3) | (simp [hgood] at h3; done) | (rw [decide_eq_true_iff] at h3; omega))); done)
        all_goals
        refine SatL.guard_n rfl rfl rfl rfl ?_
        refine SatL.pu (RunV.pick_f rfl rfl) rfl ?_
        refine SatL.nil (SatE.thenC ?_)
        refine SatC.cond_f rfl ?_
        refine SatC.exit (SatE.then_exit (SatE.then_exit (SatE.blk_exit (SatE.thenC ?_))))
        refine SatC.seq ?_
        refine SatC.seq ?_
        refine SatC.region ?_
        refine SatL.pu (RunV.assign rfl) rfl ?_
        refine SatL.nil (SatE.thenC ?_)
        refine SatC.block ?_
        refine SatC.loopK (G := Nat × Wl × List (Nat × Obj)) (V := fun ⟨j, W5, L5⟩ => [(13, .int .i64 (j : Int))]) (Cn := [(0, _), (9, _), (11, _), (6, _)]) (I := fun ⟨j, W5, L5⟩ w' => 1 ≤ j ∧ j ≤ A + 71 ∧ W5.now + 1 = k + j ∧ (∀ d, (id, d) ∈ prs W5 ↔ d = k + A ∧ W5.now < k + A) ∧ Wk b m W5 L5 ∧ St w [] L5 w') (μ := fun ⟨j, W5, L5⟩ => A + 71 - j) (1, W3, L3) ?_ (by repeat constructor) ?_
        · exact ⟨by omega, by omega, by omega, (fun d => by rw [hp3]; omega), hk3, hS⟩
        clear hS
        rintro ⟨j, W5, L5⟩ w7 ⟨hj1, hj, hn5, hp5, hk5, hS⟩
        refine SatC.weak (e' := [(0, _), (6, _), (9, _), (11, _), (13, _)]) (by repeat constructor) ?_
        refine SatC.seq ?_
        refine SatC.seq ?_
        refine SatC.region ?_
        refine SatL.pu (RunV.move rfl) rfl ?_
        refine SatL.pu (RunV.move rfl) rfl ?_
        refine SatL.pu (RunV.add rfl rfl (by first | exact wrapI64 (by omega) | rfl)) rfl ?_
        refine SatL.pu (RunV.leq rfl rfl) rfl ?_
        refine SatL.nil (SatE.thenC ?_)
        refine SatC.cond rfl (fun h4 => ?_) (fun h4 => ?_)
        · (try simp only [cx, ne_eq] at h4)
          try (exfalso; (first | omega | exact h4 trivial | contradiction | (first | omega | (simp at h4; done) | (exact absurd hgood h4) | (simp [hgood] at h4; done) | (rw [decide_eq_true_iff] at h4; omega))); done)
          all_goals
          refine SatC.skip (SatE.thenC ?_)
          refine SatC.seq ?_
          refine SatC.block ?_
          refine SatC.seq ?_
          refine SatC.region ?_
          refine SatL.pu (RunV.move rfl) rfl ?_
          refine SatL.op rfl (OpW.enter rfl rfl rfl (rfl) (tick_k (by omega) hk5 (hS.ownT (A := L5) (.whole .all))) ?_)
          rintro r8 w8 ⟨AB, L6, hsl, hal, hk6, hn6, h⟩
          replace hS := hS.callT (A := L5) (.whole .all) h
          obtain ⟨hp6, hout⟩ := tick_one hk5.inv hp5
          obtain ⟨vc, hv⟩ := hsl.slv
          rw [List.length_map] at hv
          simp only [List.append_assoc, List.append_nil] at hS
          generalize hO : (aTick W5).2 = O at hsl hal hout hv
          refine SatL.pu (RunV.assign rfl) rfl ?_
          refine SatL.nil (SatE.thenC ?_)
          refine SatC.seq ?_
          refine SatC.region ?_
          refine SatL.pu (RunV.assign rfl) rfl ?_
          refine SatL.nil (SatE.thenC ?_)
          refine SatC.seq ?_
          refine SatC.seq ?_
          refine SatC.region ?_
          refine SatL.pu (RunV.assign rfl) rfl ?_
          refine SatL.nil (SatE.thenC ?_)
          refine SatC.block ?_
          refine SatC.loopK (G := Nat × Bool) (V := fun ⟨q, fnd⟩ => [(16, .int .i64 (q : Int)), (15, .bool fnd)]) (Cn := [(0, _), (6, _), (9, _), (11, _), (13, _), (14, _)]) (I := fun ⟨q, fnd⟩ w' => q ≤ O.length ∧ (fnd = true ↔ id ∈ O.take q) ∧ St w [] (AB ++ L6) w') (μ := fun ⟨q, fnd⟩ => O.length - q) (0, false) ?_ (by repeat constructor) ?_
          · exact ⟨by omega, (by simp), hS⟩
          clear hS
          rintro ⟨q, fnd⟩ w9 ⟨hq, hfnd, hS⟩
          refine SatC.weak (e' := [(0, _), (6, _), (9, _), (11, _), (13, _), (14, _), (15, _), (16, _)]) (by repeat constructor) ?_
          refine SatC.seq ?_
          refine SatC.seq ?_
          refine SatC.region ?_
          refine SatL.pu (RunV.move rfl) rfl ?_
          refine SatL.pu (RunV.move rfl) rfl ?_
          first | refine SatL.pu (RunV.lenR (by assumption) rfl rfl) rfl ?_ | refine SatL.pu (RunV.lenS rfl rfl) rfl ?_
          refine SatL.pu (RunV.lss rfl rfl) rfl ?_
          refine SatL.nil (SatE.thenC ?_)
          refine SatC.cond rfl (fun h5 => ?_) (fun h5 => ?_)
          · (try simp only [cx, ne_eq] at h5)
            try (exfalso; (first | omega | exact h5 trivial | contradiction | (first | omega | (simp at h5; done) | (exact absurd hgood h5) | (simp [hgood] at h5; done) | (rw [decide_eq_true_iff] at h5; omega))); done)
            all_goals
            refine SatC.skip (SatE.thenC ?_)
            refine SatC.seq ?_
            refine SatC.block ?_
            obtain ⟨z, hz⟩ := get_some O q (by omega)
            have htk : O.take (q + 1) = O.take q ++ [z] := by rw [List.take_add_one, hz]; rfl
            refine SatC.region ?_
            refine SatL.pu (RunV.move rfl) rfl ?_
            refine SatL.pu (RunV.move rfl) rfl ?_
            refine SatL.guard rfl rfl rfl (fun h6 => ?_) (fun h6 => ?_)
            · (try simp only [cx, ne_eq] at h6)
              try (exfalso; (first | omega | exact h6 trivial | contradiction | (first | omega | (simp at h6; done) | (exact absurd hgood h6) | (simp [hgood] at h6; done) | (rw [decide_eq_true_iff] at h6; omega))); done)
              all_goals
              refine SatL.pu (RunV.move rfl) rfl ?_
              refine SatL.guard_y rfl rfl ?_
              refine SatL.pu (RunV.move rfl) rfl ?_
              refine SatL.guard_y rfl rfl ?_
              first | refine SatL.pu (RunV.indexR (by assumption) rfl rfl rfl (by omega) (by omega) rfl) rfl ?_ | refine SatL.pu (RunV.indexS rfl rfl rfl (by omega) (by omega) rfl) rfl ?_
              refine SatL.guard_y rfl rfl ?_
              refine SatL.pu (RunV.loadR1g q 0 (Sl.rd hsl hS (by repeat constructor)) rfl rfl (by omega) (map_get hz) rfl) rfl ?_
              refine SatL.guard_y rfl rfl ?_
              refine SatL.pu (RunV.move rfl) rfl ?_
              refine SatL.guard_y rfl rfl ?_
              refine SatL.pu (RunV.eql rfl rfl) rfl ?_
              refine SatL.pu (RunV.pick_f rfl rfl) rfl ?_
              refine SatL.pu (RunV.assign rfl) rfl ?_
              refine SatL.nil (SatE.blk_normal (SatE.thenC ?_))
              refine SatC.weak (e' := [(0, _), (6, _), (9, _), (11, _), (13, _), (14, _), (15, _), (16, _)]) (by repeat constructor) ?_
              refine SatC.region ?_
              refine SatL.pu (RunV.move rfl) rfl ?_
              refine SatL.pu (RunV.add rfl rfl (by first | exact wrapI64 (by omega) | rfl)) rfl ?_
              refine SatL.pu (RunV.assign rfl) rfl ?_
              refine SatL.nil ?_
              refine SatE.again ((q + 1, decide (z = id))) ?_ (by first | omega | (dsimp only; omega)) (by repeat constructor)
              refine ⟨by omega, ?_, hS⟩
              have hff : ¬ fnd = true := by simp_all
              rw [htk, List.mem_append, ← hfnd, decide_eq_true_eq]
              exact ⟨fun e => .inr (by simp [e]), fun e => e.elim (fun e => absurd e hff) (fun e => (List.mem_singleton.1 e).symm)⟩
            · (try simp only [cx, ne_eq] at h6)
              try (exfalso; (first | omega | exact h6 trivial | contradiction | (first | omega | (simp at h6; done) | (exact absurd hgood h6) | (simp [hgood] at h6; done) | (rw [decide_eq_true_iff] at h6; omega))); done)
              all_goals
              refine SatL.guard_n rfl rfl rfl rfl ?_
              refine SatL.guard_n rfl rfl rfl rfl ?_
              refine SatL.guard_n rfl rfl rfl rfl ?_
              refine SatL.guard_n rfl rfl rfl rfl ?_
              refine SatL.guard_n rfl rfl rfl rfl ?_
              refine SatL.pu (RunV.pick_t rfl rfl) rfl ?_
              refine SatL.pu (RunV.assign rfl) rfl ?_
              refine SatL.nil (SatE.blk_normal (SatE.thenC ?_))
              refine SatC.weak (e' := [(0, _), (6, _), (9, _), (11, _), (13, _), (14, _), (15, _), (16, _)]) (by repeat constructor) ?_
              refine SatC.region ?_
              refine SatL.pu (RunV.move rfl) rfl ?_
              refine SatL.pu (RunV.add rfl rfl (by first | exact wrapI64 (by omega) | rfl)) rfl ?_
              refine SatL.pu (RunV.assign rfl) rfl ?_
              refine SatL.nil ?_
              refine SatE.again ((q + 1, true)) ?_ (by first | omega | (dsimp only; omega)) (by repeat constructor)
              refine ⟨by omega, ?_, hS⟩
              have hft : fnd = true := by simp_all
              rw [htk, List.mem_append]
              exact ⟨fun _ => .inl (hfnd.1 hft), fun _ => rfl⟩
          · (try simp only [cx, ne_eq] at h5)
            try (exfalso; (first | omega | exact h5 trivial | contradiction | (first | omega | (simp at h5; done) | (exact absurd hgood h5) | (simp [hgood] at h5; done) | (rw [decide_eq_true_iff] at h5; omega))); done)
            all_goals
            refine SatC.exit (SatE.then_exit (SatE.then_exit (SatE.blk_exit (SatE.thenC ?_))))
            refine SatC.seq ?_
            rw [List.take_of_length_le (by omega)] at hfnd
            have hgood : fnd = decide ((j : Int) = (A : Int)) := by
              rw [Bool.eq_iff_iff, hfnd, hout, decide_eq_true_eq]
              omega
            refine SatC.region ?_
            refine SatL.pu (RunV.move rfl) rfl ?_
            refine SatL.pu (RunV.move rfl) rfl ?_
            refine SatL.pu (RunV.move rfl) rfl ?_
            refine SatL.pu (RunV.eql rfl rfl) rfl ?_
            refine SatL.pu (RunV.bneq rfl rfl rfl) rfl ?_
            refine SatL.nil (SatE.thenC ?_)
            refine SatC.cond rfl (fun h6 => ?_) (fun h6 => ?_)
            · (try simp only [cx, ne_eq] at h6)
              try (exfalso; (first | omega | exact h6 trivial | contradiction | (first | omega | (simp at h6; done) | (exact absurd hgood h6) | (simp [hgood] at h6; done) | (rw [decide_eq_true_iff] at h6; omega))); done)
              all_goals
              refine SatC.seq ?_
              refine SatC.weak (e' := [(0, _), (6, _), (9, _), (11, _), (13, _)]) (by repeat constructor) ?_
              refine SatC.region ?_
              refine SatL.pu (RunV.assign rfl) rfl ?_
              refine SatL.nil (SatE.thenC ?_)
              refine SatC.ret (SatE.blk_ret (SatE.then_ret (SatE.then_ret (SatE.blk_ret (SatE.then_ret ?_)))))
              refine SatE.ret1 rfl rfl ?_
              exact ⟨rfl, hS.sel .nil⟩
            · (try simp only [cx, ne_eq] at h6)
              try (exfalso; (first | omega | exact h6 trivial | contradiction | (first | omega | (simp at h6; done) | (exact absurd hgood h6) | (simp [hgood] at h6; done) | (rw [decide_eq_true_iff] at h6; omega))); done)
              all_goals
              refine SatC.skip (SatE.blk_normal (SatE.thenC ?_))
              refine SatC.weak (e' := [(0, _), (6, _), (9, _), (11, _), (13, _)]) (by repeat constructor) ?_
              refine SatC.region ?_
              refine SatL.pu (RunV.move rfl) rfl ?_
              refine SatL.pu (RunV.add rfl rfl (by first | exact wrapI64 (by omega) | rfl)) rfl ?_
              refine SatL.pu (RunV.assign rfl) rfl ?_
              refine SatL.nil ?_
              refine SatE.again ((j + 1, (aTick W5).1, L6)) ?_ (by first | omega | (dsimp only; omega)) (by repeat constructor)
              exact ⟨by omega, by omega, by omega, (fun d => by rw [hp6, hn6]), hk6, hS.sel (by repeat constructor)⟩
        · (try simp only [cx, ne_eq] at h4)
          try (exfalso; (first | omega | exact h4 trivial | contradiction | (first | omega | (simp at h4; done) | (exact absurd hgood h4) | (simp [hgood] at h4; done) | (rw [decide_eq_true_iff] at h4; omega))); done)
          all_goals
          refine SatC.exit (SatE.then_exit (SatE.then_exit (SatE.blk_exit (SatE.thenC ?_))))
          refine SatC.seq ?_
          refine SatC.region ?_
          refine SatL.op rfl (OpW.enter rfl rfl rfl (rfl) (works_any _) ?_)
          rintro r8 w8 ⟨rfl, h⟩
          replace hS := St.callN hS h
          refine SatL.pu (RunV.assign rfl) rfl ?_
          refine SatL.nil (SatE.thenC ?_)
          refine SatC.ret ?_
          refine SatE.ret1 rfl rfl ?_
          exact ⟨rfl, hS.sel .nil⟩
theorem wheelOnce_lifted (os : Os) (started : os.Started) (H : Type) (enc : TypeId × Value → H) :
    ReturnsInHanded {} Try.checked os 3 .any (Rows.wheelOnceSpec.pre6 enc Try.prog Try.f3 Rows.wheelOnceRow.domain false) (Rows.wheelOnceSpec.post enc Try.prog Try.f3 false true false false) := by
  refine law_returns (C := Try.checked) (b := 4) (by kernel_rfl) started (by kernel_rfl) Try.func3
    (ChangeSpec.witness6 (enc := enc) (C := Try.checked) false ⟨#[], #[.int .i64 0, .agg #[.int .u16 0, .int .u16 0], .slice none 0 0], []⟩ 8 (by kernel_rfl) (by kernel_rfl) (by kernel_rfl) (by kernel_rfl))
    rfl rfl (by kernel_rfl) (by kernel_rfl) (by kernel_rfl) (fun ds h => ?_) ?_
  · rw [Try.params3] at h
    match ds, h with
    | [_, _, _], _ => rfl
  intro W base args ds ps hval hA hsz
  rw [Try.params3] at hA hval
  obtain ⟨v0, v1, v2, d0, d1, d2, q0, q1, q2, hargs, rfl, rfl, h0, h1, h2⟩ := trodAll_three hA
  subst hargs
  obtain ⟨a0, rfl, rfl, rfl, b0⟩ := open_int Try.underlying3 (hval 0 3 v0 rfl rfl) h0
  replace b0 := bnd_i64 b0
  obtain ⟨c1, rfl, l1⟩ := open_array (l := [22, 22]) 6 Try.underlying23 (by kernel_rfl) (hval 1 23 v1 rfl rfl) h1
  obtain ⟨a1_0, a1_1, rfl, l1_0, l1_1⟩ := allLeaf_list2 l1
  obtain ⟨a1_0, rfl, ba1_0⟩ := leaf_int Try.underlying22 l1_0
  replace ba1_0 := bnd_u16 ba1_0
  obtain ⟨a1_1, rfl, ba1_1⟩ := leaf_int Try.underlying22 l1_1
  replace ba1_1 := bnd_u16 ba1_1
  obtain ⟨xs2, hr2, hx2⟩ := open_rows (l := [3, 3, 3]) 6 Try.underlying24 (by kernel_rfl) (by kernel_rfl) (by decide) (hval 2 24 v2 rfl rfl) h2
  obtain ⟨ys2, rfl, hy2⟩ := rows_map (enc' := opr) (q := fun _ => True) (fun r hr => by
    obtain ⟨u0, u1, u2, rfl, l0, l1, l2⟩ := allLeaf_list3 hr
    obtain ⟨n0, rfl, e0⟩ := leaf_int Try.underlying3 l0
    obtain ⟨n1, rfl, e1⟩ := leaf_int Try.underlying3 l1
    obtain ⟨n2, rfl, e2⟩ := leaf_int Try.underlying3 l2
    exact ⟨⟨n0, n1, n2⟩, rfl, trivial⟩) xs2 hx2
  obtain ⟨m0, rfl, hm0⟩ : ∃ n : Nat, a1_0 = (n : Int) ∧ n < 65536 := ⟨a1_0.toNat, by omega, by omega⟩
  obtain ⟨m1, rfl, hm1⟩ : ∃ n : Nat, a1_1 = (n : Int) ∧ n < 65536 := ⟨a1_1.toNat, by omega, by omega⟩
  exact law_done (once_any a0 m0 m1 hm0 hm1 _ ys2 W hr2)
theorem wheelOnce_holds : Rows.WheelOnceSaid :=
  OpenClaim.holds_of_wide 3 Try.f3 rfl rfl rfl rfl rfl rfl rfl ⟨rfl, rfl, rfl, rfl, rfl⟩ rfl rfl rfl rfl rfl (by kernel_rfl) Try.func3 (by kernel_rfl)
    (of_decide_eq_true (by kernel_rfl)) (by unfold Func.isWrapper; first | (rw [if_pos (by decide +kernel)]; kernel_rfl) | (rw [if_neg (by decide +kernel)]; exact ⟨rfl, rfl⟩))
    (fun os started H enc _ => wheelOnce_lifted os started H enc)
end Go.Proofs.Ytabladeenemfoaa
