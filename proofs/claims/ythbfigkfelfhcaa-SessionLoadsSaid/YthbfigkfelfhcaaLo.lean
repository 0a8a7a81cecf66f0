/- Loading sessions, and whether they may be loaded, walked. -/
import Derived.Test.YthbfigkfelfhcaaW
set_option linter.unusedSimpArgs false
set_option linter.unusedVariables false
set_option maxRecDepth 100000
set_option maxHeartbeats 8000000
namespace Go.Proofs.Ythbfigkfelfhcaa
open Go.RowKit
/-- The number ahead of row i. -/
def prevS (ys : List Ses) : Nat → Int
  | 0 => 0
  | i + 1 => ((ys[i]?).getD zs).id
def BadE (last p : Int) (y : Ses) : Prop := y.id ≤ p ∨ ¬ (0 ≤ y.nd ∧ y.nd < 8) ∨ ¬ y.m = y.id ∨ ¬ y.x = y.id ∨ last < y.id
def MayS (most last : Int) (ys : List Ses) : Prop := (ys.length : Int) ≤ most ∧ ∀ i y, ys[i]? = some y → ¬ BadE last (prevS ys i) y
theorem prev_next {ys : List Ses} {i : Nat} {y : Ses} (h : ys[i]? = some y) : prevS ys (i + 1) = y.id := by
  show ((ys[i]?).getD zs).id = _
  rw [h]
  rfl
theorem prev_pos {ys : List Ses} {i : Nat} {y : Ses} (h0 : 0 < i) (h : ys[i - 1]? = some y) : prevS ys i = y.id := by
  obtain ⟨k, rfl⟩ : ∃ k, i = k + 1 := ⟨i - 1, by omega⟩
  exact prev_next h
def SesB (y : Ses) : Prop := (0 ≤ y.id ∧ y.id ≤ 18446744073709551615) ∧ (0 ≤ y.m ∧ y.m ≤ 18446744073709551615) ∧ (0 ≤ y.x ∧ y.x ≤ 18446744073709551615)
theorem prev_nn {ys : List Ses} (h : ∀ y ∈ ys, SesB y) (i : Nat) : 0 ≤ prevS ys i := by
  cases i with
  | zero => exact Int.le_refl _
  | succ i =>
    show 0 ≤ ((ys[i]?).getD zs).id
    cases e : ys[i]? with
    | none => decide
    | some y => exact (h y (List.mem_of_getElem? e)).1.1
theorem ins_end {x : Ses} {ss : List Ses} (h : ∀ y ∈ ss, y.id < x.id) : insS x false ss = ss ++ [x] := by
  induction ss with
  | nil => rfl
  | cons y ys ih =>
    have hy := h y (List.mem_cons_self ..)
    show (if false = false ∧ x.id < y.id then _ else y :: insS x false ys) = _
    rw [if_neg (by omega), ih (fun z hz => h z (List.mem_cons_of_mem _ hz))]
    rfl
theorem sget_lt {ss : List Ses} {id : Int} (h : ∀ y ∈ ss, y.id < id) : (sget ss id).2 = false := by
  induction ss with
  | nil => rfl
  | cons y ys ih =>
    have hy := h y (List.mem_cons_self ..)
    show (if y.id = id then (y, true) else sget ys id).2 = false
    rw [if_neg (by omega)]
    exact ih (fun z hz => h z (List.mem_cons_of_mem _ hz))
/-- The rows ahead of i are in order, and none is above the number there. -/
theorem wf_end {ss : List Ses} {x : Ses} (hw : WfS ss) (h : ∀ y ∈ ss, y.id < x.id) (hx : 1 ≤ x.id ∧ x.id < 18446744073709551616) (hm : x.m = x.id) (hxx : x.x = x.id) : WfS (ss ++ [x]) := by
  refine ⟨List.pairwise_append.2 ⟨hw.1, List.pairwise_singleton _ _, fun a ha b hb => ?_⟩, fun y hy => ?_⟩
  · simp only [List.mem_singleton] at hb
    subst hb
    exact h a ha
  · rcases List.mem_append.1 hy with hy | hy
    · exact hw.2 y hy
    · simp only [List.mem_singleton] at hy
      subst hy
      exact ⟨hx, hm, hxx⟩
theorem sput_end {most last : Int} {ss : List Ses} {x : Ses} (h : ∀ y ∈ ss, y.id < x.id) (hm : x.m = x.id) (hxx : x.x = x.id) (hl : (ss.length : Int) < most) :
    sputS most last ss x.id x.nd = (0, ss ++ [x], max last x.id) := by
  unfold sputS
  rw [if_neg (by omega), show (⟨x.id, x.nd, x.id, x.id⟩ : Ses) = x from by obtain ⟨a, b, c, d⟩ := x; dsimp only at hm hxx; subst hm; subst hxx; rfl, ins_end h]
theorem load_any (n last : Int) (hlast : 0 ≤ last ∧ last ≤ 18446744073709551615) (v : Value) (ys : List Ses) (w : World) (hr : RdRow w v 4 (ys.map sc)) (hys : ∀ y ∈ ys, SesB y) :
    Ret Try.prog 12 #[.int .i64 n, v, .int .u64 last] w fun u w' => (MayS (min (max n 1) 64) last ys ∧ WfS ys ∧ ∃ b0 b v B, u = .tuple #[.pointer (some ⟨b0, 0, none⟩), .int .i64 0] ∧ Sl 73 7 v ((ys.map rowOf).map tr) B ∧ St w [] (SO b0 b (min (max n 1) 64) last v B) w') ∨ (¬ MayS (min (max n 1) 64) last ys ∧ u = .tuple #[.pointer none, .int .i64 2] ∧ St w [] [] w') := by
  have hS := St.init0 w
  obtain ⟨bl, ol, cl, hvl, hmaxl, hcl, hltl⟩ := hr.open
  simp only [List.length_map] at hvl hmaxl hltl
  obtain ⟨most, hmost⟩ : ∃ m, min (max n 1) 64 = m := ⟨_, rfl⟩
  have hmb : 1 ≤ most ∧ most ≤ 64 := by omega
  have hm : ¬ most = 0 := by omega
  rw [hmost]
  refine Ret.enter Try.func12 Try.ntmps12 rfl rfl ?_
  simp only [argEnv, Nat.reduceAdd]
  refine SatC.seq ?_
  refine SatC.region ?_
  refine SatL.pu (RunV.assign rfl) rfl ?_
  refine SatL.pu (RunV.assign rfl) rfl ?_
  refine SatL.nil (SatE.thenC ?_)
  refine SatC.seq ?_
  refine SatC.region ?_
  refine SatL.pu (RunV.move rfl) rfl ?_
  refine SatL.op rfl (OpW.enter rfl rfl rfl (rfl) (new_any n _) ?_)
  rintro r1 w1 ⟨b0, b, rfl, h⟩
  replace hS := hS.callT (A := []) (by repeat constructor) h
  rw [hmost] at hS
  refine SatL.pu (RunV.assign rfl) rfl ?_
  refine SatL.nil (SatE.thenC ?_)
  refine SatC.seq ?_
  refine SatC.region ?_
  refine SatL.pu (RunV.assign rfl) rfl ?_
  refine SatL.nil (SatE.thenC ?_)
  refine SatC.seq ?_
  refine SatC.seq ?_
  refine SatC.region ?_
  refine SatL.pu (RunV.move rfl) rfl ?_
  first | refine SatL.pu (RunV.lenR (by assumption) rfl rfl) rfl ?_ | refine SatL.pu (RunV.lenS rfl rfl) rfl ?_
  refine SatL.pu (RunV.move rfl) rfl ?_
  refine SatL.nil (SatE.thenC ?_)
  refine SatC.block ?_
  refine SatC.loopK (G := Nat × Int × Value × List (Nat × Obj)) (V := fun ⟨i, p, tv, B⟩ => [(16, .int .i64 (i : Int)), (9, .int .u64 p)]) (Cn := [(2, _), (8, _), (14, _), (15, _), (6, _), (7, _)]) (I := fun ⟨i, p, tv, B⟩ w' => i ≤ ys.length ∧ (i : Int) ≤ most ∧ 0 ≤ p ∧ p ≤ max p last ∧ p ≤ last ∧ prevS ys i = p ∧ (∀ j y, j < i → ys[j]? = some y → ¬ BadE last (prevS ys j) y) ∧ WfS (ys.take i) ∧ (∀ y ∈ ys.take i, y.id ≤ p) ∧ Sl 73 7 tv (((ys.take i).map rowOf).map tr) B ∧ St w [] (SO b0 b most p tv B) w') (μ := fun ⟨i, p, tv, B⟩ => ys.length - i) (0, 0, .slice none 0 0, []) ?_ (by repeat constructor) ?_
  · exact ⟨Nat.zero_le _, by omega, by decide, by omega, hlast.1, rfl, fun j y h => absurd h (Nat.not_lt_zero _), wf_nil, (fun y h => by cases h), .nil, hS.sel (by repeat constructor)⟩
  clear hS
  rintro ⟨i, p, tv, B⟩ w2 ⟨hi, him, hp0, _, hpl, hpv, hf, hw, hle, hsl, hS⟩
  refine SatC.weak (e' := [(2, _), (6, _), (7, _), (8, _), (9, _), (14, _), (15, _), (16, _)]) (by repeat constructor) ?_
  refine SatC.seq ?_
  refine SatC.region ?_
  refine SatL.pu (RunV.lss rfl rfl) rfl ?_
  refine SatL.nil (SatE.thenC ?_)
  refine SatC.seq ?_
  refine SatC.cond rfl (fun h1 => ?_) (fun h1 => ?_)
  · (try simp only [cx, ne_eq] at h1)
    try (exfalso; (first | omega | exact h1 trivial | contradiction); done)
    all_goals
    refine SatC.skip (SatE.thenC ?_)
    refine SatC.seq ?_
    refine SatC.block ?_
    refine SatC.seq ?_
    obtain ⟨y, hy⟩ := get_some ys i (by omega)
    obtain ⟨hb1, hb2, hb3⟩ := hys y (List.mem_of_getElem? hy)
    have hlt : (ys.take i).length = i := by rw [List.length_take]; omega
    refine SatC.region ?_
    first | refine SatL.pu (RunV.indexR (by assumption) rfl rfl rfl (by omega) (by omega) rfl) rfl ?_ | refine SatL.pu (RunV.indexS rfl rfl rfl (by omega) (by omega) rfl) rfl ?_
    first | refine SatL.pu (RunV.loadRNz (RdC.st (by assumption) hS List.not_mem_nil) rfl rfl (by first | assumption | exact map_get (by assumption))) rfl ?_ | refine SatL.pu (RunV.loadRNz (Sl.rd (by assumption) hS (by repeat constructor)) rfl rfl (by first | assumption | exact map_get (by assumption))) rfl ?_
    refine SatL.op rfl (OpW.alloc hS rfl rfl (by repeat constructor) ?_)
    clear hS
    intro b11 w3 _ hS
    refine SatL.op rfl (OpW.store hS rfl rfl (by repeat constructor) (by repeat constructor) (by repeat constructor) rfl rfl ?_)
    clear hS
    intro w4 hS
    refine SatL.nil (SatE.thenC ?_)
    refine SatC.seq ?_
    refine SatC.seq ?_
    refine SatC.region ?_
    first | refine SatL.pu (RunV.fieldAddrL rfl rfl rfl) rfl ?_ | refine SatL.pu (RunV.fieldAddr rfl rfl rfl) rfl ?_
    refine SatL.pu (RunV.load1 hS rfl rfl (by repeat constructor) rfl) rfl ?_
    refine SatL.pu (RunV.move rfl) rfl ?_
    refine SatL.pu (RunV.leq rfl rfl) rfl ?_
    refine SatL.pu (RunV.move rfl) rfl ?_
    refine SatL.guard rfl rfl rfl (fun h2 => ?_) (fun h2 => ?_)
    · (try simp only [cx, ne_eq] at h2)
      try (exfalso; (first | omega | exact h2 trivial | contradiction); done)
      all_goals
      first | refine SatL.pu (RunV.fieldAddrL rfl rfl rfl) rfl ?_ | refine SatL.pu (RunV.fieldAddr rfl rfl rfl) rfl ?_
      refine SatL.guard_y rfl rfl ?_
      refine SatL.pu (RunV.load1 hS rfl rfl (by repeat constructor) rfl) rfl ?_
      refine SatL.guard_y rfl rfl ?_
      refine SatL.op rfl (OpW.enter rfl rfl rfl (rfl) (right_any y.nd _) ?_)
      rintro r5 w5 ⟨rfl, h⟩
      replace hS := St.callN hS h
      refine SatL.guard_y rfl rfl ?_
      refine SatL.pu (RunV.not rfl) rfl ?_
      refine SatL.pu (RunV.pick_f rfl rfl) rfl ?_
      refine SatL.pu (RunV.move rfl) rfl ?_
      refine SatL.guard rfl rfl rfl (fun h3 => ?_) (fun h3 => ?_)
      · (try simp only [cx, ne_eq] at h3)
        try (exfalso; (first | omega | exact h3 trivial | contradiction); done)
        all_goals
        first | refine SatL.pu (RunV.fieldAddrL rfl rfl rfl) rfl ?_ | refine SatL.pu (RunV.fieldAddr rfl rfl rfl) rfl ?_
        refine SatL.guard_y rfl rfl ?_
        refine SatL.pu (RunV.load1 hS rfl rfl (by repeat constructor) rfl) rfl ?_
        refine SatL.guard_y rfl rfl ?_
        first | refine SatL.pu (RunV.fieldAddrL rfl rfl rfl) rfl ?_ | refine SatL.pu (RunV.fieldAddr rfl rfl rfl) rfl ?_
        refine SatL.guard_y rfl rfl ?_
        refine SatL.pu (RunV.load1 hS rfl rfl (by repeat constructor) rfl) rfl ?_
        refine SatL.guard_y rfl rfl ?_
        refine SatL.pu (RunV.neq rfl rfl) rfl ?_
        refine SatL.pu (RunV.pick_f rfl rfl) rfl ?_
        refine SatL.pu (RunV.move rfl) rfl ?_
        refine SatL.guard rfl rfl rfl (fun h4 => ?_) (fun h4 => ?_)
        · (try simp only [cx, ne_eq] at h4)
          try (exfalso; (first | omega | exact h4 trivial | contradiction); done)
          all_goals
          first | refine SatL.pu (RunV.fieldAddrL rfl rfl rfl) rfl ?_ | refine SatL.pu (RunV.fieldAddr rfl rfl rfl) rfl ?_
          refine SatL.guard_y rfl rfl ?_
          refine SatL.pu (RunV.load1 hS rfl rfl (by repeat constructor) rfl) rfl ?_
          refine SatL.guard_y rfl rfl ?_
          first | refine SatL.pu (RunV.fieldAddrL rfl rfl rfl) rfl ?_ | refine SatL.pu (RunV.fieldAddr rfl rfl rfl) rfl ?_
          refine SatL.guard_y rfl rfl ?_
          refine SatL.pu (RunV.load1 hS rfl rfl (by repeat constructor) rfl) rfl ?_
          refine SatL.guard_y rfl rfl ?_
          refine SatL.pu (RunV.neq rfl rfl) rfl ?_
          refine SatL.pu (RunV.pick_f rfl rfl) rfl ?_
          refine SatL.pu (RunV.move rfl) rfl ?_
          refine SatL.guard rfl rfl rfl (fun h5 => ?_) (fun h5 => ?_)
          · (try simp only [cx, ne_eq] at h5)
            try (exfalso; (first | omega | exact h5 trivial | contradiction); done)
            all_goals
            first | refine SatL.pu (RunV.fieldAddrL rfl rfl rfl) rfl ?_ | refine SatL.pu (RunV.fieldAddr rfl rfl rfl) rfl ?_
            refine SatL.guard_y rfl rfl ?_
            refine SatL.pu (RunV.load1 hS rfl rfl (by repeat constructor) rfl) rfl ?_
            refine SatL.guard_y rfl rfl ?_
            refine SatL.pu (RunV.move rfl) rfl ?_
            refine SatL.guard_y rfl rfl ?_
            refine SatL.pu (RunV.gtr rfl rfl) rfl ?_
            refine SatL.pu (RunV.pick_f rfl rfl) rfl ?_
            refine SatL.nil (SatE.thenC ?_)
            refine SatC.weak (e' := [(2, _), (6, _), (7, _), (8, _), (9, _), (11, _), (14, _), (15, _), (16, _), (49, _)]) (by repeat constructor) ?_
            refine SatC.cond rfl (fun h6 => ?_) (fun h6 => ?_)
            · (try simp only [cx, ne_eq] at h6)
              try (exfalso; (first | omega | exact h6 trivial | contradiction); done)
              all_goals
              refine SatC.seq ?_
              refine SatC.region ?_
              refine SatL.pu (RunV.assign rfl) rfl ?_
              refine SatL.pu (RunV.assign rfl) rfl ?_
              refine SatL.nil (SatE.thenC ?_)
              refine SatC.ret (SatE.then_ret (SatE.blk_ret (SatE.then_ret (SatE.then_ret (SatE.blk_ret (SatE.then_ret ?_))))))
              refine SatE.ret2 rfl rfl rfl ?_
              first
              | exact .inr ⟨fun hM => absurd (show BadE last (prevS ys i) y by unfold BadE; omega) (hM.2 i y hy), rfl, hS.sel (by repeat constructor)⟩
              | exact .inr ⟨fun hM => h7 (by rw [sput_end (x := y) (fun z hz => by have := hle z hz; omega) h4 h5 (by have := hM.1; omega)]), rfl, hS.sel (by repeat constructor)⟩
              | (have hwy : ys.take i = ys := List.take_of_length_le (by omega)
                 rw [hwy] at hw hsl
                 rw [show max p last = last by omega] at hS
                 exact .inl ⟨⟨by omega, fun j y hy => hf j y (by have := (List.getElem?_eq_some_iff.1 hy).1; omega) hy⟩, hw, b0, b, tv, B, rfl, hsl, hS.sel (by repeat constructor)⟩)
            · (try simp only [cx, ne_eq] at h6)
              try (exfalso; (first | omega | exact h6 trivial | contradiction); done)
              all_goals
              refine SatC.skip (SatE.thenC ?_)
              refine SatC.seq ?_
              refine SatC.region ?_
              first | refine SatL.pu (RunV.fieldAddrL rfl rfl rfl) rfl ?_ | refine SatL.pu (RunV.fieldAddr rfl rfl rfl) rfl ?_
              refine SatL.pu (RunV.load1 hS rfl rfl (by repeat constructor) rfl) rfl ?_
              refine SatL.pu (RunV.assign rfl) rfl ?_
              refine SatL.nil (SatE.thenC ?_)
              refine SatC.seq ?_
              refine SatC.region ?_
              refine SatL.pu (RunV.move rfl) rfl ?_
              first | refine SatL.pu (RunV.fieldAddrL rfl rfl rfl) rfl ?_ | refine SatL.pu (RunV.fieldAddr rfl rfl rfl) rfl ?_
              refine SatL.pu (RunV.load1 hS rfl rfl (by repeat constructor) rfl) rfl ?_
              first | refine SatL.pu (RunV.fieldAddrL rfl rfl rfl) rfl ?_ | refine SatL.pu (RunV.fieldAddr rfl rfl rfl) rfl ?_
              refine SatL.pu (RunV.load1 hS rfl rfl (by repeat constructor) rfl) rfl ?_
              first | refine SatL.pu (RunV.fieldAddrL rfl rfl rfl) rfl ?_ | refine SatL.pu (RunV.fieldAddr rfl rfl rfl) rfl ?_
              refine SatL.pu (RunV.load1 hS rfl rfl (by repeat constructor) rfl) rfl ?_
              refine SatL.op rfl (OpW.enter rfl rfl rfl (rfl) (putS_any y.id y.nd ⟨by omega, by omega⟩ hw (sget_lt (fun z hz => by have := hle z hz; omega)) hm hsl (by omega) (hS.ownT (A := SO b0 b most p tv B) (by repeat constructor))) ?_)
              rintro r6 w6 ⟨rfl, v2, B2, hsl2, h⟩
              replace hS := hS.callT (A := SO b0 b most p tv B) (by repeat constructor) h
              refine SatL.pu (RunV.neq rfl rfl) rfl ?_
              refine SatL.nil (SatE.thenC ?_)
              refine SatC.weak (e' := [(2, _), (6, _), (7, _), (8, _), (9, _), (14, _), (15, _), (16, _), (60, _)]) (by repeat constructor) ?_
              refine SatC.cond rfl (fun h7 => ?_) (fun h7 => ?_)
              · (try simp only [cx, ne_eq] at h7)
                try (exfalso; (first | omega | exact h7 trivial | contradiction); done)
                all_goals
                refine SatC.seq ?_
                refine SatC.region ?_
                refine SatL.pu (RunV.assign rfl) rfl ?_
                refine SatL.pu (RunV.assign rfl) rfl ?_
                refine SatL.nil (SatE.thenC ?_)
                refine SatC.ret (SatE.blk_ret (SatE.then_ret (SatE.then_ret (SatE.blk_ret (SatE.then_ret ?_)))))
                refine SatE.ret2 rfl rfl rfl ?_
                first
                | exact .inr ⟨fun hM => absurd (show BadE last (prevS ys i) y by unfold BadE; omega) (hM.2 i y hy), rfl, hS.sel (by repeat constructor)⟩
                | exact .inr ⟨fun hM => h7 (by rw [sput_end (x := y) (fun z hz => by have := hle z hz; omega) h4 h5 (by have := hM.1; omega)]), rfl, hS.sel (by repeat constructor)⟩
                | (have hwy : ys.take i = ys := List.take_of_length_le (by omega)
                   rw [hwy] at hw hsl
                   rw [show max p last = last by omega] at hS
                   exact .inl ⟨⟨by omega, fun j y hy => hf j y (by have := (List.getElem?_eq_some_iff.1 hy).1; omega) hy⟩, hw, b0, b, tv, B, rfl, hsl, hS.sel (by repeat constructor)⟩)
              · (try simp only [cx, ne_eq] at h7)
                try (exfalso; (first | omega | exact h7 trivial | contradiction); done)
                all_goals
                refine SatC.skip (SatE.blk_normal (SatE.thenC ?_))
                refine SatC.region ?_
                refine SatL.pu (RunV.add rfl rfl (by first | exact wrapI64 (by omega) | rfl)) rfl ?_
                refine SatL.pu (RunV.move rfl) rfl ?_
                refine SatL.nil ?_
                refine SatE.again ((i + 1, y.id, v2, B2)) ?_ (by first | omega | (dsimp only; omega)) (by repeat constructor)
                have him2 : (i : Int) < most := by
                  by_cases hc : (i : Int) < most
                  · exact hc
                  · unfold sputS at h7
                    rw [if_pos (by omega)] at h7
                    exact absurd h7 (show ¬ (5 : Int) = 0 by decide)
                have hall : ∀ z ∈ ys.take i, z.id < y.id := fun z hz => by have := hle z hz; omega
                have htk : ys.take (i + 1) = ys.take i ++ [y] := by rw [List.take_add_one, hy]; rfl
                rw [sput_end (x := y) hall h4 h5 (by omega)] at hsl2 hS
                rw [show max p y.id = y.id by omega] at hS
                refine ⟨by omega, by omega, by omega, by omega, by omega, prev_next hy, fun j z hj hz => ?_, ?_, ?_, ?_, hS.sel (by repeat constructor)⟩
                · rcases Nat.lt_or_eq_of_le (Nat.le_of_lt_succ hj) with hj | rfl
                  · exact hf j z hj hz
                  · rw [hy] at hz
                    cases hz
                    unfold BadE
                    omega
                · rw [htk]; exact wf_end hw hall (by omega) h4 h5
                · rw [htk]
                  intro z hz
                  rcases List.mem_append.1 hz with hz | hz
                  · exact Int.le_of_lt (hall z hz)
                  · simp only [List.mem_singleton] at hz
                    subst hz
                    exact Int.le_refl _
                · rw [htk]; exact hsl2
          · (try simp only [cx, ne_eq] at h5)
            try (exfalso; (first | omega | exact h5 trivial | contradiction); done)
            all_goals
            refine SatL.guard_n rfl rfl rfl rfl ?_
            refine SatL.guard_n rfl rfl rfl rfl ?_
            refine SatL.guard_n rfl rfl rfl rfl ?_
            refine SatL.pu (RunV.pick_t rfl rfl) rfl ?_
            refine SatL.nil (SatE.thenC ?_)
            refine SatC.weak (e' := [(2, _), (6, _), (7, _), (8, _), (9, _), (11, _), (14, _), (15, _), (16, _), (49, _)]) (by repeat constructor) ?_
            refine SatC.cond_t rfl ?_
            refine SatC.seq ?_
            refine SatC.region ?_
            refine SatL.pu (RunV.assign rfl) rfl ?_
            refine SatL.pu (RunV.assign rfl) rfl ?_
            refine SatL.nil (SatE.thenC ?_)
            refine SatC.ret (SatE.then_ret (SatE.blk_ret (SatE.then_ret (SatE.then_ret (SatE.blk_ret (SatE.then_ret ?_))))))
            refine SatE.ret2 rfl rfl rfl ?_
            first
            | exact .inr ⟨fun hM => absurd (show BadE last (prevS ys i) y by unfold BadE; omega) (hM.2 i y hy), rfl, hS.sel (by repeat constructor)⟩
            | exact .inr ⟨fun hM => h7 (by rw [sput_end (x := y) (fun z hz => by have := hle z hz; omega) h4 h5 (by have := hM.1; omega)]), rfl, hS.sel (by repeat constructor)⟩
            | (have hwy : ys.take i = ys := List.take_of_length_le (by omega)
               rw [hwy] at hw hsl
               rw [show max p last = last by omega] at hS
               exact .inl ⟨⟨by omega, fun j y hy => hf j y (by have := (List.getElem?_eq_some_iff.1 hy).1; omega) hy⟩, hw, b0, b, tv, B, rfl, hsl, hS.sel (by repeat constructor)⟩)
        · (try simp only [cx, ne_eq] at h4)
          try (exfalso; (first | omega | exact h4 trivial | contradiction); done)
          all_goals
          refine SatL.guard_n rfl rfl rfl rfl ?_
          refine SatL.guard_n rfl rfl rfl rfl ?_
          refine SatL.guard_n rfl rfl rfl rfl ?_
          refine SatL.guard_n rfl rfl rfl rfl ?_
          refine SatL.pu (RunV.pick_t rfl rfl) rfl ?_
          refine SatL.pu (RunV.move rfl) rfl ?_
          refine SatL.guard_n rfl rfl rfl rfl ?_
          refine SatL.guard_n rfl rfl rfl rfl ?_
          refine SatL.guard_n rfl rfl rfl rfl ?_
          refine SatL.guard_n rfl rfl rfl rfl ?_
          refine SatL.pu (RunV.pick_t rfl rfl) rfl ?_
          refine SatL.nil (SatE.thenC ?_)
          refine SatC.weak (e' := [(2, _), (6, _), (7, _), (8, _), (9, _), (11, _), (14, _), (15, _), (16, _), (49, _)]) (by repeat constructor) ?_
          refine SatC.cond_t rfl ?_
          refine SatC.seq ?_
          refine SatC.region ?_
          refine SatL.pu (RunV.assign rfl) rfl ?_
          refine SatL.pu (RunV.assign rfl) rfl ?_
          refine SatL.nil (SatE.thenC ?_)
          refine SatC.ret (SatE.then_ret (SatE.blk_ret (SatE.then_ret (SatE.then_ret (SatE.blk_ret (SatE.then_ret ?_))))))
          refine SatE.ret2 rfl rfl rfl ?_
          first
          | exact .inr ⟨fun hM => absurd (show BadE last (prevS ys i) y by unfold BadE; omega) (hM.2 i y hy), rfl, hS.sel (by repeat constructor)⟩
          | exact .inr ⟨fun hM => h7 (by rw [sput_end (x := y) (fun z hz => by have := hle z hz; omega) h4 h5 (by have := hM.1; omega)]), rfl, hS.sel (by repeat constructor)⟩
          | (have hwy : ys.take i = ys := List.take_of_length_le (by omega)
             rw [hwy] at hw hsl
             rw [show max p last = last by omega] at hS
             exact .inl ⟨⟨by omega, fun j y hy => hf j y (by have := (List.getElem?_eq_some_iff.1 hy).1; omega) hy⟩, hw, b0, b, tv, B, rfl, hsl, hS.sel (by repeat constructor)⟩)
      · (try simp only [cx, ne_eq] at h3)
        try (exfalso; (first | omega | exact h3 trivial | contradiction); done)
        all_goals
        refine SatL.guard_n rfl rfl rfl rfl ?_
        refine SatL.guard_n rfl rfl rfl rfl ?_
        refine SatL.guard_n rfl rfl rfl rfl ?_
        refine SatL.guard_n rfl rfl rfl rfl ?_
        refine SatL.pu (RunV.pick_t rfl rfl) rfl ?_
        refine SatL.pu (RunV.move rfl) rfl ?_
        refine SatL.guard_n rfl rfl rfl rfl ?_
        refine SatL.guard_n rfl rfl rfl rfl ?_
        refine SatL.guard_n rfl rfl rfl rfl ?_
        refine SatL.guard_n rfl rfl rfl rfl ?_
        refine SatL.guard_n rfl rfl rfl rfl ?_
        refine SatL.pu (RunV.pick_t rfl rfl) rfl ?_
        refine SatL.pu (RunV.move rfl) rfl ?_
        refine SatL.guard_n rfl rfl rfl rfl ?_
        refine SatL.guard_n rfl rfl rfl rfl ?_
        refine SatL.guard_n rfl rfl rfl rfl ?_
        refine SatL.guard_n rfl rfl rfl rfl ?_
        refine SatL.pu (RunV.pick_t rfl rfl) rfl ?_
        refine SatL.nil (SatE.thenC ?_)
        refine SatC.weak (e' := [(2, _), (6, _), (7, _), (8, _), (9, _), (11, _), (14, _), (15, _), (16, _), (49, _)]) (by repeat constructor) ?_
        refine SatC.cond_t rfl ?_
        refine SatC.seq ?_
        refine SatC.region ?_
        refine SatL.pu (RunV.assign rfl) rfl ?_
        refine SatL.pu (RunV.assign rfl) rfl ?_
        refine SatL.nil (SatE.thenC ?_)
        refine SatC.ret (SatE.then_ret (SatE.blk_ret (SatE.then_ret (SatE.then_ret (SatE.blk_ret (SatE.then_ret ?_))))))
        refine SatE.ret2 rfl rfl rfl ?_
        first
        | exact .inr ⟨fun hM => absurd (show BadE last (prevS ys i) y by unfold BadE; omega) (hM.2 i y hy), rfl, hS.sel (by repeat constructor)⟩
        | exact .inr ⟨fun hM => h7 (by rw [sput_end (x := y) (fun z hz => by have := hle z hz; omega) h4 h5 (by have := hM.1; omega)]), rfl, hS.sel (by repeat constructor)⟩
        | (have hwy : ys.take i = ys := List.take_of_length_le (by omega)
           rw [hwy] at hw hsl
           rw [show max p last = last by omega] at hS
           exact .inl ⟨⟨by omega, fun j y hy => hf j y (by have := (List.getElem?_eq_some_iff.1 hy).1; omega) hy⟩, hw, b0, b, tv, B, rfl, hsl, hS.sel (by repeat constructor)⟩)
    · (try simp only [cx, ne_eq] at h2)
      try (exfalso; (first | omega | exact h2 trivial | contradiction); done)
      all_goals
      refine SatL.guard_n rfl rfl rfl rfl ?_
      refine SatL.guard_n rfl rfl rfl rfl ?_
      refine SatL.guard_n rfl rfl rfl rfl ?_
      refine SatL.pu (RunV.pick_t rfl rfl) rfl ?_
      refine SatL.pu (RunV.move rfl) rfl ?_
      refine SatL.guard_n rfl rfl rfl rfl ?_
      refine SatL.guard_n rfl rfl rfl rfl ?_
      refine SatL.guard_n rfl rfl rfl rfl ?_
      refine SatL.guard_n rfl rfl rfl rfl ?_
      refine SatL.guard_n rfl rfl rfl rfl ?_
      refine SatL.pu (RunV.pick_t rfl rfl) rfl ?_
      refine SatL.pu (RunV.move rfl) rfl ?_
      refine SatL.guard_n rfl rfl rfl rfl ?_
      refine SatL.guard_n rfl rfl rfl rfl ?_
      refine SatL.guard_n rfl rfl rfl rfl ?_
      refine SatL.guard_n rfl rfl rfl rfl ?_
      refine SatL.guard_n rfl rfl rfl rfl ?_
      refine SatL.pu (RunV.pick_t rfl rfl) rfl ?_
      refine SatL.pu (RunV.move rfl) rfl ?_
      refine SatL.guard_n rfl rfl rfl rfl ?_
      refine SatL.guard_n rfl rfl rfl rfl ?_
      refine SatL.guard_n rfl rfl rfl rfl ?_
      refine SatL.guard_n rfl rfl rfl rfl ?_
      refine SatL.pu (RunV.pick_t rfl rfl) rfl ?_
      refine SatL.nil (SatE.thenC ?_)
      refine SatC.weak (e' := [(2, _), (6, _), (7, _), (8, _), (9, _), (11, _), (14, _), (15, _), (16, _), (49, _)]) (by repeat constructor) ?_
      refine SatC.cond_t rfl ?_
      refine SatC.seq ?_
      refine SatC.region ?_
      refine SatL.pu (RunV.assign rfl) rfl ?_
      refine SatL.pu (RunV.assign rfl) rfl ?_
      refine SatL.nil (SatE.thenC ?_)
      refine SatC.ret (SatE.then_ret (SatE.blk_ret (SatE.then_ret (SatE.then_ret (SatE.blk_ret (SatE.then_ret ?_))))))
      refine SatE.ret2 rfl rfl rfl ?_
      first
      | exact .inr ⟨fun hM => absurd (show BadE last (prevS ys i) y by unfold BadE; omega) (hM.2 i y hy), rfl, hS.sel (by repeat constructor)⟩
      | exact .inr ⟨fun hM => h7 (by rw [sput_end (x := y) (fun z hz => by have := hle z hz; omega) h4 h5 (by have := hM.1; omega)]), rfl, hS.sel (by repeat constructor)⟩
      | (have hwy : ys.take i = ys := List.take_of_length_le (by omega)
         rw [hwy] at hw hsl
         rw [show max p last = last by omega] at hS
         exact .inl ⟨⟨by omega, fun j y hy => hf j y (by have := (List.getElem?_eq_some_iff.1 hy).1; omega) hy⟩, hw, b0, b, tv, B, rfl, hsl, hS.sel (by repeat constructor)⟩)
  · (try simp only [cx, ne_eq] at h1)
    try (exfalso; (first | omega | exact h1 trivial | contradiction); done)
    all_goals
    refine SatC.exit (SatE.then_exit (SatE.then_exit (SatE.blk_exit (SatE.thenC ?_))))
    refine SatC.seq ?_
    refine SatC.region ?_
    refine SatL.pu (RunV.move rfl) rfl ?_
    first | refine SatL.pu (RunV.nil_ptr rfl) rfl ?_ | refine SatL.pu (RunV.nil_func rfl) rfl ?_ | refine SatL.pu (RunV.nil_yield rfl) rfl ?_
    first | refine SatL.pu (RunV.fieldAddrL rfl rfl rfl) rfl ?_ | refine SatL.pu (RunV.fieldAddr rfl rfl rfl) rfl ?_
    refine SatL.pu (RunV.load1 hS rfl rfl (by repeat constructor) rfl) rfl ?_
    refine SatL.pu (RunV.move rfl) rfl ?_
    refine SatL.op rfl (OpW.enter rfl rfl rfl (rfl) (raise_any last (hS.ownT (A := (b, C 78 (tc most tv p)) :: B) (by repeat constructor)) hm) ?_)
    rintro r3 w3 ⟨rfl, h⟩
    replace hS := hS.callT (A := (b, C 78 (tc most tv p)) :: B) (by repeat constructor) h
    refine SatL.nil (SatE.thenC ?_)
    refine SatC.seq ?_
    refine SatC.weak (e' := [(6, _), (7, _), (8, _)]) (by repeat constructor) ?_
    refine SatC.region ?_
    refine SatL.pu (RunV.move rfl) rfl ?_
    refine SatL.pu (RunV.assign rfl) rfl ?_
    refine SatL.pu (RunV.assign rfl) rfl ?_
    refine SatL.nil (SatE.thenC ?_)
    refine SatC.ret ?_
    refine SatE.ret2 rfl rfl rfl ?_
    first
    | exact .inr ⟨fun hM => absurd (show BadE last (prevS ys i) y by unfold BadE; omega) (hM.2 i y hy), rfl, hS.sel (by repeat constructor)⟩
    | exact .inr ⟨fun hM => h7 (by rw [sput_end (x := y) (fun z hz => by have := hle z hz; omega) h4 h5 (by have := hM.1; omega)]), rfl, hS.sel (by repeat constructor)⟩
    | (have hwy : ys.take i = ys := List.take_of_length_le (by omega)
       rw [hwy] at hw hsl
       rw [show max p last = last by omega] at hS
       exact .inl ⟨⟨by omega, fun j y hy => hf j y (by have := (List.getElem?_eq_some_iff.1 hy).1; omega) hy⟩, hw, b0, b, tv, B, rfl, hsl, hS.sel (by repeat constructor)⟩)
theorem may_any (n last : Int) (v : Value) (ys : List Ses) (w : World) (hr : RdRow w v 4 (ys.map sc)) (hys : ∀ y ∈ ys, SesB y) :
    Ret Try.prog 13 #[.int .i64 n, v, .int .u64 last] w fun u w' => ∃ q, u = .bool q ∧ (q = true ↔ MayS (min (max n 1) 64) last ys) ∧ St w [] [] w' := by
  have hS := St.init0 w
  obtain ⟨bl, ol, cl, hvl, hmaxl, hcl, hltl⟩ := hr.open
  simp only [List.length_map] at hvl hmaxl hltl
  obtain ⟨most, hmost⟩ : ∃ m, min (max n 1) 64 = m := ⟨_, rfl⟩
  have hmb : 1 ≤ most ∧ most ≤ 64 := by omega
  rw [hmost]
  refine Ret.enter Try.func13 Try.ntmps13 rfl rfl ?_
  simp only [argEnv, Nat.reduceAdd]
  have hpo : ∀ i, 0 ≤ prevS ys i := prev_nn hys
  refine SatC.seq ?_
  refine SatC.region ?_
  refine SatL.pu (RunV.assign rfl) rfl ?_
  refine SatL.nil (SatE.thenC ?_)
  refine SatC.seq ?_
  refine SatC.seq ?_
  refine SatC.region ?_
  refine SatL.pu (RunV.move rfl) rfl ?_
  first | refine SatL.pu (RunV.lenR (by assumption) rfl rfl) rfl ?_ | refine SatL.pu (RunV.lenS rfl rfl) rfl ?_
  refine SatL.pu (RunV.move rfl) rfl ?_
  refine SatL.op rfl (OpW.enter rfl rfl rfl (rfl) (rnew_any n _) ?_)
  rintro r1 w1 ⟨rb, rfl, h⟩
  replace hS := hS.callT (A := []) (by repeat constructor) h
  rw [hmost] at hS
  first | refine SatL.pu (RunV.nil_ptr rfl) rfl ?_ | refine SatL.pu (RunV.nil_func rfl) rfl ?_ | refine SatL.pu (RunV.nil_yield rfl) rfl ?_
  first | refine SatL.pu (RunV.fieldAddrL rfl rfl rfl) rfl ?_ | refine SatL.pu (RunV.fieldAddr rfl rfl rfl) rfl ?_
  refine SatL.pu (RunV.load1 hS rfl rfl (by repeat constructor) rfl) rfl ?_
  refine SatL.pu (RunV.gtr rfl rfl) rfl ?_
  refine SatL.nil (SatE.thenC ?_)
  refine SatC.cond rfl (fun h1 => ?_) (fun h1 => ?_)
  · (try simp only [cx, ne_eq] at h1)
    try (exfalso; (first | omega | exact h1 trivial | contradiction); done)
    all_goals
    refine SatC.seq ?_
    refine SatC.region ?_
    refine SatL.pu (RunV.assign rfl) rfl ?_
    refine SatL.nil (SatE.thenC ?_)
    refine SatC.ret (SatE.then_ret ?_)
    refine SatE.ret1 rfl rfl ?_
    exact ⟨false, rfl, ⟨fun e => absurd e (by decide), fun e => by have := e.1; omega⟩, hS.sel (by repeat constructor)⟩
  · (try simp only [cx, ne_eq] at h1)
    try (exfalso; (first | omega | exact h1 trivial | contradiction); done)
    all_goals
    refine SatC.skip (SatE.thenC ?_)
    refine SatC.seq ?_
    refine SatC.seq ?_
    refine SatC.region ?_
    refine SatL.pu (RunV.assign rfl) rfl ?_
    refine SatL.nil (SatE.thenC ?_)
    refine SatC.block ?_
    refine SatC.loopK (G := Nat) (V := fun i => [(7, .int .i64 (i : Int))]) (Cn := [(1, _), (2, _), (6, _)]) (I := fun i w' => i ≤ ys.length ∧ (∀ j y, j < i → ys[j]? = some y → ¬ BadE last (prevS ys j) y) ∧ St w [] [] w') (μ := fun i => ys.length - i) 0 ?_ (by repeat constructor) ?_
    · exact ⟨Nat.zero_le _, fun j y h => absurd h (Nat.not_lt_zero _), hS.sel (by repeat constructor)⟩
    clear hS
    rintro i w2 ⟨hi, hf, hS⟩
    refine SatC.weak (e' := [(1, _), (2, _), (6, _), (7, _)]) (by repeat constructor) ?_
    refine SatC.seq ?_
    refine SatC.seq ?_
    refine SatC.region ?_
    refine SatL.pu (RunV.move rfl) rfl ?_
    refine SatL.pu (RunV.move rfl) rfl ?_
    first | refine SatL.pu (RunV.lenR (by assumption) rfl rfl) rfl ?_ | refine SatL.pu (RunV.lenS rfl rfl) rfl ?_
    refine SatL.pu (RunV.lss rfl rfl) rfl ?_
    refine SatL.nil (SatE.thenC ?_)
    refine SatC.cond rfl (fun h2 => ?_) (fun h2 => ?_)
    · (try simp only [cx, ne_eq] at h2)
      try (exfalso; (first | omega | exact h2 trivial | contradiction); done)
      all_goals
      refine SatC.skip (SatE.thenC ?_)
      refine SatC.seq ?_
      refine SatC.block ?_
      refine SatC.seq ?_
      obtain ⟨y, hy⟩ := get_some ys i (by omega)
      obtain ⟨hb1, hb2, hb3⟩ := hys y (List.mem_of_getElem? hy)
      have hnp := hpo i
      have hpv : ∃ p, (0 < i → ys[((i : Int) - 1).toNat]? = some p) ∧ (0 < i → prevS ys i = p.id) ∧ (i = 0 → prevS ys i = 0) := by
        by_cases h : 0 < i
        · obtain ⟨p, hp⟩ := get_some ys (i - 1) (by omega)
          exact ⟨p, fun _ => by rw [show ((i : Int) - 1).toNat = i - 1 by omega]; exact hp, fun _ => prev_pos h hp, fun e => by omega⟩
        · exact ⟨y, fun h' => absurd h' h, fun h' => absurd h' h, fun e => by subst e; rfl⟩
      obtain ⟨p, hp, hp1, hp2⟩ := hpv
      refine SatC.region ?_
      refine SatL.pu (RunV.move rfl) rfl ?_
      refine SatL.pu (RunV.move rfl) rfl ?_
      refine SatL.pu (RunV.indexR hvl rfl rfl rfl (by omega) (by omega) rfl) rfl ?_
      first | refine SatL.pu (RunV.loadRNz (RdC.st (by assumption) hS List.not_mem_nil) rfl rfl (by first | assumption | exact map_get (by assumption))) rfl ?_ | refine SatL.pu (RunV.loadRNz (Sl.rd (by assumption) hS (by repeat constructor)) rfl rfl (by first | assumption | exact map_get (by assumption))) rfl ?_
      refine SatL.op rfl (OpW.alloc hS rfl rfl (by repeat constructor) ?_)
      clear hS
      intro b8 w3 _ hS
      refine SatL.op rfl (OpW.store hS rfl rfl (by repeat constructor) (by repeat constructor) (by repeat constructor) rfl rfl ?_)
      clear hS
      intro w4 hS
      refine SatL.nil (SatE.thenC ?_)
      refine SatC.seq ?_
      refine SatC.drawnT 48 hS (hS) (by kernel_rfl) ?_
      clear hS
      intro w5 hh hS hD
      first | refine SatD.tk 0 rfl hD (fun _ hw => RunV.fieldAddrL rfl rfl rfl) ?_ | refine SatD.tk 0 rfl hD (fun _ hw => RunV.fieldAddr rfl rfl rfl) ?_
      refine SatD.tk 1 rfl hD (fun _ hw => RunV.load1 hw rfl rfl (by repeat constructor) rfl) ?_
      refine SatD.tk 2 rfl hD (fun _ hw => RunV.eql rfl rfl) ?_
      refine SatD.tk 3 rfl hD (fun _ hw => RunV.move rfl) ?_
      refine SatD.ways 30 rfl (fun h3 => ?_) (fun h3 => ?_)
      · (try simp only [cx, ne_eq] at h3)
        try (exfalso; (first | omega | exact h3 trivial | contradiction); done)
        all_goals
        refine SatD.sk 4 rfl [] hD ?_
        refine SatD.sk 5 rfl [] hD ?_
        refine SatD.sk 6 rfl [] hD ?_
        refine SatD.sk 7 rfl [] hD ?_
        refine SatD.sk 8 rfl [] hD ?_
        refine SatD.sk 9 rfl [] hD ?_
        refine SatD.sk 10 rfl [] hD ?_
        refine SatD.sk 11 rfl [] hD ?_
        refine SatD.sk 12 rfl [] hD ?_
        refine SatD.sk 13 rfl [] hD ?_
        refine SatD.sk 14 rfl [] hD ?_
        refine SatD.sk 15 rfl [] hD ?_
        refine SatD.sk 16 rfl [] hD ?_
        refine SatD.tk 17 rfl hD (fun _ hw => RunV.pick_t rfl rfl) ?_
        refine SatD.tk 18 rfl hD (fun _ hw => RunV.move rfl) ?_
        refine SatD.sk 19 rfl [] hD ?_
        refine SatD.sk 20 rfl [] hD ?_
        refine SatD.sk 21 rfl [] hD ?_
        refine SatD.tk 22 rfl hD (fun _ hw => RunV.pick_t rfl rfl) ?_
        refine SatD.tk 23 rfl hD (fun _ hw => RunV.move rfl) ?_
        refine SatD.sk 24 rfl [] hD ?_
        refine SatD.sk 25 rfl [] hD ?_
        refine SatD.sk 26 rfl [] hD ?_
        refine SatD.tk 27 rfl hD (fun _ hw => RunV.pick_t rfl rfl) ?_
        refine SatD.tk 28 rfl hD (fun _ hw => RunV.move rfl) ?_
        refine SatD.sk 29 rfl [] hD ?_
        refine SatD.sk 30 rfl [] hD ?_
        refine SatD.sk 31 rfl [] hD ?_
        refine SatD.sk 32 rfl [] hD ?_
        refine SatD.sk 33 rfl [] hD ?_
        refine SatD.tk 34 rfl hD (fun _ hw => RunV.pick_t rfl rfl) ?_
        refine SatD.tk 35 rfl hD (fun _ hw => RunV.move rfl) ?_
        refine SatD.sk 36 rfl [] hD ?_
        refine SatD.sk 37 rfl [] hD ?_
        refine SatD.sk 38 rfl [] hD ?_
        refine SatD.sk 39 rfl [] hD ?_
        refine SatD.sk 40 rfl [] hD ?_
        refine SatD.tk 41 rfl hD (fun _ hw => RunV.pick_t rfl rfl) ?_
        refine SatD.tk 42 rfl hD (fun _ hw => RunV.move rfl) ?_
        refine SatD.sk 43 rfl [] hD ?_
        refine SatD.sk 44 rfl [] hD ?_
        refine SatD.sk 45 rfl [] hD ?_
        refine SatD.sk 46 rfl [] hD ?_
        refine SatD.tk 47 rfl hD (fun _ hw => RunV.pick_t rfl rfl) ?_
        refine SatD.done 0 (by kernel_rfl) (SatE.thenC ?_)
        clear hD
        refine SatC.weak (e' := [(1, _), (2, _), (6, _), (7, _), (74, _)]) (by repeat constructor) ?_
        refine SatC.cond_t rfl ?_
        refine SatC.seq ?_
        refine SatC.region ?_
        refine SatL.pu (RunV.assign rfl) rfl ?_
        refine SatL.nil (SatE.thenC ?_)
        refine SatC.ret (SatE.blk_ret (SatE.then_ret (SatE.then_ret (SatE.blk_ret (SatE.then_ret ?_)))))
        refine SatE.ret1 rfl rfl ?_
        first
        | exact ⟨false, rfl, ⟨fun e => absurd e (by decide), fun e => absurd (show BadE last (prevS ys i) y by unfold BadE; omega) (e.2 i y hy)⟩, hS.sel (by repeat constructor)⟩
        | exact ⟨true, rfl, ⟨fun _ => ⟨by omega, fun j y hy => hf j y (by have := (List.getElem?_eq_some_iff.1 hy).1; omega) hy⟩, fun _ => rfl⟩, hS.sel (by repeat constructor)⟩
      · (try simp only [cx, ne_eq] at h3)
        try (exfalso; (first | omega | exact h3 trivial | contradiction); done)
        all_goals
        refine SatD.tk 4 rfl hD (fun _ hw => RunV.move rfl) ?_
        refine SatD.tk 5 rfl hD (fun _ hw => RunV.gtr rfl rfl) ?_
        refine SatD.tk 6 rfl hD (fun _ hw => RunV.move rfl) ?_
        refine SatD.ways 33 rfl (fun h4 => ?_) (fun h4 => ?_)
        · (try simp only [cx, ne_eq] at h4)
          try (exfalso; (first | omega | exact h4 trivial | contradiction); done)
          all_goals
          first | refine SatD.tk 7 rfl hD (fun _ hw => RunV.fieldAddrL rfl rfl rfl) ?_ | refine SatD.tk 7 rfl hD (fun _ hw => RunV.fieldAddr rfl rfl rfl) ?_
          refine SatD.tk 8 rfl hD (fun _ hw => RunV.load1 hw rfl rfl (by repeat constructor) rfl) ?_
          refine SatD.tk 9 rfl hD (fun _ hw => RunV.move rfl) ?_
          refine SatD.tk 10 rfl hD (fun _ hw => RunV.move rfl) ?_
          refine SatD.tk 11 rfl hD (fun _ hw => RunV.sub rfl rfl (by first | exact wrapI64 (by omega) | rfl)) ?_
          refine SatD.tk 12 rfl hD (fun _ hw => RunV.indexR hvl rfl rfl rfl (by omega) (by omega) rfl) ?_
          first | refine SatD.tk 13 rfl hD (fun _ hw => RunV.fieldAddrL rfl rfl rfl) ?_ | refine SatD.tk 13 rfl hD (fun _ hw => RunV.fieldAddr rfl rfl rfl) ?_
          refine SatD.tk 14 rfl hD (fun _ hw => RunV.loadR1f (RdC.st hcl hw List.not_mem_nil) rfl rfl (map_get (hp (by omega))) rfl) ?_
          refine SatD.tk 15 rfl hD (fun _ hw => RunV.leq rfl rfl) ?_
          refine SatD.tk 16 rfl hD (fun _ hw => RunV.pick_t rfl rfl) ?_
          refine SatD.tk 17 rfl hD (fun _ hw => RunV.pick_f rfl rfl) ?_
          refine SatD.tk 18 rfl hD (fun _ hw => RunV.move rfl) ?_
          refine SatD.ways 45 rfl (fun h5 => ?_) (fun h5 => ?_)
          · (try simp only [cx, ne_eq] at h5)
            try (exfalso; (first | omega | exact h5 trivial | contradiction); done)
            all_goals
            refine SatD.sk 19 rfl [] hD ?_
            refine SatD.sk 20 rfl [] hD ?_
            refine SatD.sk 21 rfl [] hD ?_
            refine SatD.tk 22 rfl hD (fun _ hw => RunV.pick_t rfl rfl) ?_
            refine SatD.tk 23 rfl hD (fun _ hw => RunV.move rfl) ?_
            refine SatD.sk 24 rfl [] hD ?_
            refine SatD.sk 25 rfl [] hD ?_
            refine SatD.sk 26 rfl [] hD ?_
            refine SatD.tk 27 rfl hD (fun _ hw => RunV.pick_t rfl rfl) ?_
            refine SatD.tk 28 rfl hD (fun _ hw => RunV.move rfl) ?_
            refine SatD.sk 29 rfl [] hD ?_
            refine SatD.sk 30 rfl [] hD ?_
            refine SatD.sk 31 rfl [] hD ?_
            refine SatD.sk 32 rfl [] hD ?_
            refine SatD.sk 33 rfl [] hD ?_
            refine SatD.tk 34 rfl hD (fun _ hw => RunV.pick_t rfl rfl) ?_
            refine SatD.tk 35 rfl hD (fun _ hw => RunV.move rfl) ?_
            refine SatD.sk 36 rfl [] hD ?_
            refine SatD.sk 37 rfl [] hD ?_
            refine SatD.sk 38 rfl [] hD ?_
            refine SatD.sk 39 rfl [] hD ?_
            refine SatD.sk 40 rfl [] hD ?_
            refine SatD.tk 41 rfl hD (fun _ hw => RunV.pick_t rfl rfl) ?_
            refine SatD.tk 42 rfl hD (fun _ hw => RunV.move rfl) ?_
            refine SatD.sk 43 rfl [] hD ?_
            refine SatD.sk 44 rfl [] hD ?_
            refine SatD.sk 45 rfl [] hD ?_
            refine SatD.sk 46 rfl [] hD ?_
            refine SatD.tk 47 rfl hD (fun _ hw => RunV.pick_t rfl rfl) ?_
            refine SatD.done 0 (by kernel_rfl) (SatE.thenC ?_)
            clear hD
            refine SatC.weak (e' := [(1, _), (2, _), (6, _), (7, _), (74, _)]) (by repeat constructor) ?_
            refine SatC.cond_t rfl ?_
            refine SatC.seq ?_
            refine SatC.region ?_
            refine SatL.pu (RunV.assign rfl) rfl ?_
            refine SatL.nil (SatE.thenC ?_)
            refine SatC.ret (SatE.blk_ret (SatE.then_ret (SatE.then_ret (SatE.blk_ret (SatE.then_ret ?_)))))
            refine SatE.ret1 rfl rfl ?_
            first
            | exact ⟨false, rfl, ⟨fun e => absurd e (by decide), fun e => absurd (show BadE last (prevS ys i) y by unfold BadE; omega) (e.2 i y hy)⟩, hS.sel (by repeat constructor)⟩
            | exact ⟨true, rfl, ⟨fun _ => ⟨by omega, fun j y hy => hf j y (by have := (List.getElem?_eq_some_iff.1 hy).1; omega) hy⟩, fun _ => rfl⟩, hS.sel (by repeat constructor)⟩
          · (try simp only [cx, ne_eq] at h5)
            try (exfalso; (first | omega | exact h5 trivial | contradiction); done)
            all_goals
            first | refine SatD.tk 19 rfl hD (fun _ hw => RunV.fieldAddrL rfl rfl rfl) ?_ | refine SatD.tk 19 rfl hD (fun _ hw => RunV.fieldAddr rfl rfl rfl) ?_
            refine SatD.tk 20 rfl hD (fun _ hw => RunV.load1 hw rfl rfl (by repeat constructor) rfl) ?_
            refine SatD.tk 21 rfl hD (fun _ hw => RunV.lss rfl rfl) ?_
            refine SatD.tk 22 rfl hD (fun _ hw => RunV.pick_f rfl rfl) ?_
            refine SatD.tk 23 rfl hD (fun _ hw => RunV.move rfl) ?_
            refine SatD.ways 50 rfl (fun h6 => ?_) (fun h6 => ?_)
            · (try simp only [cx, ne_eq] at h6)
              try (exfalso; (first | omega | exact h6 trivial | contradiction); done)
              all_goals
              refine SatD.sk 24 rfl [] hD ?_
              refine SatD.sk 25 rfl [] hD ?_
              refine SatD.sk 26 rfl [] hD ?_
              refine SatD.tk 27 rfl hD (fun _ hw => RunV.pick_t rfl rfl) ?_
              refine SatD.tk 28 rfl hD (fun _ hw => RunV.move rfl) ?_
              refine SatD.sk 29 rfl [] hD ?_
              refine SatD.sk 30 rfl [] hD ?_
              refine SatD.sk 31 rfl [] hD ?_
              refine SatD.sk 32 rfl [] hD ?_
              refine SatD.sk 33 rfl [] hD ?_
              refine SatD.tk 34 rfl hD (fun _ hw => RunV.pick_t rfl rfl) ?_
              refine SatD.tk 35 rfl hD (fun _ hw => RunV.move rfl) ?_
              refine SatD.sk 36 rfl [] hD ?_
              refine SatD.sk 37 rfl [] hD ?_
              refine SatD.sk 38 rfl [] hD ?_
              refine SatD.sk 39 rfl [] hD ?_
              refine SatD.sk 40 rfl [] hD ?_
              refine SatD.tk 41 rfl hD (fun _ hw => RunV.pick_t rfl rfl) ?_
              refine SatD.tk 42 rfl hD (fun _ hw => RunV.move rfl) ?_
              refine SatD.sk 43 rfl [] hD ?_
              refine SatD.sk 44 rfl [] hD ?_
              refine SatD.sk 45 rfl [] hD ?_
              refine SatD.sk 46 rfl [] hD ?_
              refine SatD.tk 47 rfl hD (fun _ hw => RunV.pick_t rfl rfl) ?_
              refine SatD.done 0 (by kernel_rfl) (SatE.thenC ?_)
              clear hD
              refine SatC.weak (e' := [(1, _), (2, _), (6, _), (7, _), (74, _)]) (by repeat constructor) ?_
              refine SatC.cond_t rfl ?_
              refine SatC.seq ?_
              refine SatC.region ?_
              refine SatL.pu (RunV.assign rfl) rfl ?_
              refine SatL.nil (SatE.thenC ?_)
              refine SatC.ret (SatE.blk_ret (SatE.then_ret (SatE.then_ret (SatE.blk_ret (SatE.then_ret ?_)))))
              refine SatE.ret1 rfl rfl ?_
              first
              | exact ⟨false, rfl, ⟨fun e => absurd e (by decide), fun e => absurd (show BadE last (prevS ys i) y by unfold BadE; omega) (e.2 i y hy)⟩, hS.sel (by repeat constructor)⟩
              | exact ⟨true, rfl, ⟨fun _ => ⟨by omega, fun j y hy => hf j y (by have := (List.getElem?_eq_some_iff.1 hy).1; omega) hy⟩, fun _ => rfl⟩, hS.sel (by repeat constructor)⟩
            · (try simp only [cx, ne_eq] at h6)
              try (exfalso; (first | omega | exact h6 trivial | contradiction); done)
              all_goals
              first | refine SatD.tk 24 rfl hD (fun _ hw => RunV.fieldAddrL rfl rfl rfl) ?_ | refine SatD.tk 24 rfl hD (fun _ hw => RunV.fieldAddr rfl rfl rfl) ?_
              refine SatD.tk 25 rfl hD (fun _ hw => RunV.load1 hw rfl rfl (by repeat constructor) rfl) ?_
              refine SatD.tk 26 rfl hD (fun _ hw => RunV.gtr rfl rfl) ?_
              refine SatD.tk 27 rfl hD (fun _ hw => RunV.pick_f rfl rfl) ?_
              refine SatD.tk 28 rfl hD (fun _ hw => RunV.move rfl) ?_
              refine SatD.ways 55 rfl (fun h7 => ?_) (fun h7 => ?_)
              · (try simp only [cx, ne_eq] at h7)
                try (exfalso; (first | omega | exact h7 trivial | contradiction); done)
                all_goals
                refine SatD.sk 29 rfl [] hD ?_
                refine SatD.sk 30 rfl [] hD ?_
                refine SatD.sk 31 rfl [] hD ?_
                refine SatD.sk 32 rfl [] hD ?_
                refine SatD.sk 33 rfl [] hD ?_
                refine SatD.tk 34 rfl hD (fun _ hw => RunV.pick_t rfl rfl) ?_
                refine SatD.tk 35 rfl hD (fun _ hw => RunV.move rfl) ?_
                refine SatD.sk 36 rfl [] hD ?_
                refine SatD.sk 37 rfl [] hD ?_
                refine SatD.sk 38 rfl [] hD ?_
                refine SatD.sk 39 rfl [] hD ?_
                refine SatD.sk 40 rfl [] hD ?_
                refine SatD.tk 41 rfl hD (fun _ hw => RunV.pick_t rfl rfl) ?_
                refine SatD.tk 42 rfl hD (fun _ hw => RunV.move rfl) ?_
                refine SatD.sk 43 rfl [] hD ?_
                refine SatD.sk 44 rfl [] hD ?_
                refine SatD.sk 45 rfl [] hD ?_
                refine SatD.sk 46 rfl [] hD ?_
                refine SatD.tk 47 rfl hD (fun _ hw => RunV.pick_t rfl rfl) ?_
                refine SatD.done 0 (by kernel_rfl) (SatE.thenC ?_)
                clear hD
                refine SatC.weak (e' := [(1, _), (2, _), (6, _), (7, _), (74, _)]) (by repeat constructor) ?_
                refine SatC.cond_t rfl ?_
                refine SatC.seq ?_
                refine SatC.region ?_
                refine SatL.pu (RunV.assign rfl) rfl ?_
                refine SatL.nil (SatE.thenC ?_)
                refine SatC.ret (SatE.blk_ret (SatE.then_ret (SatE.then_ret (SatE.blk_ret (SatE.then_ret ?_)))))
                refine SatE.ret1 rfl rfl ?_
                first
                | exact ⟨false, rfl, ⟨fun e => absurd e (by decide), fun e => absurd (show BadE last (prevS ys i) y by unfold BadE; omega) (e.2 i y hy)⟩, hS.sel (by repeat constructor)⟩
                | exact ⟨true, rfl, ⟨fun _ => ⟨by omega, fun j y hy => hf j y (by have := (List.getElem?_eq_some_iff.1 hy).1; omega) hy⟩, fun _ => rfl⟩, hS.sel (by repeat constructor)⟩
              · (try simp only [cx, ne_eq] at h7)
                try (exfalso; (first | omega | exact h7 trivial | contradiction); done)
                all_goals
                first | refine SatD.tk 29 rfl hD (fun _ hw => RunV.fieldAddrL rfl rfl rfl) ?_ | refine SatD.tk 29 rfl hD (fun _ hw => RunV.fieldAddr rfl rfl rfl) ?_
                refine SatD.tk 30 rfl hD (fun _ hw => RunV.load1 hw rfl rfl (by repeat constructor) rfl) ?_
                first | refine SatD.tk 31 rfl hD (fun _ hw => RunV.fieldAddrL rfl rfl rfl) ?_ | refine SatD.tk 31 rfl hD (fun _ hw => RunV.fieldAddr rfl rfl rfl) ?_
                refine SatD.tk 32 rfl hD (fun _ hw => RunV.load1 hw rfl rfl (by repeat constructor) rfl) ?_
                refine SatD.tk 33 rfl hD (fun _ hw => RunV.neq rfl rfl) ?_
                refine SatD.tk 34 rfl hD (fun _ hw => RunV.pick_f rfl rfl) ?_
                refine SatD.tk 35 rfl hD (fun _ hw => RunV.move rfl) ?_
                refine SatD.ways 62 rfl (fun h8 => ?_) (fun h8 => ?_)
                · (try simp only [cx, ne_eq] at h8)
                  try (exfalso; (first | omega | exact h8 trivial | contradiction); done)
                  all_goals
                  refine SatD.sk 36 rfl [] hD ?_
                  refine SatD.sk 37 rfl [] hD ?_
                  refine SatD.sk 38 rfl [] hD ?_
                  refine SatD.sk 39 rfl [] hD ?_
                  refine SatD.sk 40 rfl [] hD ?_
                  refine SatD.tk 41 rfl hD (fun _ hw => RunV.pick_t rfl rfl) ?_
                  refine SatD.tk 42 rfl hD (fun _ hw => RunV.move rfl) ?_
                  refine SatD.sk 43 rfl [] hD ?_
                  refine SatD.sk 44 rfl [] hD ?_
                  refine SatD.sk 45 rfl [] hD ?_
                  refine SatD.sk 46 rfl [] hD ?_
                  refine SatD.tk 47 rfl hD (fun _ hw => RunV.pick_t rfl rfl) ?_
                  refine SatD.done 0 (by kernel_rfl) (SatE.thenC ?_)
                  clear hD
                  refine SatC.weak (e' := [(1, _), (2, _), (6, _), (7, _), (74, _)]) (by repeat constructor) ?_
                  refine SatC.cond_t rfl ?_
                  refine SatC.seq ?_
                  refine SatC.region ?_
                  refine SatL.pu (RunV.assign rfl) rfl ?_
                  refine SatL.nil (SatE.thenC ?_)
                  refine SatC.ret (SatE.blk_ret (SatE.then_ret (SatE.then_ret (SatE.blk_ret (SatE.then_ret ?_)))))
                  refine SatE.ret1 rfl rfl ?_
                  first
                  | exact ⟨false, rfl, ⟨fun e => absurd e (by decide), fun e => absurd (show BadE last (prevS ys i) y by unfold BadE; omega) (e.2 i y hy)⟩, hS.sel (by repeat constructor)⟩
                  | exact ⟨true, rfl, ⟨fun _ => ⟨by omega, fun j y hy => hf j y (by have := (List.getElem?_eq_some_iff.1 hy).1; omega) hy⟩, fun _ => rfl⟩, hS.sel (by repeat constructor)⟩
                · (try simp only [cx, ne_eq] at h8)
                  try (exfalso; (first | omega | exact h8 trivial | contradiction); done)
                  all_goals
                  first | refine SatD.tk 36 rfl hD (fun _ hw => RunV.fieldAddrL rfl rfl rfl) ?_ | refine SatD.tk 36 rfl hD (fun _ hw => RunV.fieldAddr rfl rfl rfl) ?_
                  refine SatD.tk 37 rfl hD (fun _ hw => RunV.load1 hw rfl rfl (by repeat constructor) rfl) ?_
                  first | refine SatD.tk 38 rfl hD (fun _ hw => RunV.fieldAddrL rfl rfl rfl) ?_ | refine SatD.tk 38 rfl hD (fun _ hw => RunV.fieldAddr rfl rfl rfl) ?_
                  refine SatD.tk 39 rfl hD (fun _ hw => RunV.load1 hw rfl rfl (by repeat constructor) rfl) ?_
                  refine SatD.tk 40 rfl hD (fun _ hw => RunV.neq rfl rfl) ?_
                  refine SatD.tk 41 rfl hD (fun _ hw => RunV.pick_f rfl rfl) ?_
                  refine SatD.tk 42 rfl hD (fun _ hw => RunV.move rfl) ?_
                  refine SatD.ways 69 rfl (fun h9 => ?_) (fun h9 => ?_)
                  · (try simp only [cx, ne_eq] at h9)
                    try (exfalso; (first | omega | exact h9 trivial | contradiction); done)
                    all_goals
                    refine SatD.sk 43 rfl [] hD ?_
                    refine SatD.sk 44 rfl [] hD ?_
                    refine SatD.sk 45 rfl [] hD ?_
                    refine SatD.sk 46 rfl [] hD ?_
                    refine SatD.tk 47 rfl hD (fun _ hw => RunV.pick_t rfl rfl) ?_
                    refine SatD.done 0 (by kernel_rfl) (SatE.thenC ?_)
                    clear hD
                    refine SatC.weak (e' := [(1, _), (2, _), (6, _), (7, _), (74, _)]) (by repeat constructor) ?_
                    refine SatC.cond_t rfl ?_
                    refine SatC.seq ?_
                    refine SatC.region ?_
                    refine SatL.pu (RunV.assign rfl) rfl ?_
                    refine SatL.nil (SatE.thenC ?_)
                    refine SatC.ret (SatE.blk_ret (SatE.then_ret (SatE.then_ret (SatE.blk_ret (SatE.then_ret ?_)))))
                    refine SatE.ret1 rfl rfl ?_
                    first
                    | exact ⟨false, rfl, ⟨fun e => absurd e (by decide), fun e => absurd (show BadE last (prevS ys i) y by unfold BadE; omega) (e.2 i y hy)⟩, hS.sel (by repeat constructor)⟩
                    | exact ⟨true, rfl, ⟨fun _ => ⟨by omega, fun j y hy => hf j y (by have := (List.getElem?_eq_some_iff.1 hy).1; omega) hy⟩, fun _ => rfl⟩, hS.sel (by repeat constructor)⟩
                  · (try simp only [cx, ne_eq] at h9)
                    try (exfalso; (first | omega | exact h9 trivial | contradiction); done)
                    all_goals
                    first | refine SatD.tk 43 rfl hD (fun _ hw => RunV.fieldAddrL rfl rfl rfl) ?_ | refine SatD.tk 43 rfl hD (fun _ hw => RunV.fieldAddr rfl rfl rfl) ?_
                    refine SatD.tk 44 rfl hD (fun _ hw => RunV.load1 hw rfl rfl (by repeat constructor) rfl) ?_
                    refine SatD.tk 45 rfl hD (fun _ hw => RunV.move rfl) ?_
                    refine SatD.tk 46 rfl hD (fun _ hw => RunV.gtr rfl rfl) ?_
                    refine SatD.tk 47 rfl hD (fun _ hw => RunV.pick_f rfl rfl) ?_
                    refine SatD.done 0 (by kernel_rfl) (SatE.thenC ?_)
                    clear hD
                    refine SatC.weak (e' := [(1, _), (2, _), (6, _), (7, _), (74, _)]) (by repeat constructor) ?_
                    refine SatC.cond rfl (fun h10 => ?_) (fun h10 => ?_)
                    · (try simp only [cx, ne_eq] at h10)
                      try (exfalso; (first | omega | exact h10 trivial | contradiction); done)
                      all_goals
                      refine SatC.seq ?_
                      refine SatC.region ?_
                      refine SatL.pu (RunV.assign rfl) rfl ?_
                      refine SatL.nil (SatE.thenC ?_)
                      refine SatC.ret (SatE.blk_ret (SatE.then_ret (SatE.then_ret (SatE.blk_ret (SatE.then_ret ?_)))))
                      refine SatE.ret1 rfl rfl ?_
                      first
                      | exact ⟨false, rfl, ⟨fun e => absurd e (by decide), fun e => absurd (show BadE last (prevS ys i) y by unfold BadE; omega) (e.2 i y hy)⟩, hS.sel (by repeat constructor)⟩
                      | exact ⟨true, rfl, ⟨fun _ => ⟨by omega, fun j y hy => hf j y (by have := (List.getElem?_eq_some_iff.1 hy).1; omega) hy⟩, fun _ => rfl⟩, hS.sel (by repeat constructor)⟩
                    · (try simp only [cx, ne_eq] at h10)
                      try (exfalso; (first | omega | exact h10 trivial | contradiction); done)
                      all_goals
                      refine SatC.skip (SatE.blk_normal (SatE.thenC ?_))
                      refine SatC.region ?_
                      refine SatL.pu (RunV.move rfl) rfl ?_
                      refine SatL.pu (RunV.add rfl rfl (by first | exact wrapI64 (by omega) | rfl)) rfl ?_
                      refine SatL.pu (RunV.assign rfl) rfl ?_
                      refine SatL.nil ?_
                      refine SatE.again (i + 1) ?_ (by first | omega | (dsimp only; omega)) (by repeat constructor)
                      exact ⟨by omega, fun j z hj hz => by rcases Nat.lt_or_eq_of_le (Nat.le_of_lt_succ hj) with hj | rfl; exact hf j z hj hz; rw [hy] at hz; cases hz; unfold BadE; omega, hS.sel (by repeat constructor)⟩
        · (try simp only [cx, ne_eq] at h4)
          try (exfalso; (first | omega | exact h4 trivial | contradiction); done)
          all_goals
          refine SatD.sk 7 rfl [] hD ?_
          refine SatD.sk 8 rfl [] hD ?_
          refine SatD.sk 9 rfl [] hD ?_
          refine SatD.sk 10 rfl [] hD ?_
          refine SatD.sk 11 rfl [] hD ?_
          refine SatD.sk 12 rfl [] hD ?_
          refine SatD.sk 13 rfl [] hD ?_
          refine SatD.sk 14 rfl [] hD ?_
          refine SatD.sk 15 rfl [] hD ?_
          refine SatD.tk 16 rfl hD (fun _ hw => RunV.pick_f rfl rfl) ?_
          refine SatD.tk 17 rfl hD (fun _ hw => RunV.pick_f rfl rfl) ?_
          refine SatD.tk 18 rfl hD (fun _ hw => RunV.move rfl) ?_
          first | refine SatD.tk 19 rfl hD (fun _ hw => RunV.fieldAddrL rfl rfl rfl) ?_ | refine SatD.tk 19 rfl hD (fun _ hw => RunV.fieldAddr rfl rfl rfl) ?_
          refine SatD.tk 20 rfl hD (fun _ hw => RunV.load1 hw rfl rfl (by repeat constructor) rfl) ?_
          refine SatD.tk 21 rfl hD (fun _ hw => RunV.lss rfl rfl) ?_
          refine SatD.tk 22 rfl hD (fun _ hw => RunV.pick_f rfl rfl) ?_
          refine SatD.tk 23 rfl hD (fun _ hw => RunV.move rfl) ?_
          refine SatD.ways 50 rfl (fun h5 => ?_) (fun h5 => ?_)
          · (try simp only [cx, ne_eq] at h5)
            try (exfalso; (first | omega | exact h5 trivial | contradiction); done)
            all_goals
            refine SatD.sk 24 rfl [] hD ?_
            refine SatD.sk 25 rfl [] hD ?_
            refine SatD.sk 26 rfl [] hD ?_
            refine SatD.tk 27 rfl hD (fun _ hw => RunV.pick_t rfl rfl) ?_
            refine SatD.tk 28 rfl hD (fun _ hw => RunV.move rfl) ?_
            refine SatD.sk 29 rfl [] hD ?_
            refine SatD.sk 30 rfl [] hD ?_
            refine SatD.sk 31 rfl [] hD ?_
            refine SatD.sk 32 rfl [] hD ?_
            refine SatD.sk 33 rfl [] hD ?_
            refine SatD.tk 34 rfl hD (fun _ hw => RunV.pick_t rfl rfl) ?_
            refine SatD.tk 35 rfl hD (fun _ hw => RunV.move rfl) ?_
            refine SatD.sk 36 rfl [] hD ?_
            refine SatD.sk 37 rfl [] hD ?_
            refine SatD.sk 38 rfl [] hD ?_
            refine SatD.sk 39 rfl [] hD ?_
            refine SatD.sk 40 rfl [] hD ?_
            refine SatD.tk 41 rfl hD (fun _ hw => RunV.pick_t rfl rfl) ?_
            refine SatD.tk 42 rfl hD (fun _ hw => RunV.move rfl) ?_
            refine SatD.sk 43 rfl [] hD ?_
            refine SatD.sk 44 rfl [] hD ?_
            refine SatD.sk 45 rfl [] hD ?_
            refine SatD.sk 46 rfl [] hD ?_
            refine SatD.tk 47 rfl hD (fun _ hw => RunV.pick_t rfl rfl) ?_
            refine SatD.done 0 (by kernel_rfl) (SatE.thenC ?_)
            clear hD
            refine SatC.weak (e' := [(1, _), (2, _), (6, _), (7, _), (74, _)]) (by repeat constructor) ?_
            refine SatC.cond_t rfl ?_
            refine SatC.seq ?_
            refine SatC.region ?_
            refine SatL.pu (RunV.assign rfl) rfl ?_
            refine SatL.nil (SatE.thenC ?_)
            refine SatC.ret (SatE.blk_ret (SatE.then_ret (SatE.then_ret (SatE.blk_ret (SatE.then_ret ?_)))))
            refine SatE.ret1 rfl rfl ?_
            first
            | exact ⟨false, rfl, ⟨fun e => absurd e (by decide), fun e => absurd (show BadE last (prevS ys i) y by unfold BadE; omega) (e.2 i y hy)⟩, hS.sel (by repeat constructor)⟩
            | exact ⟨true, rfl, ⟨fun _ => ⟨by omega, fun j y hy => hf j y (by have := (List.getElem?_eq_some_iff.1 hy).1; omega) hy⟩, fun _ => rfl⟩, hS.sel (by repeat constructor)⟩
          · (try simp only [cx, ne_eq] at h5)
            try (exfalso; (first | omega | exact h5 trivial | contradiction); done)
            all_goals
            first | refine SatD.tk 24 rfl hD (fun _ hw => RunV.fieldAddrL rfl rfl rfl) ?_ | refine SatD.tk 24 rfl hD (fun _ hw => RunV.fieldAddr rfl rfl rfl) ?_
            refine SatD.tk 25 rfl hD (fun _ hw => RunV.load1 hw rfl rfl (by repeat constructor) rfl) ?_
            refine SatD.tk 26 rfl hD (fun _ hw => RunV.gtr rfl rfl) ?_
            refine SatD.tk 27 rfl hD (fun _ hw => RunV.pick_f rfl rfl) ?_
            refine SatD.tk 28 rfl hD (fun _ hw => RunV.move rfl) ?_
            refine SatD.ways 55 rfl (fun h6 => ?_) (fun h6 => ?_)
            · (try simp only [cx, ne_eq] at h6)
              try (exfalso; (first | omega | exact h6 trivial | contradiction); done)
              all_goals
              refine SatD.sk 29 rfl [] hD ?_
              refine SatD.sk 30 rfl [] hD ?_
              refine SatD.sk 31 rfl [] hD ?_
              refine SatD.sk 32 rfl [] hD ?_
              refine SatD.sk 33 rfl [] hD ?_
              refine SatD.tk 34 rfl hD (fun _ hw => RunV.pick_t rfl rfl) ?_
              refine SatD.tk 35 rfl hD (fun _ hw => RunV.move rfl) ?_
              refine SatD.sk 36 rfl [] hD ?_
              refine SatD.sk 37 rfl [] hD ?_
              refine SatD.sk 38 rfl [] hD ?_
              refine SatD.sk 39 rfl [] hD ?_
              refine SatD.sk 40 rfl [] hD ?_
              refine SatD.tk 41 rfl hD (fun _ hw => RunV.pick_t rfl rfl) ?_
              refine SatD.tk 42 rfl hD (fun _ hw => RunV.move rfl) ?_
              refine SatD.sk 43 rfl [] hD ?_
              refine SatD.sk 44 rfl [] hD ?_
              refine SatD.sk 45 rfl [] hD ?_
              refine SatD.sk 46 rfl [] hD ?_
              refine SatD.tk 47 rfl hD (fun _ hw => RunV.pick_t rfl rfl) ?_
              refine SatD.done 0 (by kernel_rfl) (SatE.thenC ?_)
              clear hD
              refine SatC.weak (e' := [(1, _), (2, _), (6, _), (7, _), (74, _)]) (by repeat constructor) ?_
              refine SatC.cond_t rfl ?_
              refine SatC.seq ?_
              refine SatC.region ?_
              refine SatL.pu (RunV.assign rfl) rfl ?_
              refine SatL.nil (SatE.thenC ?_)
              refine SatC.ret (SatE.blk_ret (SatE.then_ret (SatE.then_ret (SatE.blk_ret (SatE.then_ret ?_)))))
              refine SatE.ret1 rfl rfl ?_
              first
              | exact ⟨false, rfl, ⟨fun e => absurd e (by decide), fun e => absurd (show BadE last (prevS ys i) y by unfold BadE; omega) (e.2 i y hy)⟩, hS.sel (by repeat constructor)⟩
              | exact ⟨true, rfl, ⟨fun _ => ⟨by omega, fun j y hy => hf j y (by have := (List.getElem?_eq_some_iff.1 hy).1; omega) hy⟩, fun _ => rfl⟩, hS.sel (by repeat constructor)⟩
            · (try simp only [cx, ne_eq] at h6)
              try (exfalso; (first | omega | exact h6 trivial | contradiction); done)
              all_goals
              first | refine SatD.tk 29 rfl hD (fun _ hw => RunV.fieldAddrL rfl rfl rfl) ?_ | refine SatD.tk 29 rfl hD (fun _ hw => RunV.fieldAddr rfl rfl rfl) ?_
              refine SatD.tk 30 rfl hD (fun _ hw => RunV.load1 hw rfl rfl (by repeat constructor) rfl) ?_
              first | refine SatD.tk 31 rfl hD (fun _ hw => RunV.fieldAddrL rfl rfl rfl) ?_ | refine SatD.tk 31 rfl hD (fun _ hw => RunV.fieldAddr rfl rfl rfl) ?_
              refine SatD.tk 32 rfl hD (fun _ hw => RunV.load1 hw rfl rfl (by repeat constructor) rfl) ?_
              refine SatD.tk 33 rfl hD (fun _ hw => RunV.neq rfl rfl) ?_
              refine SatD.tk 34 rfl hD (fun _ hw => RunV.pick_f rfl rfl) ?_
              refine SatD.tk 35 rfl hD (fun _ hw => RunV.move rfl) ?_
              refine SatD.ways 62 rfl (fun h7 => ?_) (fun h7 => ?_)
              · (try simp only [cx, ne_eq] at h7)
                try (exfalso; (first | omega | exact h7 trivial | contradiction); done)
                all_goals
                refine SatD.sk 36 rfl [] hD ?_
                refine SatD.sk 37 rfl [] hD ?_
                refine SatD.sk 38 rfl [] hD ?_
                refine SatD.sk 39 rfl [] hD ?_
                refine SatD.sk 40 rfl [] hD ?_
                refine SatD.tk 41 rfl hD (fun _ hw => RunV.pick_t rfl rfl) ?_
                refine SatD.tk 42 rfl hD (fun _ hw => RunV.move rfl) ?_
                refine SatD.sk 43 rfl [] hD ?_
                refine SatD.sk 44 rfl [] hD ?_
                refine SatD.sk 45 rfl [] hD ?_
                refine SatD.sk 46 rfl [] hD ?_
                refine SatD.tk 47 rfl hD (fun _ hw => RunV.pick_t rfl rfl) ?_
                refine SatD.done 0 (by kernel_rfl) (SatE.thenC ?_)
                clear hD
                refine SatC.weak (e' := [(1, _), (2, _), (6, _), (7, _), (74, _)]) (by repeat constructor) ?_
                refine SatC.cond_t rfl ?_
                refine SatC.seq ?_
                refine SatC.region ?_
                refine SatL.pu (RunV.assign rfl) rfl ?_
                refine SatL.nil (SatE.thenC ?_)
                refine SatC.ret (SatE.blk_ret (SatE.then_ret (SatE.then_ret (SatE.blk_ret (SatE.then_ret ?_)))))
                refine SatE.ret1 rfl rfl ?_
                first
                | exact ⟨false, rfl, ⟨fun e => absurd e (by decide), fun e => absurd (show BadE last (prevS ys i) y by unfold BadE; omega) (e.2 i y hy)⟩, hS.sel (by repeat constructor)⟩
                | exact ⟨true, rfl, ⟨fun _ => ⟨by omega, fun j y hy => hf j y (by have := (List.getElem?_eq_some_iff.1 hy).1; omega) hy⟩, fun _ => rfl⟩, hS.sel (by repeat constructor)⟩
              · (try simp only [cx, ne_eq] at h7)
                try (exfalso; (first | omega | exact h7 trivial | contradiction); done)
                all_goals
                first | refine SatD.tk 36 rfl hD (fun _ hw => RunV.fieldAddrL rfl rfl rfl) ?_ | refine SatD.tk 36 rfl hD (fun _ hw => RunV.fieldAddr rfl rfl rfl) ?_
                refine SatD.tk 37 rfl hD (fun _ hw => RunV.load1 hw rfl rfl (by repeat constructor) rfl) ?_
                first | refine SatD.tk 38 rfl hD (fun _ hw => RunV.fieldAddrL rfl rfl rfl) ?_ | refine SatD.tk 38 rfl hD (fun _ hw => RunV.fieldAddr rfl rfl rfl) ?_
                refine SatD.tk 39 rfl hD (fun _ hw => RunV.load1 hw rfl rfl (by repeat constructor) rfl) ?_
                refine SatD.tk 40 rfl hD (fun _ hw => RunV.neq rfl rfl) ?_
                refine SatD.tk 41 rfl hD (fun _ hw => RunV.pick_f rfl rfl) ?_
                refine SatD.tk 42 rfl hD (fun _ hw => RunV.move rfl) ?_
                refine SatD.ways 69 rfl (fun h8 => ?_) (fun h8 => ?_)
                · (try simp only [cx, ne_eq] at h8)
                  try (exfalso; (first | omega | exact h8 trivial | contradiction); done)
                  all_goals
                  refine SatD.sk 43 rfl [] hD ?_
                  refine SatD.sk 44 rfl [] hD ?_
                  refine SatD.sk 45 rfl [] hD ?_
                  refine SatD.sk 46 rfl [] hD ?_
                  refine SatD.tk 47 rfl hD (fun _ hw => RunV.pick_t rfl rfl) ?_
                  refine SatD.done 0 (by kernel_rfl) (SatE.thenC ?_)
                  clear hD
                  refine SatC.weak (e' := [(1, _), (2, _), (6, _), (7, _), (74, _)]) (by repeat constructor) ?_
                  refine SatC.cond_t rfl ?_
                  refine SatC.seq ?_
                  refine SatC.region ?_
                  refine SatL.pu (RunV.assign rfl) rfl ?_
                  refine SatL.nil (SatE.thenC ?_)
                  refine SatC.ret (SatE.blk_ret (SatE.then_ret (SatE.then_ret (SatE.blk_ret (SatE.then_ret ?_)))))
                  refine SatE.ret1 rfl rfl ?_
                  first
                  | exact ⟨false, rfl, ⟨fun e => absurd e (by decide), fun e => absurd (show BadE last (prevS ys i) y by unfold BadE; omega) (e.2 i y hy)⟩, hS.sel (by repeat constructor)⟩
                  | exact ⟨true, rfl, ⟨fun _ => ⟨by omega, fun j y hy => hf j y (by have := (List.getElem?_eq_some_iff.1 hy).1; omega) hy⟩, fun _ => rfl⟩, hS.sel (by repeat constructor)⟩
                · (try simp only [cx, ne_eq] at h8)
                  try (exfalso; (first | omega | exact h8 trivial | contradiction); done)
                  all_goals
                  first | refine SatD.tk 43 rfl hD (fun _ hw => RunV.fieldAddrL rfl rfl rfl) ?_ | refine SatD.tk 43 rfl hD (fun _ hw => RunV.fieldAddr rfl rfl rfl) ?_
                  refine SatD.tk 44 rfl hD (fun _ hw => RunV.load1 hw rfl rfl (by repeat constructor) rfl) ?_
                  refine SatD.tk 45 rfl hD (fun _ hw => RunV.move rfl) ?_
                  refine SatD.tk 46 rfl hD (fun _ hw => RunV.gtr rfl rfl) ?_
                  refine SatD.tk 47 rfl hD (fun _ hw => RunV.pick_f rfl rfl) ?_
                  refine SatD.done 0 (by kernel_rfl) (SatE.thenC ?_)
                  clear hD
                  refine SatC.weak (e' := [(1, _), (2, _), (6, _), (7, _), (74, _)]) (by repeat constructor) ?_
                  refine SatC.cond rfl (fun h9 => ?_) (fun h9 => ?_)
                  · (try simp only [cx, ne_eq] at h9)
                    try (exfalso; (first | omega | exact h9 trivial | contradiction); done)
                    all_goals
                    refine SatC.seq ?_
                    refine SatC.region ?_
                    refine SatL.pu (RunV.assign rfl) rfl ?_
                    refine SatL.nil (SatE.thenC ?_)
                    refine SatC.ret (SatE.blk_ret (SatE.then_ret (SatE.then_ret (SatE.blk_ret (SatE.then_ret ?_)))))
                    refine SatE.ret1 rfl rfl ?_
                    first
                    | exact ⟨false, rfl, ⟨fun e => absurd e (by decide), fun e => absurd (show BadE last (prevS ys i) y by unfold BadE; omega) (e.2 i y hy)⟩, hS.sel (by repeat constructor)⟩
                    | exact ⟨true, rfl, ⟨fun _ => ⟨by omega, fun j y hy => hf j y (by have := (List.getElem?_eq_some_iff.1 hy).1; omega) hy⟩, fun _ => rfl⟩, hS.sel (by repeat constructor)⟩
                  · (try simp only [cx, ne_eq] at h9)
                    try (exfalso; (first | omega | exact h9 trivial | contradiction); done)
                    all_goals
                    refine SatC.skip (SatE.blk_normal (SatE.thenC ?_))
                    refine SatC.region ?_
                    refine SatL.pu (RunV.move rfl) rfl ?_
                    refine SatL.pu (RunV.add rfl rfl (by first | exact wrapI64 (by omega) | rfl)) rfl ?_
                    refine SatL.pu (RunV.assign rfl) rfl ?_
                    refine SatL.nil ?_
                    refine SatE.again (i + 1) ?_ (by first | omega | (dsimp only; omega)) (by repeat constructor)
                    exact ⟨by omega, fun j z hj hz => by rcases Nat.lt_or_eq_of_le (Nat.le_of_lt_succ hj) with hj | rfl; exact hf j z hj hz; rw [hy] at hz; cases hz; unfold BadE; omega, hS.sel (by repeat constructor)⟩
    · (try simp only [cx, ne_eq] at h2)
      try (exfalso; (first | omega | exact h2 trivial | contradiction); done)
      all_goals
      refine SatC.exit (SatE.then_exit (SatE.then_exit (SatE.blk_exit (SatE.thenC ?_))))
      refine SatC.seq ?_
      refine SatC.region ?_
      refine SatL.pu (RunV.assign rfl) rfl ?_
      refine SatL.nil (SatE.thenC ?_)
      refine SatC.ret ?_
      refine SatE.ret1 rfl rfl ?_
      first
      | exact ⟨false, rfl, ⟨fun e => absurd e (by decide), fun e => absurd (show BadE last (prevS ys i) y by unfold BadE; omega) (e.2 i y hy)⟩, hS.sel (by repeat constructor)⟩
      | exact ⟨true, rfl, ⟨fun _ => ⟨by omega, fun j y hy => hf j y (by have := (List.getElem?_eq_some_iff.1 hy).1; omega) hy⟩, fun _ => rfl⟩, hS.sel (by repeat constructor)⟩
end Go.Proofs.Ythbfigkfelfhcaa
