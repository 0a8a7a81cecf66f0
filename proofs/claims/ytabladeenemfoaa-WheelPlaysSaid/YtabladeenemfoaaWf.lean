/- Set and Stop. -/
import Derived.Test.YtabladeenemfoaaWe
set_option linter.unusedSimpArgs false
set_option linter.unusedVariables false
set_option maxRecDepth 100000
set_option maxHeartbeats 4000000
namespace Go.Proofs.Ytabladeenemfoaa
open Go.RowKit
def PlB (ts : List Tm) : Prop := ∀ t ∈ ts, t.rim < 3 ∧ t.at_ < 64
theorem tof_pl {ts : List Tm} (h : PlB ts) (id : Int) : (tof ts id).rim < 3 ∧ (tof ts id).at_ < 64 := by
  unfold tof
  cases e : tget ts id with
  | none => exact ⟨show 0 < 3 by decide, show 0 < 64 by decide⟩
  | some t => exact h t (tget_mem e).1
def setOk (W : Wl) (id n : Int) : Prop := 1 ≤ n ∧ n ≤ 262144 ∧ ((tget W.ts id).isSome = true ∨ W.ts.length < 64)
instance (W : Wl) (id n : Int) : Decidable (setOk W id n) := by unfold setOk; exact inferInstance
def aStop (W : Wl) (id : Int) : Wl := if (tget W.ts id).isSome = true then aTake W id else W
def aSet (W : Wl) (id n : Int) : Wl := if setOk W id n then aHang (aStop W id) id (W.now + n.toNat) else W
theorem take_lenb {k : Nat} {W : Wl} (h : LenB k W.ls) (id : Int) : LenB k (aTake W id).ls := upd_lenb h (Nat.le_refl _) fun l hl => Nat.le_trans (nid_len id l) hl
section
variable {b m : Nat} {W : Wl} {L : List (Nat × Obj)} {w : World}
theorem stop_d (id : Int) (hpl : PlB W.ts) (hfew : LenB 900 W.ls) (h : Whl b m W L) (hown : Own w L) :
    Ret Try.prog 10 #[.pointer (some ⟨b, 0, none⟩), .int .i64 id] w fun u w' => u = .bool (tget W.ts id).isSome ∧ ∃ L', Whl b m (aStop W id) L' ∧ St w (L.map Prod.fst) L' w' := by
  obtain ⟨now, ts, ls⟩ := W
  have hw := h
  obtain ⟨hlen, hf1, mo, hs, hmp, hls, hsl, rfl⟩ := h
  dsimp only at *
  have hS := St.init hown
  unfold aStop
  dsimp only
  generalize hX : (WO b m mo now hs).map Prod.fst = X at hS ⊢
  simp only [WO, hbl] at hS hw hX
  generalize hD : List.flatMap (fun x : Pl => x.B) hs = D at hS hw hX
  refine Ret.enter Try.func10 Try.ntmps10 rfl rfl ?_
  simp only [argEnv, Nat.reduceAdd]
  refine SatC.seq ?_
  refine SatC.region ?_
  refine SatL.pu (RunV.assign rfl) rfl ?_
  refine SatL.nil (SatE.thenC ?_)
  refine SatC.seq ?_
  refine SatC.seq ?_
  refine SatC.region ?_
  refine SatL.pu (RunV.move rfl) rfl ?_
  refine SatL.op rfl (OpW.enter rfl rfl rfl (rfl) (wnone_any (hS.ownT (A := [(b, C 48 (wcs now m hs))]) (by repeat constructor))) ?_)
  rintro r1 w1 ⟨rfl, h⟩
  replace hS := St.callN hS h
  refine SatL.nil (SatE.thenC ?_)
  refine SatC.cond rfl (fun h1 => ?_) (fun h1 => ?_)
  · (try simp only [cx, ne_eq] at h1)
    try (exfalso; (first | omega | exact h1 trivial | contradiction | (first | omega | (simp at h1; done))); done)
    all_goals
    refine SatC.seq ?_
    refine SatC.region ?_
    refine SatL.pu (RunV.assign rfl) rfl ?_
    refine SatL.nil (SatE.thenC ?_)
    refine SatC.ret (SatE.then_ret ?_)
    refine SatE.ret1 rfl rfl ?_
    first
    | exact ⟨rfl, L2, by rw [if_pos (by assumption)]; exact hw2, hS.sel (by repeat constructor)⟩
    | exact ⟨rfl, _, by rw [if_neg (by simp_all)]; exact hw, hS.sel (by repeat constructor)⟩
  · (try simp only [cx, ne_eq] at h1)
    try (exfalso; (first | omega | exact h1 trivial | contradiction | (first | omega | (simp at h1; done))); done)
    all_goals
    refine SatC.skip (SatE.thenC ?_)
    refine SatC.seq ?_
    refine SatC.region ?_
    refine SatL.pu (RunV.move rfl) rfl ?_
    first | refine SatL.pu (RunV.nil_ptr rfl) rfl ?_ | refine SatL.pu (RunV.nil_func rfl) rfl ?_ | refine SatL.pu (RunV.nil_yield rfl) rfl ?_
    first | refine SatL.pu (RunV.fieldAddrL rfl rfl rfl) rfl ?_ | refine SatL.pu (RunV.fieldAddr rfl rfl rfl) rfl ?_
    refine SatL.pu (RunV.load1 hS rfl rfl (by repeat constructor) rfl) rfl ?_
    refine SatL.pu (RunV.move rfl) rfl ?_
    refine SatL.pu (RunV.cast (RunV.lookup2 (keyInt rfl) hS rfl rfl rfl rfl (by repeat constructor) hmp.is) (look2 _ _)) rfl ?_
    refine SatL.pu (RunV.move rfl) rfl ?_
    refine SatL.pu (RunV.extract rfl rfl) rfl ?_
    refine SatL.pu (RunV.extract rfl rfl) rfl ?_
    refine SatL.op rfl (OpW.alloc hS rfl rfl (by repeat constructor) ?_)
    clear hS
    intro b5 w2 _ hS
    refine SatL.op rfl (OpW.store hS rfl rfl (by repeat constructor) (by repeat constructor) (by repeat constructor) rfl rfl ?_)
    clear hS
    intro w3 hS
    refine SatL.pu (RunV.assign rfl) rfl ?_
    refine SatL.nil (SatE.thenC ?_)
    refine SatC.seq ?_
    refine SatC.seq ?_
    refine SatC.weak (e' := [(0, _), (1, _), (4, _), (6, _)]) (by repeat constructor) ?_
    refine SatC.region ?_
    refine SatL.pu (RunV.move rfl) rfl ?_
    refine SatL.nil (SatE.thenC ?_)
    refine SatC.cond rfl (fun h2 => ?_) (fun h2 => ?_)
    · (try simp only [cx, ne_eq] at h2)
      try (exfalso; (first | omega | exact h2 trivial | contradiction | (first | omega | (simp at h2; done))); done)
      all_goals
      refine SatC.region ?_
      refine SatL.pu (RunV.move rfl) rfl ?_
      refine SatL.pu (RunV.move rfl) rfl ?_
      refine SatL.op rfl (OpW.enter rfl rfl rfl (rfl) (take_d (W := ⟨now, ts, ls⟩) id (tof_pl hpl id).1 (tof_pl hpl id).2 hfew hw (hS.ownT (A := (b, C 48 (wcs now m hs)) :: (m, mo) :: D) (by repeat constructor))) ?_)
      rintro r4 w4 ⟨L2, hw2, h⟩
      replace hS := hS.callT (A := (b, C 48 (wcs now m hs)) :: (m, mo) :: D) (by repeat constructor) h
      refine SatL.nil (SatE.thenC ?_)
      refine SatC.seq ?_
      refine SatC.region ?_
      refine SatL.pu (RunV.move rfl) rfl ?_
      refine SatL.pu (RunV.assign rfl) rfl ?_
      refine SatL.nil (SatE.thenC ?_)
      refine SatC.ret ?_
      refine SatE.ret1 rfl rfl ?_
      first
      | exact ⟨rfl, L2, by rw [if_pos (by assumption)]; exact hw2, hS.sel (by repeat constructor)⟩
      | exact ⟨rfl, _, by rw [if_neg (by simp_all)]; exact hw, hS.sel (by repeat constructor)⟩
    · (try simp only [cx, ne_eq] at h2)
      try (exfalso; (first | omega | exact h2 trivial | contradiction | (first | omega | (simp at h2; done))); done)
      all_goals
      refine SatC.skip (SatE.thenC ?_)
      refine SatC.seq ?_
      refine SatC.region ?_
      refine SatL.pu (RunV.move rfl) rfl ?_
      refine SatL.pu (RunV.assign rfl) rfl ?_
      refine SatL.nil (SatE.thenC ?_)
      refine SatC.ret ?_
      refine SatE.ret1 rfl rfl ?_
      first
      | exact ⟨rfl, L2, by rw [if_pos (by assumption)]; exact hw2, hS.sel (by repeat constructor)⟩
      | exact ⟨rfl, _, by rw [if_neg (by simp_all)]; exact hw, hS.sel (by repeat constructor)⟩
theorem set_d (id n : Int) (hn : W.now ≤ 900000000) (hpl : PlB W.ts) (hfew : LenB 900 W.ls) (h : Whl b m W L) (hown : Own w L) :
    Ret Try.prog 9 #[.pointer (some ⟨b, 0, none⟩), .int .i64 id, .int .i64 n] w fun u w' => u = .bool (decide (setOk W id n)) ∧ ∃ L', Whl b m (aSet W id n) L' ∧ St w (L.map Prod.fst) L' w' := by
  obtain ⟨now, ts, ls⟩ := W
  have hw := h
  obtain ⟨hlen, hf1, mo, hs, hmp, hls, hsl, rfl⟩ := h
  dsimp only at *
  have hS := St.init hown
  have hnt : (aTake ⟨now, ts, ls⟩ id).now = now := rfl
  generalize hX : (WO b m mo now hs).map Prod.fst = X at hS ⊢
  simp only [WO, hbl] at hS hw hX
  generalize hD : List.flatMap (fun x : Pl => x.B) hs = D at hS hw hX
  refine Ret.enter Try.func9 Try.ntmps9 rfl rfl ?_
  simp only [argEnv, Nat.reduceAdd]
  refine SatC.seq ?_
  refine SatC.region ?_
  refine SatL.pu (RunV.assign rfl) rfl ?_
  refine SatL.nil (SatE.thenC ?_)
  refine SatC.seq ?_
  refine SatC.seq ?_
  refine SatC.region ?_
  refine SatL.pu (RunV.move rfl) rfl ?_
  refine SatL.op rfl (OpW.enter rfl rfl rfl (rfl) (wnone_any (hS.ownT (A := [(b, C 48 (wcs now m hs))]) (by repeat constructor))) ?_)
  rintro r1 w1 ⟨rfl, h⟩
  replace hS := St.callN hS h
  refine SatL.pu (RunV.move rfl) rfl ?_
  refine SatL.guard rfl rfl rfl (fun h1 => ?_) (fun h1 => ?_)
  · (try simp only [cx, ne_eq] at h1)
    try (exfalso; (first | omega | exact h1 trivial | contradiction | (first | omega | (simp at h1; done))); done)
    all_goals
    refine SatL.pu (RunV.move rfl) rfl ?_
    refine SatL.guard_y rfl rfl ?_
    refine SatL.pu (RunV.lss rfl rfl) rfl ?_
    refine SatL.pu (RunV.pick_f rfl rfl) rfl ?_
    refine SatL.pu (RunV.move rfl) rfl ?_
    refine SatL.guard rfl rfl rfl (fun h2 => ?_) (fun h2 => ?_)
    · (try simp only [cx, ne_eq] at h2)
      try (exfalso; (first | omega | exact h2 trivial | contradiction | (first | omega | (simp at h2; done))); done)
      all_goals
      refine SatL.pu (RunV.move rfl) rfl ?_
      refine SatL.guard_y rfl rfl ?_
      refine SatL.pu (RunV.gtr rfl rfl) rfl ?_
      refine SatL.pu (RunV.pick_f rfl rfl) rfl ?_
      refine SatL.nil (SatE.thenC ?_)
      refine SatC.cond rfl (fun h3 => ?_) (fun h3 => ?_)
      · (try simp only [cx, ne_eq] at h3)
        try (exfalso; (first | omega | exact h3 trivial | contradiction | (first | omega | (simp at h3; done))); done)
        all_goals
        refine SatC.seq ?_
        refine SatC.weak (e' := [(6, _)]) (by repeat constructor) ?_
        refine SatC.region ?_
        refine SatL.pu (RunV.assign rfl) rfl ?_
        refine SatL.nil (SatE.thenC ?_)
        refine SatC.ret (SatE.then_ret ?_)
        refine SatE.ret1 rfl rfl ?_
        first
        | (have hno : ¬ setOk ⟨now, ts, ls⟩ id n := by (unfold setOk; dsimp only; rintro ⟨h1, h2, h3⟩; (first | omega | (rcases h3 with h3 | h3 <;> first | omega | (simp_all; done))))
           exact ⟨by rw [decide_eq_false hno], _, by unfold aSet; rw [if_neg hno]; exact hw, hS.sel (by repeat constructor)⟩)
        | (have hok : setOk ⟨now, ts, ls⟩ id (k : Int) := ⟨by omega, by omega, .inl (by assumption)⟩
           exact ⟨by rw [decide_eq_true hok], L3, by unfold aSet aStop; rw [if_pos hok, if_pos (by assumption)]; exact hw3, hS.sel (by repeat constructor)⟩)
        | (have hok : setOk ⟨now, ts, ls⟩ id (k : Int) := ⟨by omega, by omega, .inr (by dsimp only; omega)⟩
           exact ⟨by rw [decide_eq_true hok], L3, by unfold aSet aStop; rw [if_pos hok, if_neg (by simp_all)]; exact hw3, hS.sel (by repeat constructor)⟩)
      · (try simp only [cx, ne_eq] at h3)
        try (exfalso; (first | omega | exact h3 trivial | contradiction | (first | omega | (simp at h3; done))); done)
        all_goals
        refine SatC.skip (SatE.thenC ?_)
        refine SatC.seq ?_
        refine SatC.seq ?_
        refine SatC.region ?_
        refine SatL.pu (RunV.move rfl) rfl ?_
        first | refine SatL.pu (RunV.nil_ptr rfl) rfl ?_ | refine SatL.pu (RunV.nil_func rfl) rfl ?_ | refine SatL.pu (RunV.nil_yield rfl) rfl ?_
        first | refine SatL.pu (RunV.fieldAddrL rfl rfl rfl) rfl ?_ | refine SatL.pu (RunV.fieldAddr rfl rfl rfl) rfl ?_
        refine SatL.pu (RunV.load1 hS rfl rfl (by repeat constructor) rfl) rfl ?_
        refine SatL.pu (RunV.move rfl) rfl ?_
        refine SatL.pu (RunV.cast (RunV.lookup2 (keyInt rfl) hS rfl rfl rfl rfl (by repeat constructor) hmp.is) (look2 _ _)) rfl ?_
        refine SatL.pu (RunV.move rfl) rfl ?_
        refine SatL.pu (RunV.extract rfl rfl) rfl ?_
        refine SatL.pu (RunV.extract rfl rfl) rfl ?_
        refine SatL.op rfl (OpW.alloc hS rfl rfl (by repeat constructor) ?_)
        clear hS
        intro b7 w2 _ hS
        refine SatL.op rfl (OpW.store hS rfl rfl (by repeat constructor) (by repeat constructor) (by repeat constructor) rfl rfl ?_)
        clear hS
        intro w3 hS
        refine SatL.pu (RunV.assign rfl) rfl ?_
        refine SatL.nil (SatE.thenC ?_)
        refine SatC.seq ?_
        refine SatC.weak (e' := [(0, _), (1, _), (2, _), (6, _), (8, _)]) (by repeat constructor) ?_
        refine SatC.region ?_
        refine SatL.pu (RunV.move rfl) rfl ?_
        refine SatL.nil (SatE.thenC ?_)
        refine SatC.cond rfl (fun h4 => ?_) (fun h4 => ?_)
        · (try simp only [cx, ne_eq] at h4)
          try (exfalso; (first | omega | exact h4 trivial | contradiction | (first | omega | (simp at h4; done))); done)
          all_goals
          refine SatC.region ?_
          refine SatL.pu (RunV.move rfl) rfl ?_
          refine SatL.pu (RunV.move rfl) rfl ?_
          refine SatL.op rfl (OpW.enter rfl rfl rfl (rfl) (take_d (W := ⟨now, ts, ls⟩) id (tof_pl hpl id).1 (tof_pl hpl id).2 hfew hw (hS.ownT (A := (b, C 48 (wcs now m hs)) :: (m, mo) :: D) (by repeat constructor))) ?_)
          rintro r4 w4 ⟨L2, hw2, h⟩
          replace hS := hS.callT (A := (b, C 48 (wcs now m hs)) :: (m, mo) :: D) (by repeat constructor) h
          have hw9 := hw2
          obtain ⟨hlen2, hf2, mo2, hs2, hmp2, hls2, hsl2, rfl⟩ := hw9
          simp only [WO, hbl, hnt] at hS hw2
          generalize hD2 : List.flatMap (fun x : Pl => x.B) hs2 = D2 at hS hw2
          refine SatL.nil (SatE.thenC ?_)
          refine SatC.seq ?_
          obtain ⟨k, rfl⟩ : ∃ k : Nat, n = (k : Int) := ⟨n.toNat, by omega⟩
          refine SatC.region ?_
          refine SatL.pu (RunV.move rfl) rfl ?_
          refine SatL.pu (RunV.move rfl) rfl ?_
          refine SatL.pu (RunV.move rfl) rfl ?_
          first | refine SatL.pu (RunV.nil_ptr rfl) rfl ?_ | refine SatL.pu (RunV.nil_func rfl) rfl ?_ | refine SatL.pu (RunV.nil_yield rfl) rfl ?_
          first | refine SatL.pu (RunV.fieldAddrL rfl rfl rfl) rfl ?_ | refine SatL.pu (RunV.fieldAddr rfl rfl rfl) rfl ?_
          refine SatL.pu (RunV.load1 hS rfl rfl (by repeat constructor) rfl) rfl ?_
          refine SatL.pu (RunV.move rfl) rfl ?_
          refine SatL.pu (RunV.cast (v' := .int .i64 ((now + k : Nat) : Int)) (RunV.add rfl rfl (wrapI64 (by omega))) rfl) rfl ?_
          refine SatL.op rfl (OpW.enter rfl rfl rfl (rfl) (hang_d (W := aTake ⟨now, ts, ls⟩ id) id (now + k) (by rw [hnt]; omega) (by omega) (take_lenb (W := ⟨now, ts, ls⟩) hfew id) hw2 (hS.ownT (A := (b, C 48 (wcs now m hs2)) :: (m, mo2) :: D2) (by repeat constructor))) ?_)
          rintro r5 w5 ⟨L3, hw3, h⟩
          replace hS := hS.callT (A := (b, C 48 (wcs now m hs2)) :: (m, mo2) :: D2) (by repeat constructor) h
          refine SatL.nil (SatE.thenC ?_)
          refine SatC.seq ?_
          refine SatC.weak (e' := [(6, _)]) (by repeat constructor) ?_
          refine SatC.region ?_
          refine SatL.pu (RunV.assign rfl) rfl ?_
          refine SatL.nil (SatE.thenC ?_)
          refine SatC.ret ?_
          refine SatE.ret1 rfl rfl ?_
          first
          | (have hno : ¬ setOk ⟨now, ts, ls⟩ id n := by (unfold setOk; dsimp only; rintro ⟨h1, h2, h3⟩; (first | omega | (rcases h3 with h3 | h3 <;> first | omega | (simp_all; done))))
             exact ⟨by rw [decide_eq_false hno], _, by unfold aSet; rw [if_neg hno]; exact hw, hS.sel (by repeat constructor)⟩)
          | (have hok : setOk ⟨now, ts, ls⟩ id (k : Int) := ⟨by omega, by omega, .inl (by assumption)⟩
             exact ⟨by rw [decide_eq_true hok], L3, by unfold aSet aStop; rw [if_pos hok, if_pos (by assumption)]; exact hw3, hS.sel (by repeat constructor)⟩)
          | (have hok : setOk ⟨now, ts, ls⟩ id (k : Int) := ⟨by omega, by omega, .inr (by dsimp only; omega)⟩
             exact ⟨by rw [decide_eq_true hok], L3, by unfold aSet aStop; rw [if_pos hok, if_neg (by simp_all)]; exact hw3, hS.sel (by repeat constructor)⟩)
        · (try simp only [cx, ne_eq] at h4)
          try (exfalso; (first | omega | exact h4 trivial | contradiction | (first | omega | (simp at h4; done))); done)
          all_goals
          refine SatC.seq ?_
          refine SatC.region ?_
          refine SatL.pu (RunV.move rfl) rfl ?_
          first | refine SatL.pu (RunV.nil_ptr rfl) rfl ?_ | refine SatL.pu (RunV.nil_func rfl) rfl ?_ | refine SatL.pu (RunV.nil_yield rfl) rfl ?_
          first | refine SatL.pu (RunV.fieldAddrL rfl rfl rfl) rfl ?_ | refine SatL.pu (RunV.fieldAddr rfl rfl rfl) rfl ?_
          refine SatL.pu (RunV.load1 hS rfl rfl (by repeat constructor) rfl) rfl ?_
          refine SatL.pu (RunV.cast (v' := .int .i64 (ts.length : Int)) (RunV.lenM hS rfl rfl (by repeat constructor) hmp.is) (by rw [List.length_map])) rfl ?_
          refine SatL.pu (RunV.geq rfl rfl) rfl ?_
          refine SatL.nil (SatE.thenC ?_)
          refine SatC.cond rfl (fun h5 => ?_) (fun h5 => ?_)
          · (try simp only [cx, ne_eq] at h5)
            try (exfalso; (first | omega | exact h5 trivial | contradiction | (first | omega | (simp at h5; done))); done)
            all_goals
            refine SatC.seq ?_
            refine SatC.region ?_
            refine SatL.pu (RunV.assign rfl) rfl ?_
            refine SatL.nil (SatE.thenC ?_)
            refine SatC.ret (SatE.then_ret ?_)
            refine SatE.ret1 rfl rfl ?_
            first
            | (have hno : ¬ setOk ⟨now, ts, ls⟩ id n := by (unfold setOk; dsimp only; rintro ⟨h1, h2, h3⟩; (first | omega | (rcases h3 with h3 | h3 <;> first | omega | (simp_all; done))))
               exact ⟨by rw [decide_eq_false hno], _, by unfold aSet; rw [if_neg hno]; exact hw, hS.sel (by repeat constructor)⟩)
            | (have hok : setOk ⟨now, ts, ls⟩ id (k : Int) := ⟨by omega, by omega, .inl (by assumption)⟩
               exact ⟨by rw [decide_eq_true hok], L3, by unfold aSet aStop; rw [if_pos hok, if_pos (by assumption)]; exact hw3, hS.sel (by repeat constructor)⟩)
            | (have hok : setOk ⟨now, ts, ls⟩ id (k : Int) := ⟨by omega, by omega, .inr (by dsimp only; omega)⟩
               exact ⟨by rw [decide_eq_true hok], L3, by unfold aSet aStop; rw [if_pos hok, if_neg (by simp_all)]; exact hw3, hS.sel (by repeat constructor)⟩)
          · (try simp only [cx, ne_eq] at h5)
            try (exfalso; (first | omega | exact h5 trivial | contradiction | (first | omega | (simp at h5; done))); done)
            all_goals
            refine SatC.skip (SatE.thenC ?_)
            refine SatC.seq ?_
            obtain ⟨k, rfl⟩ : ∃ k : Nat, n = (k : Int) := ⟨n.toNat, by omega⟩
            refine SatC.region ?_
            refine SatL.pu (RunV.move rfl) rfl ?_
            refine SatL.pu (RunV.move rfl) rfl ?_
            refine SatL.pu (RunV.move rfl) rfl ?_
            first | refine SatL.pu (RunV.nil_ptr rfl) rfl ?_ | refine SatL.pu (RunV.nil_func rfl) rfl ?_ | refine SatL.pu (RunV.nil_yield rfl) rfl ?_
            first | refine SatL.pu (RunV.fieldAddrL rfl rfl rfl) rfl ?_ | refine SatL.pu (RunV.fieldAddr rfl rfl rfl) rfl ?_
            refine SatL.pu (RunV.load1 hS rfl rfl (by repeat constructor) rfl) rfl ?_
            refine SatL.pu (RunV.move rfl) rfl ?_
            refine SatL.pu (RunV.cast (v' := .int .i64 ((now + k : Nat) : Int)) (RunV.add rfl rfl (wrapI64 (by omega))) rfl) rfl ?_
            refine SatL.op rfl (OpW.enter rfl rfl rfl (rfl) (hang_d (W := ⟨now, ts, ls⟩) id (now + k) (by dsimp only; omega) (by omega) hfew hw (hS.ownT (A := (b, C 48 (wcs now m hs)) :: (m, mo) :: D) (by repeat constructor))) ?_)
            rintro r4 w4 ⟨L3, hw3, h⟩
            replace hS := hS.callT (A := (b, C 48 (wcs now m hs)) :: (m, mo) :: D) (by repeat constructor) h
            refine SatL.nil (SatE.thenC ?_)
            refine SatC.seq ?_
            refine SatC.weak (e' := [(6, _)]) (by repeat constructor) ?_
            refine SatC.region ?_
            refine SatL.pu (RunV.assign rfl) rfl ?_
            refine SatL.nil (SatE.thenC ?_)
            refine SatC.ret ?_
            refine SatE.ret1 rfl rfl ?_
            first
            | (have hno : ¬ setOk ⟨now, ts, ls⟩ id n := by (unfold setOk; dsimp only; rintro ⟨h1, h2, h3⟩; (first | omega | (rcases h3 with h3 | h3 <;> first | omega | (simp_all; done))))
               exact ⟨by rw [decide_eq_false hno], _, by unfold aSet; rw [if_neg hno]; exact hw, hS.sel (by repeat constructor)⟩)
            | (have hok : setOk ⟨now, ts, ls⟩ id (k : Int) := ⟨by omega, by omega, .inl (by assumption)⟩
               exact ⟨by rw [decide_eq_true hok], L3, by unfold aSet aStop; rw [if_pos hok, if_pos (by assumption)]; exact hw3, hS.sel (by repeat constructor)⟩)
            | (have hok : setOk ⟨now, ts, ls⟩ id (k : Int) := ⟨by omega, by omega, .inr (by dsimp only; omega)⟩
               exact ⟨by rw [decide_eq_true hok], L3, by unfold aSet aStop; rw [if_pos hok, if_neg (by simp_all)]; exact hw3, hS.sel (by repeat constructor)⟩)
    · (try simp only [cx, ne_eq] at h2)
      try (exfalso; (first | omega | exact h2 trivial | contradiction | (first | omega | (simp at h2; done))); done)
      all_goals
      refine SatL.guard_n rfl rfl rfl rfl ?_
      refine SatL.pu (RunV.pick_t rfl rfl) rfl ?_
      refine SatL.nil (SatE.thenC ?_)
      refine SatC.cond_t rfl ?_
      refine SatC.seq ?_
      refine SatC.weak (e' := [(6, _)]) (by repeat constructor) ?_
      refine SatC.region ?_
      refine SatL.pu (RunV.assign rfl) rfl ?_
      refine SatL.nil (SatE.thenC ?_)
      refine SatC.ret (SatE.then_ret ?_)
      refine SatE.ret1 rfl rfl ?_
      first
      | (have hno : ¬ setOk ⟨now, ts, ls⟩ id n := by (unfold setOk; dsimp only; rintro ⟨h1, h2, h3⟩; (first | omega | (rcases h3 with h3 | h3 <;> first | omega | (simp_all; done))))
         exact ⟨by rw [decide_eq_false hno], _, by unfold aSet; rw [if_neg hno]; exact hw, hS.sel (by repeat constructor)⟩)
      | (have hok : setOk ⟨now, ts, ls⟩ id (k : Int) := ⟨by omega, by omega, .inl (by assumption)⟩
         exact ⟨by rw [decide_eq_true hok], L3, by unfold aSet aStop; rw [if_pos hok, if_pos (by assumption)]; exact hw3, hS.sel (by repeat constructor)⟩)
      | (have hok : setOk ⟨now, ts, ls⟩ id (k : Int) := ⟨by omega, by omega, .inr (by dsimp only; omega)⟩
         exact ⟨by rw [decide_eq_true hok], L3, by unfold aSet aStop; rw [if_pos hok, if_neg (by simp_all)]; exact hw3, hS.sel (by repeat constructor)⟩)
  · (try simp only [cx, ne_eq] at h1)
    try (exfalso; (first | omega | exact h1 trivial | contradiction | (first | omega | (simp at h1; done))); done)
    all_goals
    refine SatL.guard_n rfl rfl rfl rfl ?_
    refine SatL.pu (RunV.pick_t rfl rfl) rfl ?_
    refine SatL.pu (RunV.move rfl) rfl ?_
    refine SatL.guard_n rfl rfl rfl rfl ?_
    refine SatL.guard_n rfl rfl rfl rfl ?_
    refine SatL.pu (RunV.pick_t rfl rfl) rfl ?_
    refine SatL.nil (SatE.thenC ?_)
    refine SatC.cond_t rfl ?_
    refine SatC.seq ?_
    refine SatC.weak (e' := [(6, _)]) (by repeat constructor) ?_
    refine SatC.region ?_
    refine SatL.pu (RunV.assign rfl) rfl ?_
    refine SatL.nil (SatE.thenC ?_)
    refine SatC.ret (SatE.then_ret ?_)
    refine SatE.ret1 rfl rfl ?_
    first
    | (have hno : ¬ setOk ⟨now, ts, ls⟩ id n := by (unfold setOk; dsimp only; rintro ⟨h1, h2, h3⟩; (first | omega | (rcases h3 with h3 | h3 <;> first | omega | (simp_all; done))))
       exact ⟨by rw [decide_eq_false hno], _, by unfold aSet; rw [if_neg hno]; exact hw, hS.sel (by repeat constructor)⟩)
    | (have hok : setOk ⟨now, ts, ls⟩ id (k : Int) := ⟨by omega, by omega, .inl (by assumption)⟩
       exact ⟨by rw [decide_eq_true hok], L3, by unfold aSet aStop; rw [if_pos hok, if_pos (by assumption)]; exact hw3, hS.sel (by repeat constructor)⟩)
    | (have hok : setOk ⟨now, ts, ls⟩ id (k : Int) := ⟨by omega, by omega, .inr (by dsimp only; omega)⟩
       exact ⟨by rw [decide_eq_true hok], L3, by unfold aSet aStop; rw [if_pos hok, if_neg (by simp_all)]; exact hw3, hS.sel (by repeat constructor)⟩)
end
end Go.Proofs.Ytabladeenemfoaa
