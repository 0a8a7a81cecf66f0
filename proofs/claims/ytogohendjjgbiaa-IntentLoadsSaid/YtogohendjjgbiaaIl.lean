/- The intentions' calls, walked. -/
import Derived.Test.YtogohendjjgbiaaIk
import Derived.Test.YtogohendjjgbiaaK24
set_option linter.unusedSimpArgs false
set_option linter.unusedVariables false
set_option maxRecDepth 100000
set_option maxHeartbeats 4000000
namespace Go.Proofs.Ytogohendjjgbiaa
open Go.RowKit
def keyI (s d : List UInt8) : List UInt8 := d ++ [32] ++ s
def findI (rows : List Tr) (s d : List UInt8) (old : Int) : Bool × Int :=
  if patI s = false ∨ patI d = false then (false, 10)
  else if (getF rows (keyI s d)).2 = true ∧ ¬ old = 0 ∧ ¬ (getF rows (keyI s d)).1.x = old then (true, 21)
  else ((getF rows (keyI s d)).2, 0)
def putI (most last : Int) (rows : List Tr) (s d : List UInt8) (a : Bool) (ix : Int) : Int × List Tr × Int :=
  ((putS most last rows (keyI s d) ⟨s, d, a, 0, 0⟩ ix).2.1, (putS most last rows (keyI s d) ⟨s, d, a, 0, 0⟩ ix).2.2.1, (putS most last rows (keyI s d) ⟨s, d, a, 0, 0⟩ ix).2.2.2)
def addI (most last : Int) (rows : List Tr) (s d : List UInt8) (a : Bool) (ix : Int) : Int × List Tr × Int :=
  if ¬ (findI rows s d 0).2 = 0 then ((findI rows s d 0).2, rows, last)
  else if (findI rows s d 0).1 = true then (20, rows, last)
  else putI most last rows s d a ix
def turnI (most last : Int) (rows : List Tr) (s d : List UInt8) (a : Bool) (old ix : Int) : Int × List Tr × Int :=
  if ¬ (findI rows s d old).2 = 0 then ((findI rows s d old).2, rows, last)
  else if (findI rows s d old).1 = false then (4, rows, last)
  else putI most last rows s d a ix
def dropI (last : Int) (rows : List Tr) (s d : List UInt8) (old ix : Int) : Int × List Tr × Int :=
  if ¬ (findI rows s d old).2 = 0 then ((findI rows s d old).2, rows, last)
  else if (findI rows s d old).1 = false then (4, rows, last)
  else (0, (dropS last rows (keyI s d) ix).2.1, (dropS last rows (keyI s d) ix).2.2)
theorem pat_len {s : List UInt8} (h : patI s = true) : s.length ≤ 24 := by
  unfold patI at h
  rw [Bool.or_eq_true, decide_eq_true_eq] at h
  rcases h with rfl | h
  · decide
  · exact ((okN_iff s).1 h).1.2
theorem find_pat {rows : List Tr} {s d : List UInt8} {old : Int} (h : (findI rows s d old).2 = 0) : patI s = true ∧ patI d = true := by
  unfold findI at h
  split at h
  · cases h
  · rename_i h1
    rw [not_or] at h1
    exact ⟨by simpa using h1.1, by simpa using h1.2⟩
/-- The intentions' blocks. -/
@[reducible] def IO (b0 b : Nat) (most last : Int) (v : Value) (B : List (Nat × Obj)) : List (Nat × Obj) := (b0, C 59 [.pointer (some ⟨b, 0, none⟩)]) :: (b, C 94 (tc most v last)) :: B
theorem key_any (s d : List UInt8) (hs : s.length ≤ 24) (hd : d.length ≤ 24) (w : World) : Ret Try.prog 54 #[str s, str d] w fun u w' => u = str (keyI s d) ∧ St w [] [] w' := by
  have hS := St.init0 w
  refine Ret.enter Try.func54 Try.ntmps54 rfl rfl ?_
  simp only [argEnv, Nat.reduceAdd]
  refine SatC.seq ?_
  refine SatC.region ?_
  refine SatL.pu (RunV.assign rfl) rfl ?_
  refine SatL.nil (SatE.thenC ?_)
  refine SatC.seq ?_
  refine SatC.region ?_
  refine SatL.pu (RunV.move rfl) rfl ?_
  refine SatL.pu (RunV.sadd (a := d) (b := [32]) rfl rfl (by simp; omega)) rfl ?_
  refine SatL.pu (RunV.move rfl) rfl ?_
  refine SatL.pu (RunV.sadd (a := d ++ [32]) (b := s) rfl rfl (by simp; omega)) rfl ?_
  refine SatL.pu (RunV.assign rfl) rfl ?_
  refine SatL.nil (SatE.thenC ?_)
  refine SatC.ret ?_
  refine SatE.ret1 rfl rfl ?_
  exact ⟨rfl, hS⟩
theorem inew_any (n : Int) (w : World) : Ret Try.prog 24 #[.int .i64 n] w fun u w' => ∃ b0 b, u = .pointer (some ⟨b0, 0, none⟩) ∧ St w [] (IO b0 b (min (max n 1) 64) 0 (.slice none 0 0) []) w' := by
  have hS := St.init0 w
  refine Ret.enter Try.func24 Try.ntmps24 rfl rfl ?_
  simp only [argEnv, Nat.reduceAdd]
  refine SatC.seq ?_
  refine SatC.region ?_
  refine SatL.pu (RunV.assign rfl) rfl ?_
  refine SatL.nil (SatE.thenC ?_)
  refine SatC.seq ?_
  refine SatC.region ?_
  refine SatL.pu (RunV.move rfl) rfl ?_
  refine SatL.op rfl (OpW.enter rfl rfl rfl (rfl) (tnew_any n _) ?_)
  rintro r1 w1 ⟨b, rfl, h⟩
  replace hS := hS.callT (A := []) (by repeat constructor) h
  refine SatL.pu (RunV.build rfl (by simp [go_sem]; try rfl)) rfl ?_
  refine SatL.op rfl (OpW.box hS rfl rfl (by repeat constructor) ?_)
  clear hS
  intro b6 w2 _ hS
  refine SatL.pu (RunV.assign rfl) rfl ?_
  refine SatL.nil (SatE.thenC ?_)
  refine SatC.ret ?_
  refine SatE.ret1 rfl rfl ?_
  exact ⟨_, b, rfl, hS.sel (by repeat constructor)⟩
section
variable {b0 b : Nat} {most last : Int} {v : Value} {rows : List Tr} {B : List (Nat × Obj)} {w : World}
theorem inone_any (hown : Own w (IO b0 b most last v B)) : Ret Try.prog 41 #[.pointer (some ⟨b0, 0, none⟩)] w fun u w' => u = .bool false ∧ St w [] [] w' := by
  have hS := St.init hown
  refine Ret.enter Try.func41 Try.ntmps41 rfl rfl ?_
  simp only [argEnv, Nat.reduceAdd]
  refine SatC.seq ?_
  refine SatC.region ?_
  refine SatL.pu (RunV.assign rfl) rfl ?_
  refine SatL.nil (SatE.thenC ?_)
  refine SatC.seq ?_
  refine SatC.region ?_
  refine SatL.pu (RunV.move rfl) rfl ?_
  refine SatL.pu (RunV.eqlPtrNil rfl rfl rfl) rfl ?_
  refine SatL.pu (RunV.move rfl) rfl ?_
  refine SatL.guard rfl rfl rfl (fun h1 => ?_) (fun h1 => ?_)
  · (try simp only [cx, ne_eq] at h1)
    try (exfalso; (first | omega | exact h1 trivial | contradiction | (first | omega | (simp at h1; done))); done)
    all_goals
    refine SatL.pu (RunV.move rfl) rfl ?_
    refine SatL.guard_y rfl rfl ?_
    first | refine SatL.pu (RunV.nil_ptr rfl) rfl ?_ | refine SatL.pu (RunV.nil_func rfl) rfl ?_ | refine SatL.pu (RunV.nil_yield rfl) rfl ?_
    refine SatL.guard_y rfl rfl ?_
    first | refine SatL.pu (RunV.fieldAddrL rfl rfl rfl) rfl ?_ | refine SatL.pu (RunV.fieldAddr rfl rfl rfl) rfl ?_
    refine SatL.guard_y rfl rfl ?_
    refine SatL.pu (RunV.load1 hS rfl rfl (by repeat constructor) rfl) rfl ?_
    refine SatL.guard_y rfl rfl ?_
    refine SatL.pu (RunV.eqlPtrNil rfl rfl rfl) rfl ?_
    refine SatL.pu (RunV.pick_f rfl rfl) rfl ?_
    refine SatL.pu (RunV.assign rfl) rfl ?_
    refine SatL.nil (SatE.thenC ?_)
    refine SatC.ret ?_
    refine SatE.ret1 rfl rfl ?_
    exact ⟨rfl, St.ro hown hS .all⟩
  · (try simp only [cx, ne_eq] at h1)
    try (exfalso; (first | omega | exact h1 trivial | contradiction | (first | omega | (simp at h1; done))); done)
    all_goals
    refine SatL.guard_n rfl rfl rfl rfl ?_
    refine SatL.guard_n rfl rfl rfl rfl ?_
    refine SatL.guard_n rfl rfl rfl rfl ?_
    refine SatL.guard_n rfl rfl rfl rfl ?_
    refine SatL.pu (RunV.pick_t rfl rfl) rfl ?_
    refine SatL.pu (RunV.assign rfl) rfl ?_
    refine SatL.nil (SatE.thenC ?_)
    refine SatC.ret ?_
    refine SatE.ret1 rfl rfl ?_
    exact ⟨rfl, St.ro hown hS .all⟩
theorem ilast_any (hm : ¬ most = 0) (hown : Own w (IO b0 b most last v B)) : Ret Try.prog 23 #[.pointer (some ⟨b0, 0, none⟩)] w fun u w' => u = .int .u64 last ∧ St w [] [] w' := by
  have hS := St.init hown
  refine Ret.enter Try.func23 Try.ntmps23 rfl rfl ?_
  simp only [argEnv, Nat.reduceAdd]
  refine SatC.seq ?_
  refine SatC.region ?_
  refine SatL.pu (RunV.assign rfl) rfl ?_
  refine SatL.nil (SatE.thenC ?_)
  refine SatC.seq ?_
  refine SatC.seq ?_
  refine SatC.region ?_
  refine SatL.pu (RunV.move rfl) rfl ?_
  refine SatL.op rfl (OpW.enter rfl rfl rfl (rfl) (inone_any (hS.ownT (A := IO b0 b most last v B) (by repeat constructor))) ?_)
  rintro r1 w1 ⟨rfl, h⟩
  replace hS := St.callN hS h
  refine SatL.nil (SatE.thenC ?_)
  refine SatC.cond rfl (fun h1 => ?_) (fun h1 => ?_)
  · (try simp only [cx, ne_eq] at h1)
    try (exfalso; (first | omega | exact h1 trivial | contradiction | (first | omega | (simp at h1; done))); done)
    all_goals
    refine SatC.seq ?_
    refine SatC.region ?_
    refine SatL.pu (RunV.assign rfl) rfl ?_
    refine SatL.nil (SatE.thenC ?_)
    refine SatC.ret (SatE.then_ret ?_)
    refine SatE.ret1 rfl rfl ?_
    exact ⟨rfl, St.ro hown hS .all⟩
  · (try simp only [cx, ne_eq] at h1)
    try (exfalso; (first | omega | exact h1 trivial | contradiction | (first | omega | (simp at h1; done))); done)
    all_goals
    refine SatC.skip (SatE.thenC ?_)
    refine SatC.seq ?_
    refine SatC.region ?_
    refine SatL.pu (RunV.move rfl) rfl ?_
    first | refine SatL.pu (RunV.nil_ptr rfl) rfl ?_ | refine SatL.pu (RunV.nil_func rfl) rfl ?_ | refine SatL.pu (RunV.nil_yield rfl) rfl ?_
    first | refine SatL.pu (RunV.fieldAddrL rfl rfl rfl) rfl ?_ | refine SatL.pu (RunV.fieldAddr rfl rfl rfl) rfl ?_
    refine SatL.pu (RunV.load1 hS rfl rfl (by repeat constructor) rfl) rfl ?_
    refine SatL.op rfl (OpW.enter rfl rfl rfl (rfl) (last_any (hS.ownT (A := (b, C 94 (tc most v last)) :: B) (by repeat constructor)) hm) ?_)
    rintro r2 w2 ⟨rfl, h⟩
    replace hS := St.callN hS h
    refine SatL.pu (RunV.assign rfl) rfl ?_
    refine SatL.nil (SatE.thenC ?_)
    refine SatC.ret ?_
    refine SatE.ret1 rfl rfl ?_
    exact ⟨rfl, St.ro hown hS .all⟩
theorem icopy_any (hm : ¬ most = 0) (hsl : Sl 77 8 v (rows.map tr) B) (hl : rows.length ≤ 100000) (hown : Own w (IO b0 b most last v B)) : Ret Try.prog 32 #[.pointer (some ⟨b0, 0, none⟩)] w fun u w' => ∃ c0 c cv CB, u = .pointer (some ⟨c0, 0, none⟩) ∧ Sl 77 8 cv (rows.map tr) CB ∧ St w [] (IO c0 c most last cv CB) w' := by
  have hS := St.init hown
  refine Ret.enter Try.func32 Try.ntmps32 rfl rfl ?_
  simp only [argEnv, Nat.reduceAdd]
  refine SatC.seq ?_
  refine SatC.region ?_
  refine SatL.pu (RunV.assign rfl) rfl ?_
  refine SatL.nil (SatE.thenC ?_)
  refine SatC.seq ?_
  refine SatC.seq ?_
  refine SatC.region ?_
  refine SatL.pu (RunV.move rfl) rfl ?_
  refine SatL.op rfl (OpW.enter rfl rfl rfl (rfl) (inone_any (hS.ownT (A := IO b0 b most last v B) (by repeat constructor))) ?_)
  rintro r1 w1 ⟨rfl, h⟩
  replace hS := St.callN hS h
  refine SatL.nil (SatE.thenC ?_)
  refine SatC.cond rfl (fun h1 => ?_) (fun h1 => ?_)
  · (try simp only [cx, ne_eq] at h1)
    try (exfalso; (first | omega | exact h1 trivial | contradiction | (first | omega | (simp at h1; done))); done)
    all_goals
    refine SatC.seq ?_
    refine SatC.region ?_
    refine SatL.pu (RunV.assign rfl) rfl ?_
    refine SatL.nil (SatE.thenC ?_)
    refine SatC.ret (SatE.then_ret ?_)
    refine SatE.ret1 rfl rfl ?_
    exact ⟨_, cb, cv, CB, rfl, hslc, St.roL hown (hS.sel (R := IO b0 b most last v B ++ IO b11 cb most last cv CB) (by repeat constructor)) .here⟩
  · (try simp only [cx, ne_eq] at h1)
    try (exfalso; (first | omega | exact h1 trivial | contradiction | (first | omega | (simp at h1; done))); done)
    all_goals
    refine SatC.skip (SatE.thenC ?_)
    refine SatC.seq ?_
    refine SatC.region ?_
    refine SatL.pu (RunV.move rfl) rfl ?_
    first | refine SatL.pu (RunV.nil_ptr rfl) rfl ?_ | refine SatL.pu (RunV.nil_func rfl) rfl ?_ | refine SatL.pu (RunV.nil_yield rfl) rfl ?_
    first | refine SatL.pu (RunV.fieldAddrL rfl rfl rfl) rfl ?_ | refine SatL.pu (RunV.fieldAddr rfl rfl rfl) rfl ?_
    refine SatL.pu (RunV.load1 hS rfl rfl (by repeat constructor) rfl) rfl ?_
    refine SatL.op rfl (OpW.enter rfl rfl rfl (rfl) (copy_any hsl (by omega) (hS.ownT (A := (b, C 94 (tc most v last)) :: B) (by repeat constructor)) hm) ?_)
    rintro r2 w2 ⟨cb, cv, CB, rfl, hslc, h⟩
    replace hS := hS.call0 h
    refine SatL.pu (RunV.build rfl (by simp [go_sem]; try rfl)) rfl ?_
    refine SatL.op rfl (OpW.box hS rfl rfl (by repeat constructor) ?_)
    clear hS
    intro b11 w3 _ hS
    refine SatL.pu (RunV.assign rfl) rfl ?_
    refine SatL.nil (SatE.thenC ?_)
    refine SatC.ret ?_
    refine SatE.ret1 rfl rfl ?_
    exact ⟨_, cb, cv, CB, rfl, hslc, St.roL hown (hS.sel (R := IO b0 b most last v B ++ IO b11 cb most last cv CB) (by repeat constructor)) .here⟩
theorem ifind_any (s d : List UInt8) (old : Int) (ha : Asc rows) (hm : ¬ most = 0) (hsl : Sl 77 8 v (rows.map tr) B) (hl : rows.length ≤ 100000) (hown : Own w (IO b0 b most last v B)) :
    Ret Try.prog 52 #[.pointer (some ⟨b0, 0, none⟩), str s, str d, .int .u64 old] w fun u w' => u = .tuple #[.bool (findI rows s d old).1, .int .i64 (findI rows s d old).2] ∧ St w [] [] w' := by
  have hS := St.init hown
  refine Ret.enter Try.func52 Try.ntmps52 rfl rfl ?_
  simp only [argEnv, Nat.reduceAdd]
  obtain ⟨F, hF⟩ : ∃ F, findI rows s d old = F := ⟨_, rfl⟩
  unfold findI at hF ⊢
  obtain ⟨G, hG⟩ : ∃ G, getF rows (keyI s d) = G := ⟨_, rfl⟩
  rw [hG] at hF ⊢
  refine SatC.seq ?_
  refine SatC.region ?_
  refine SatL.pu (RunV.assign rfl) rfl ?_
  refine SatL.pu (RunV.assign rfl) rfl ?_
  refine SatL.nil (SatE.thenC ?_)
  refine SatC.seq ?_
  refine SatC.seq ?_
  refine SatC.region ?_
  refine SatL.pu (RunV.move rfl) rfl ?_
  refine SatL.op rfl (OpW.enter rfl rfl rfl (rfl) (inone_any (hS.ownT (A := IO b0 b most last v B) (by repeat constructor))) ?_)
  rintro r1 w1 ⟨rfl, h⟩
  replace hS := St.callN hS h
  refine SatL.nil (SatE.thenC ?_)
  refine SatC.cond rfl (fun h1 => ?_) (fun h1 => ?_)
  · (try simp only [cx, ne_eq] at h1)
    try (exfalso; (first | omega | exact h1 trivial | contradiction | (first | omega | (simp at h1; done))); done)
    all_goals
    refine SatC.seq ?_
    refine SatC.region ?_
    refine SatL.pu (RunV.assign rfl) rfl ?_
    refine SatL.pu (RunV.assign rfl) rfl ?_
    refine SatL.nil (SatE.thenC ?_)
    refine SatC.ret (SatE.then_ret ?_)
    refine SatE.ret2 rfl rfl rfl ?_
    refine ⟨by subst hF; simp [*], St.ro hown (hS.sel (R := IO b0 b most last v B) (by repeat constructor)) .all⟩
  · (try simp only [cx, ne_eq] at h1)
    try (exfalso; (first | omega | exact h1 trivial | contradiction | (first | omega | (simp at h1; done))); done)
    all_goals
    refine SatC.skip (SatE.thenC ?_)
    refine SatC.seq ?_
    refine SatC.seq ?_
    refine SatC.region ?_
    refine SatL.pu (RunV.move rfl) rfl ?_
    refine SatL.op rfl (OpW.enter rfl rfl rfl (rfl) (pat_any _ _) ?_)
    rintro r2 w2 ⟨rfl, h⟩
    replace hS := St.callN hS h
    refine SatL.pu (RunV.not rfl) rfl ?_
    refine SatL.pu (RunV.move rfl) rfl ?_
    refine SatL.guard rfl rfl rfl (fun h2 => ?_) (fun h2 => ?_)
    · (try simp only [cx, ne_eq] at h2)
      try (exfalso; (first | omega | exact h2 trivial | contradiction | (first | omega | (simp at h2; done))); done)
      all_goals
      refine SatL.pu (RunV.move rfl) rfl ?_
      refine SatL.guard_y rfl rfl ?_
      refine SatL.op rfl (OpW.enter rfl rfl rfl (rfl) (pat_any _ _) ?_)
      rintro r3 w3 ⟨rfl, h⟩
      replace hS := St.callN hS h
      refine SatL.guard_y rfl rfl ?_
      refine SatL.pu (RunV.not rfl) rfl ?_
      refine SatL.pu (RunV.pick_f rfl rfl) rfl ?_
      refine SatL.nil (SatE.thenC ?_)
      refine SatC.cond rfl (fun h3 => ?_) (fun h3 => ?_)
      · (try simp only [cx, ne_eq] at h3)
        try (exfalso; (first | omega | exact h3 trivial | contradiction | (first | omega | (simp at h3; done))); done)
        all_goals
        refine SatC.seq ?_
        refine SatC.weak (e' := [(8, _), (9, _)]) (by repeat constructor) ?_
        refine SatC.region ?_
        refine SatL.pu (RunV.assign rfl) rfl ?_
        refine SatL.pu (RunV.assign rfl) rfl ?_
        refine SatL.nil (SatE.thenC ?_)
        refine SatC.ret (SatE.then_ret ?_)
        refine SatE.ret2 rfl rfl rfl ?_
        refine ⟨by subst hF; simp [*], St.ro hown (hS.sel (R := IO b0 b most last v B) (by repeat constructor)) .all⟩
      · (try simp only [cx, ne_eq] at h3)
        try (exfalso; (first | omega | exact h3 trivial | contradiction | (first | omega | (simp at h3; done))); done)
        all_goals
        refine SatC.skip (SatE.thenC ?_)
        refine SatC.seq ?_
        have hps : patI s = true := by simp_all
        have hpd : patI d = true := by simp_all
        have h24 := pat_len hps
        have h24' := pat_len hpd
        rw [if_neg (by rw [hps, hpd]; decide)] at hF ⊢
        refine SatC.drawnT 14 hS (hS) (by kernel_rfl) ?_
        clear hS
        intro w4 hh hS hD
        refine SatD.tk 0 rfl hD (fun _ hw => RunV.move rfl) ?_
        first | refine SatD.tk 1 rfl hD (fun _ hw => RunV.nil_ptr rfl) ?_ | refine SatD.tk 1 rfl hD (fun _ hw => RunV.nil_func rfl) ?_ | refine SatD.tk 1 rfl hD (fun _ hw => RunV.nil_yield rfl) ?_
        first | refine SatD.tk 2 rfl hD (fun _ hw => RunV.fieldAddrL rfl rfl rfl) ?_ | refine SatD.tk 2 rfl hD (fun _ hw => RunV.fieldAddr rfl rfl rfl) ?_
        refine SatD.tk 3 rfl hD (fun _ hw => RunV.load1 hw rfl rfl (by repeat constructor) rfl) ?_
        refine SatD.tk 4 rfl hD (fun _ hw => RunV.move rfl) ?_
        refine SatD.tk 5 rfl hD (fun _ hw => RunV.move rfl) ?_
        apply SatD.join1
        · intro hK
          refine SatD.effs [6, 11] (by kernel_rfl) ⟨⟨_, rfl, rfl, OpW.enter rfl rfl rfl (rfl) (key_any _ _ (by omega) (by omega) _) ?_⟩, ⟨_, rfl, rfl, OpW.alloc hS rfl rfl (by repeat constructor) ?_⟩, trivial⟩
          · skip
            rintro r5 w5 ⟨rfl, h⟩
            replace hS := St.callN hS h
            refine keepS (hS.sel (by repeat constructor)) (fun hD => ?_)
            refine SatD.effs [7, 11] (by kernel_rfl) ⟨⟨_, rfl, rfl, OpW.enter rfl rfl rfl (rfl) (get_tab (keyI s d) ha hsl (by omega) (hS.ownT (A := (b, C 94 (tc most v last)) :: B) (by repeat constructor)) hm) ?_⟩, ⟨_, rfl, rfl, OpW.alloc hS rfl rfl (by repeat constructor) ?_⟩, trivial⟩
            · skip
              rintro r6 w6 ⟨rfl, h⟩
              replace hS := St.callN hS h
              rw [hG]
              refine keepS (hS.sel (by repeat constructor)) (fun hD => ?_)
              refine SatD.tk 8 rfl hD (fun _ hw => RunV.move rfl) ?_
              refine SatD.tk 9 rfl hD (fun _ hw => RunV.extract rfl rfl) ?_
              refine SatD.tk 10 rfl hD (fun _ hw => RunV.extract rfl rfl) ?_
              refine SatD.ef 11 rfl (OpW.alloc hS rfl rfl (by repeat constructor) ?_)
              intro b10 w7 _ hS
              refine keepS (hS.sel (by repeat constructor)) (fun hD => ?_)
              refine SatD.ef 12 rfl (OpW.store hS rfl rfl (by repeat constructor) (by repeat constructor) (by repeat constructor) rfl rfl ?_)
              intro w8 hS
              refine keepS (hS.sel (by repeat constructor)) (fun hD => ?_)
              refine SatD.tk 13 rfl hD (fun _ hw => RunV.assign rfl) ?_
              refine SatD.done 0 (by kernel_rfl) ?_
              refine SatE.weak (e' := [(3, _), (8, _), (9, _), (10, _), (11, _)]) (by repeat constructor) ?_
              exact hK b10 w8 hS
            · skip
              intro b10 w6 _ hS
              refine keepS (hS.sel (by repeat constructor)) (fun hD => ?_)
              refine SatD.ef 7 rfl (OpW.enter rfl rfl rfl (rfl) (get_tab (keyI s d) ha hsl (by omega) (hS.ownT (A := (b, C 94 (tc most v last)) :: B) (by repeat constructor)) hm) ?_)
              rintro r7 w7 ⟨rfl, h⟩
              replace hS := St.callN hS h
              rw [hG]
              refine keepS (hS.sel (by repeat constructor)) (fun hD => ?_)
              refine SatD.tk 8 rfl hD (fun _ hw => RunV.move rfl) ?_
              refine SatD.tk 9 rfl hD (fun _ hw => RunV.extract rfl rfl) ?_
              refine SatD.tk 10 rfl hD (fun _ hw => RunV.extract rfl rfl) ?_
              refine SatD.ef 12 rfl (OpW.store hS rfl rfl (by repeat constructor) (by repeat constructor) (by repeat constructor) rfl rfl ?_)
              intro w8 hS
              refine keepS (hS.sel (by repeat constructor)) (fun hD => ?_)
              refine SatD.tk 13 rfl hD (fun _ hw => RunV.assign rfl) ?_
              refine SatD.done 0 (by kernel_rfl) ?_
              refine SatE.weak (e' := [(3, _), (8, _), (9, _), (10, _), (11, _)]) (by repeat constructor) ?_
              exact hK b10 w8 hS
          · skip
            intro b10 w5 _ hS
            refine keepS (hS.sel (by repeat constructor)) (fun hD => ?_)
            refine SatD.ef 6 rfl (OpW.enter rfl rfl rfl (rfl) (key_any _ _ (by omega) (by omega) _) ?_)
            rintro r6 w6 ⟨rfl, h⟩
            replace hS := St.callN hS h
            refine keepS (hS.sel (by repeat constructor)) (fun hD => ?_)
            refine SatD.ef 7 rfl (OpW.enter rfl rfl rfl (rfl) (get_tab (keyI s d) ha hsl (by omega) (hS.ownT (A := (b, C 94 (tc most v last)) :: B) (by repeat constructor)) hm) ?_)
            rintro r7 w7 ⟨rfl, h⟩
            replace hS := St.callN hS h
            rw [hG]
            refine keepS (hS.sel (by repeat constructor)) (fun hD => ?_)
            refine SatD.tk 8 rfl hD (fun _ hw => RunV.move rfl) ?_
            refine SatD.tk 9 rfl hD (fun _ hw => RunV.extract rfl rfl) ?_
            refine SatD.tk 10 rfl hD (fun _ hw => RunV.extract rfl rfl) ?_
            refine SatD.ef 12 rfl (OpW.store hS rfl rfl (by repeat constructor) (by repeat constructor) (by repeat constructor) rfl rfl ?_)
            intro w8 hS
            refine keepS (hS.sel (by repeat constructor)) (fun hD => ?_)
            refine SatD.tk 13 rfl hD (fun _ hw => RunV.assign rfl) ?_
            refine SatD.done 0 (by kernel_rfl) ?_
            refine SatE.weak (e' := [(3, _), (8, _), (9, _), (10, _), (11, _)]) (by repeat constructor) ?_
            exact hK b10 w8 hS
        intro b10 w55 hS
        refine SatE.thenC ?_
        refine SatC.seq ?_
        refine SatC.seq ?_
        refine SatC.region ?_
        refine SatL.pu (RunV.move rfl) rfl ?_
        refine SatL.pu (RunV.move rfl) rfl ?_
        refine SatL.guard rfl rfl rfl (fun h4 => ?_) (fun h4 => ?_)
        · (try simp only [cx, ne_eq] at h4)
          try (exfalso; (first | omega | exact h4 trivial | contradiction | (first | omega | (simp at h4; done))); done)
          all_goals
          refine SatL.pu (RunV.move rfl) rfl ?_
          refine SatL.guard_y rfl rfl ?_
          refine SatL.pu (RunV.neq rfl rfl) rfl ?_
          refine SatL.pu (RunV.pick_t rfl rfl) rfl ?_
          refine SatL.pu (RunV.move rfl) rfl ?_
          refine SatL.guard rfl rfl rfl (fun h5 => ?_) (fun h5 => ?_)
          · (try simp only [cx, ne_eq] at h5)
            try (exfalso; (first | omega | exact h5 trivial | contradiction | (first | omega | (simp at h5; done))); done)
            all_goals
            first | refine SatL.pu (RunV.fieldAddrL rfl rfl rfl) rfl ?_ | refine SatL.pu (RunV.fieldAddr rfl rfl rfl) rfl ?_
            refine SatL.guard_y rfl rfl ?_
            refine SatL.pu (RunV.load1 hS rfl rfl (by repeat constructor) rfl) rfl ?_
            refine SatL.guard_y rfl rfl ?_
            refine SatL.pu (RunV.move rfl) rfl ?_
            refine SatL.guard_y rfl rfl ?_
            refine SatL.pu (RunV.neq rfl rfl) rfl ?_
            refine SatL.pu (RunV.pick_t rfl rfl) rfl ?_
            refine SatL.nil (SatE.thenC ?_)
            refine SatC.weak (e' := [(8, _), (9, _), (11, _), (43, _)]) (by repeat constructor) ?_
            refine SatC.cond rfl (fun h6 => ?_) (fun h6 => ?_)
            · (try simp only [cx, ne_eq] at h6)
              try (exfalso; (first | omega | exact h6 trivial | contradiction | (first | omega | (simp at h6; done))); done)
              all_goals
              refine SatC.seq ?_
              refine SatC.region ?_
              refine SatL.pu (RunV.assign rfl) rfl ?_
              refine SatL.pu (RunV.assign rfl) rfl ?_
              refine SatL.nil (SatE.thenC ?_)
              refine SatC.ret (SatE.then_ret ?_)
              refine SatE.ret2 rfl rfl rfl ?_
              refine ⟨by subst hF; simp [*], St.ro hown (hS.sel (R := IO b0 b most last v B) (by repeat constructor)) .all⟩
            · (try simp only [cx, ne_eq] at h6)
              try (exfalso; (first | omega | exact h6 trivial | contradiction | (first | omega | (simp at h6; done))); done)
              all_goals
              refine SatC.skip (SatE.thenC ?_)
              refine SatC.seq ?_
              refine SatC.region ?_
              refine SatL.pu (RunV.move rfl) rfl ?_
              refine SatL.pu (RunV.assign rfl) rfl ?_
              refine SatL.pu (RunV.assign rfl) rfl ?_
              refine SatL.nil (SatE.thenC ?_)
              refine SatC.ret ?_
              refine SatE.ret2 rfl rfl rfl ?_
              refine ⟨by subst hF; simp [*], St.ro hown (hS.sel (R := IO b0 b most last v B) (by repeat constructor)) .all⟩
          · (try simp only [cx, ne_eq] at h5)
            try (exfalso; (first | omega | exact h5 trivial | contradiction | (first | omega | (simp at h5; done))); done)
            all_goals
            refine SatL.guard_n rfl rfl rfl rfl ?_
            refine SatL.guard_n rfl rfl rfl rfl ?_
            refine SatL.guard_n rfl rfl rfl rfl ?_
            refine SatL.pu (RunV.pick_f rfl rfl) rfl ?_
            refine SatL.nil (SatE.thenC ?_)
            refine SatC.weak (e' := [(8, _), (9, _), (11, _), (43, _)]) (by repeat constructor) ?_
            refine SatC.cond_f rfl ?_
            refine SatC.skip (SatE.thenC ?_)
            refine SatC.seq ?_
            refine SatC.region ?_
            refine SatL.pu (RunV.move rfl) rfl ?_
            refine SatL.pu (RunV.assign rfl) rfl ?_
            refine SatL.pu (RunV.assign rfl) rfl ?_
            refine SatL.nil (SatE.thenC ?_)
            refine SatC.ret ?_
            refine SatE.ret2 rfl rfl rfl ?_
            refine ⟨by subst hF; simp [*], St.ro hown (hS.sel (R := IO b0 b most last v B) (by repeat constructor)) .all⟩
        · (try simp only [cx, ne_eq] at h4)
          try (exfalso; (first | omega | exact h4 trivial | contradiction | (first | omega | (simp at h4; done))); done)
          all_goals
          refine SatL.guard_n rfl rfl rfl rfl ?_
          refine SatL.pu (RunV.pick_f rfl rfl) rfl ?_
          refine SatL.pu (RunV.move rfl) rfl ?_
          refine SatL.guard_n rfl rfl rfl rfl ?_
          refine SatL.guard_n rfl rfl rfl rfl ?_
          refine SatL.guard_n rfl rfl rfl rfl ?_
          refine SatL.guard_n rfl rfl rfl rfl ?_
          refine SatL.pu (RunV.pick_f rfl rfl) rfl ?_
          refine SatL.nil (SatE.thenC ?_)
          refine SatC.weak (e' := [(8, _), (9, _), (11, _), (43, _)]) (by repeat constructor) ?_
          refine SatC.cond_f rfl ?_
          refine SatC.skip (SatE.thenC ?_)
          refine SatC.seq ?_
          refine SatC.region ?_
          refine SatL.pu (RunV.move rfl) rfl ?_
          refine SatL.pu (RunV.assign rfl) rfl ?_
          refine SatL.pu (RunV.assign rfl) rfl ?_
          refine SatL.nil (SatE.thenC ?_)
          refine SatC.ret ?_
          refine SatE.ret2 rfl rfl rfl ?_
          refine ⟨by subst hF; simp [*], St.ro hown (hS.sel (R := IO b0 b most last v B) (by repeat constructor)) .all⟩
    · (try simp only [cx, ne_eq] at h2)
      try (exfalso; (first | omega | exact h2 trivial | contradiction | (first | omega | (simp at h2; done))); done)
      all_goals
      refine SatL.guard_n rfl rfl rfl rfl ?_
      refine SatL.guard_n rfl rfl rfl rfl ?_
      refine SatL.pu (RunV.pick_t rfl rfl) rfl ?_
      refine SatL.nil (SatE.thenC ?_)
      refine SatC.cond_t rfl ?_
      refine SatC.seq ?_
      refine SatC.weak (e' := [(8, _), (9, _)]) (by repeat constructor) ?_
      refine SatC.region ?_
      refine SatL.pu (RunV.assign rfl) rfl ?_
      refine SatL.pu (RunV.assign rfl) rfl ?_
      refine SatL.nil (SatE.thenC ?_)
      refine SatC.ret (SatE.then_ret ?_)
      refine SatE.ret2 rfl rfl rfl ?_
      refine ⟨by subst hF; simp [*], St.ro hown (hS.sel (R := IO b0 b most last v B) (by repeat constructor)) .all⟩
theorem iput_any (s d : List UInt8) (a : Bool) (ix : Int) (hs : s.length ≤ 24) (hd : d.length ≤ 24) (ha : Asc rows) (hm : ¬ most = 0) (hsl : Sl 77 8 v (rows.map tr) B) (hl : rows.length ≤ 100000) (hown : Own w (IO b0 b most last v B)) :
    Ret Try.prog 37 #[.pointer (some ⟨b0, 0, none⟩), str s, str d, .bool a, .int .u64 ix] w fun u w' => u = .int .i64 (putI most last rows s d a ix).1 ∧ ∃ v' B', Sl 77 8 v' ((putI most last rows s d a ix).2.1.map tr) B' ∧ St w (b0 :: b :: B.map Prod.fst) (IO b0 b most (putI most last rows s d a ix).2.2 v' B') w' := by
  have hS := St.init hown
  refine Ret.enter Try.func37 Try.ntmps37 rfl rfl ?_
  simp only [argEnv, Nat.reduceAdd]
  unfold putI
  dsimp only
  generalize hP : putS most last rows (keyI s d) ⟨s, d, a, 0, 0⟩ ix = R
  refine SatC.seq ?_
  refine SatC.region ?_
  refine SatL.pu (RunV.assign rfl) rfl ?_
  refine SatL.nil (SatE.thenC ?_)
  refine SatC.seq ?_
  refine SatC.drawnT 19 hS (hS.sel (R := [(b0, C 59 [.pointer (some ⟨b, 0, none⟩)])]) (by repeat constructor)) (by kernel_rfl) ?_
  clear hS
  intro w1 hh hS hD
  refine SatD.tk 0 rfl hD (fun _ hw => RunV.move rfl) ?_
  first | refine SatD.tk 1 rfl hD (fun _ hw => RunV.nil_ptr rfl) ?_ | refine SatD.tk 1 rfl hD (fun _ hw => RunV.nil_func rfl) ?_ | refine SatD.tk 1 rfl hD (fun _ hw => RunV.nil_yield rfl) ?_
  first | refine SatD.tk 2 rfl hD (fun _ hw => RunV.fieldAddrL rfl rfl rfl) ?_ | refine SatD.tk 2 rfl hD (fun _ hw => RunV.fieldAddr rfl rfl rfl) ?_
  refine SatD.tk 3 rfl hD (fun _ hw => RunV.load1 hw rfl rfl (by repeat constructor) rfl) ?_
  refine SatD.tk 4 rfl hD (fun _ hw => RunV.move rfl) ?_
  refine SatD.tk 5 rfl hD (fun _ hw => RunV.move rfl) ?_
  refine SatD.tk 7 rfl hD (fun _ hw => RunV.move rfl) ?_
  refine SatD.tk 8 rfl hD (fun _ hw => RunV.move rfl) ?_
  refine SatD.tk 9 rfl hD (fun _ hw => RunV.move rfl) ?_
  refine SatD.tk 10 rfl hD (fun _ hw => RunV.build rfl (by simp [go_sem]; try rfl)) ?_
  refine SatD.tk 11 rfl hD (fun _ hw => RunV.move rfl) ?_
  refine SatD.effs [6, 16] (by kernel_rfl) ⟨⟨_, rfl, rfl, OpW.enter rfl rfl rfl (rfl) (key_any _ _ (by omega) (by omega) _) ?_⟩, ⟨_, rfl, rfl, OpW.alloc hS rfl rfl (by repeat constructor) ?_⟩, trivial⟩
  · skip
    rintro r2 w2 ⟨rfl, h⟩
    replace hS := St.callN hS h
    refine keepS (hS.sel (by repeat constructor)) (fun hD => ?_)
    refine SatD.effs [12, 16] (by kernel_rfl) ⟨⟨_, rfl, rfl, OpW.enter rfl rfl rfl (rfl) (put_tab (keyI s d) ⟨s, d, a, 0, 0⟩ ix ha hsl hl (hS.ownT (A := (b, C 94 (tc most v last)) :: B) (by repeat constructor)) hm) ?_⟩, ⟨_, rfl, rfl, OpW.alloc hS rfl rfl (by repeat constructor) ?_⟩, trivial⟩
    · skip
      rintro r3 w3 ⟨rfl, v', B', ⟨hsl', h⟩⟩
      replace hS := hS.callT (A := (b, C 94 (tc most v last)) :: B) (by repeat constructor) h
      rw [hP] at hsl' hS ⊢
      refine keepS (hS.sel (by repeat constructor)) (fun hD => ?_)
      refine SatD.tk 13 rfl hD (fun _ hw => RunV.move rfl) ?_
      refine SatD.tk 14 rfl hD (fun _ hw => RunV.extract rfl rfl) ?_
      refine SatD.tk 15 rfl hD (fun _ hw => RunV.extract rfl rfl) ?_
      refine SatD.ef 16 rfl (OpW.alloc hS rfl rfl (by repeat constructor) ?_)
      clear hS
      intro b11 w4 _ hS
      refine keepS (hS.sel (by repeat constructor)) (fun hD => ?_)
      refine SatD.ef 17 rfl (OpW.store hS rfl rfl (by repeat constructor) (by repeat constructor) (by repeat constructor) rfl rfl ?_)
      clear hS
      intro w5 hS
      refine keepS (hS.sel (by repeat constructor)) (fun hD => ?_)
      refine SatD.tk 18 rfl hD (fun _ hw => RunV.assign rfl) ?_
      refine SatD.done 0 (by kernel_rfl) (SatE.thenC ?_)
      clear hD
      refine SatC.seq ?_
      refine SatC.weak (e' := [(10, _), (12, _)]) (by repeat constructor) ?_
      refine SatC.region ?_
      refine SatL.pu (RunV.move rfl) rfl ?_
      refine SatL.pu (RunV.assign rfl) rfl ?_
      refine SatL.nil (SatE.thenC ?_)
      refine SatC.ret ?_
      refine SatE.ret1 rfl rfl ?_
      exact ⟨rfl, v', B', hsl', hS.sel (by repeat constructor)⟩
    · skip
      clear hS
      intro b11 w3 _ hS
      refine keepS (hS.sel (by repeat constructor)) (fun hD => ?_)
      refine SatD.ef 12 rfl (OpW.enter rfl rfl rfl (rfl) (put_tab (keyI s d) ⟨s, d, a, 0, 0⟩ ix ha hsl hl (hS.ownT (A := (b, C 94 (tc most v last)) :: B) (by repeat constructor)) hm) ?_)
      rintro r4 w4 ⟨rfl, v', B', ⟨hsl', h⟩⟩
      replace hS := hS.callT (A := (b, C 94 (tc most v last)) :: B) (by repeat constructor) h
      rw [hP] at hsl' hS ⊢
      refine keepS (hS.sel (by repeat constructor)) (fun hD => ?_)
      refine SatD.tk 13 rfl hD (fun _ hw => RunV.move rfl) ?_
      refine SatD.tk 14 rfl hD (fun _ hw => RunV.extract rfl rfl) ?_
      refine SatD.tk 15 rfl hD (fun _ hw => RunV.extract rfl rfl) ?_
      refine SatD.ef 17 rfl (OpW.store hS rfl rfl (by repeat constructor) (by repeat constructor) (by repeat constructor) rfl rfl ?_)
      clear hS
      intro w5 hS
      refine keepS (hS.sel (by repeat constructor)) (fun hD => ?_)
      refine SatD.tk 18 rfl hD (fun _ hw => RunV.assign rfl) ?_
      refine SatD.done 0 (by kernel_rfl) (SatE.thenC ?_)
      clear hD
      refine SatC.seq ?_
      refine SatC.weak (e' := [(10, _), (12, _)]) (by repeat constructor) ?_
      refine SatC.region ?_
      refine SatL.pu (RunV.move rfl) rfl ?_
      refine SatL.pu (RunV.assign rfl) rfl ?_
      refine SatL.nil (SatE.thenC ?_)
      refine SatC.ret ?_
      refine SatE.ret1 rfl rfl ?_
      exact ⟨rfl, v', B', hsl', hS.sel (by repeat constructor)⟩
  · skip
    clear hS
    intro b11 w2 _ hS
    refine keepS (hS.sel (by repeat constructor)) (fun hD => ?_)
    refine SatD.ef 6 rfl (OpW.enter rfl rfl rfl (rfl) (key_any _ _ (by omega) (by omega) _) ?_)
    rintro r3 w3 ⟨rfl, h⟩
    replace hS := St.callN hS h
    refine keepS (hS.sel (by repeat constructor)) (fun hD => ?_)
    refine SatD.ef 12 rfl (OpW.enter rfl rfl rfl (rfl) (put_tab (keyI s d) ⟨s, d, a, 0, 0⟩ ix ha hsl hl (hS.ownT (A := (b, C 94 (tc most v last)) :: B) (by repeat constructor)) hm) ?_)
    rintro r4 w4 ⟨rfl, v', B', ⟨hsl', h⟩⟩
    replace hS := hS.callT (A := (b, C 94 (tc most v last)) :: B) (by repeat constructor) h
    rw [hP] at hsl' hS ⊢
    refine keepS (hS.sel (by repeat constructor)) (fun hD => ?_)
    refine SatD.tk 13 rfl hD (fun _ hw => RunV.move rfl) ?_
    refine SatD.tk 14 rfl hD (fun _ hw => RunV.extract rfl rfl) ?_
    refine SatD.tk 15 rfl hD (fun _ hw => RunV.extract rfl rfl) ?_
    refine SatD.ef 17 rfl (OpW.store hS rfl rfl (by repeat constructor) (by repeat constructor) (by repeat constructor) rfl rfl ?_)
    clear hS
    intro w5 hS
    refine keepS (hS.sel (by repeat constructor)) (fun hD => ?_)
    refine SatD.tk 18 rfl hD (fun _ hw => RunV.assign rfl) ?_
    refine SatD.done 0 (by kernel_rfl) (SatE.thenC ?_)
    clear hD
    refine SatC.seq ?_
    refine SatC.weak (e' := [(10, _), (12, _)]) (by repeat constructor) ?_
    refine SatC.region ?_
    refine SatL.pu (RunV.move rfl) rfl ?_
    refine SatL.pu (RunV.assign rfl) rfl ?_
    refine SatL.nil (SatE.thenC ?_)
    refine SatC.ret ?_
    refine SatE.ret1 rfl rfl ?_
    exact ⟨rfl, v', B', hsl', hS.sel (by repeat constructor)⟩
theorem iadd_any (s d : List UInt8) (a : Bool) (ix : Int) (ha : Asc rows) (hm : ¬ most = 0) (hsl : Sl 77 8 v (rows.map tr) B) (hl : rows.length ≤ 100000) (hown : Own w (IO b0 b most last v B)) :
    Ret Try.prog 29 #[.pointer (some ⟨b0, 0, none⟩), str s, str d, .bool a, .int .u64 ix] w fun u w' => u = .int .i64 (addI most last rows s d a ix).1 ∧ ∃ v' B', Sl 77 8 v' ((addI most last rows s d a ix).2.1.map tr) B' ∧ St w (b0 :: b :: B.map Prod.fst) (IO b0 b most (addI most last rows s d a ix).2.2 v' B') w' := by
  have hS := St.init hown
  refine Ret.enter Try.func29 Try.ntmps29 rfl rfl ?_
  simp only [argEnv, Nat.reduceAdd]
  obtain ⟨A, hA⟩ : ∃ A, addI most last rows s d a ix = A := ⟨_, rfl⟩
  rw [hA]
  unfold addI at hA
  have hfp := find_pat (rows := rows) (s := s) (d := d) (old := 0)
  obtain ⟨F, hF⟩ : ∃ F, findI rows s d 0 = F := ⟨_, rfl⟩
  rw [hF] at hA hfp
  refine SatC.seq ?_
  refine SatC.region ?_
  refine SatL.pu (RunV.assign rfl) rfl ?_
  refine SatL.nil (SatE.thenC ?_)
  refine SatC.seq ?_
  refine SatC.region ?_
  refine SatL.pu (RunV.move rfl) rfl ?_
  refine SatL.pu (RunV.move rfl) rfl ?_
  refine SatL.pu (RunV.move rfl) rfl ?_
  refine SatL.op rfl (OpW.enter rfl rfl rfl (rfl) (ifind_any s d 0 ha hm hsl hl (hS.ownT (A := IO b0 b most last v B) (by repeat constructor))) ?_)
  rintro r1 w1 ⟨rfl, h⟩
  replace hS := St.callN hS h
  rw [hF]
  refine SatL.pu (RunV.move rfl) rfl ?_
  refine SatL.pu (RunV.extract rfl rfl) rfl ?_
  refine SatL.pu (RunV.extract rfl rfl) rfl ?_
  refine SatL.pu (RunV.assign rfl) rfl ?_
  refine SatL.pu (RunV.assign rfl) rfl ?_
  refine SatL.nil (SatE.thenC ?_)
  refine SatC.seq ?_
  refine SatC.seq ?_
  refine SatC.region ?_
  refine SatL.pu (RunV.move rfl) rfl ?_
  refine SatL.pu (RunV.neq rfl rfl) rfl ?_
  refine SatL.nil (SatE.thenC ?_)
  refine SatC.cond rfl (fun h1 => ?_) (fun h1 => ?_)
  · (try simp only [cx, ne_eq] at h1)
    try (exfalso; (first | omega | exact h1 trivial | contradiction | (first | omega | (simp at h1; done))); done)
    all_goals
    refine SatC.seq ?_
    refine SatC.weak (e' := [(10, _), (12, _)]) (by repeat constructor) ?_
    rw [if_pos (by assumption)] at hA
    subst hA
    refine SatC.region ?_
    refine SatL.pu (RunV.move rfl) rfl ?_
    refine SatL.pu (RunV.assign rfl) rfl ?_
    refine SatL.nil (SatE.thenC ?_)
    refine SatC.ret (SatE.then_ret ?_)
    refine SatE.ret1 rfl rfl ?_
    exact ⟨rfl, v, B, hsl, hS⟩
  · (try simp only [cx, ne_eq] at h1)
    try (exfalso; (first | omega | exact h1 trivial | contradiction | (first | omega | (simp at h1; done))); done)
    all_goals
    refine SatC.skip (SatE.thenC ?_)
    refine SatC.seq ?_
    refine SatC.seq ?_
    rw [if_neg (by simp_all)] at hA
    have h24 := pat_len (hfp (by simp_all)).1
    have h24' := pat_len (hfp (by simp_all)).2
    refine SatC.region ?_
    refine SatL.pu (RunV.move rfl) rfl ?_
    refine SatL.nil (SatE.thenC ?_)
    refine SatC.cond rfl (fun h2 => ?_) (fun h2 => ?_)
    · (try simp only [cx, ne_eq] at h2)
      try (exfalso; (first | omega | exact h2 trivial | contradiction | (first | omega | (simp at h2; done))); done)
      all_goals
      refine SatC.seq ?_
      refine SatC.weak (e' := [(10, _)]) (by repeat constructor) ?_
      rw [if_pos (by assumption)] at hA
      subst hA
      refine SatC.region ?_
      refine SatL.pu (RunV.assign rfl) rfl ?_
      refine SatL.nil (SatE.thenC ?_)
      refine SatC.ret (SatE.then_ret ?_)
      refine SatE.ret1 rfl rfl ?_
      exact ⟨rfl, v, B, hsl, hS⟩
    · (try simp only [cx, ne_eq] at h2)
      try (exfalso; (first | omega | exact h2 trivial | contradiction | (first | omega | (simp at h2; done))); done)
      all_goals
      refine SatC.skip (SatE.thenC ?_)
      refine SatC.seq ?_
      refine SatC.weak (e' := [(0, _), (1, _), (2, _), (3, _), (4, _), (10, _)]) (by repeat constructor) ?_
      rw [if_neg (by simp_all)] at hA
      subst hA
      refine SatC.region ?_
      refine SatL.pu (RunV.move rfl) rfl ?_
      refine SatL.pu (RunV.move rfl) rfl ?_
      refine SatL.pu (RunV.move rfl) rfl ?_
      refine SatL.pu (RunV.move rfl) rfl ?_
      refine SatL.pu (RunV.move rfl) rfl ?_
      refine SatL.op rfl (OpW.enter rfl rfl rfl (rfl) (iput_any s d a ix h24 h24' ha hm hsl hl (hS.ownT (A := IO b0 b most last v B) (by repeat constructor))) ?_)
      rintro r2 w2 ⟨rfl, v', B', hsl', h⟩
      replace hS := hS.callT (A := IO b0 b most last v B) (by repeat constructor) h
      refine SatL.pu (RunV.assign rfl) rfl ?_
      refine SatL.nil (SatE.thenC ?_)
      refine SatC.ret ?_
      refine SatE.ret1 rfl rfl ?_
      exact ⟨rfl, v', B', hsl', hS.sel (by repeat constructor)⟩
theorem iturn_any (s d : List UInt8) (a : Bool) (old ix : Int) (ha : Asc rows) (hm : ¬ most = 0) (hsl : Sl 77 8 v (rows.map tr) B) (hl : rows.length ≤ 100000) (hown : Own w (IO b0 b most last v B)) :
    Ret Try.prog 30 #[.pointer (some ⟨b0, 0, none⟩), str s, str d, .bool a, .int .u64 old, .int .u64 ix] w fun u w' => u = .int .i64 (turnI most last rows s d a old ix).1 ∧ ∃ v' B', Sl 77 8 v' ((turnI most last rows s d a old ix).2.1.map tr) B' ∧ St w (b0 :: b :: B.map Prod.fst) (IO b0 b most (turnI most last rows s d a old ix).2.2 v' B') w' := by
  have hS := St.init hown
  refine Ret.enter Try.func30 Try.ntmps30 rfl rfl ?_
  simp only [argEnv, Nat.reduceAdd]
  obtain ⟨A, hA⟩ : ∃ A, turnI most last rows s d a old ix = A := ⟨_, rfl⟩
  rw [hA]
  unfold turnI at hA
  have hfp := find_pat (rows := rows) (s := s) (d := d) (old := old)
  obtain ⟨F, hF⟩ : ∃ F, findI rows s d old = F := ⟨_, rfl⟩
  rw [hF] at hA hfp
  refine SatC.seq ?_
  refine SatC.region ?_
  refine SatL.pu (RunV.assign rfl) rfl ?_
  refine SatL.nil (SatE.thenC ?_)
  refine SatC.seq ?_
  refine SatC.region ?_
  refine SatL.pu (RunV.move rfl) rfl ?_
  refine SatL.pu (RunV.move rfl) rfl ?_
  refine SatL.pu (RunV.move rfl) rfl ?_
  refine SatL.pu (RunV.move rfl) rfl ?_
  refine SatL.op rfl (OpW.enter rfl rfl rfl (rfl) (ifind_any s d old ha hm hsl hl (hS.ownT (A := IO b0 b most last v B) (by repeat constructor))) ?_)
  rintro r1 w1 ⟨rfl, h⟩
  replace hS := St.callN hS h
  rw [hF]
  refine SatL.pu (RunV.move rfl) rfl ?_
  refine SatL.pu (RunV.extract rfl rfl) rfl ?_
  refine SatL.pu (RunV.extract rfl rfl) rfl ?_
  refine SatL.pu (RunV.assign rfl) rfl ?_
  refine SatL.pu (RunV.assign rfl) rfl ?_
  refine SatL.nil (SatE.thenC ?_)
  refine SatC.seq ?_
  refine SatC.seq ?_
  refine SatC.region ?_
  refine SatL.pu (RunV.move rfl) rfl ?_
  refine SatL.pu (RunV.neq rfl rfl) rfl ?_
  refine SatL.nil (SatE.thenC ?_)
  refine SatC.cond rfl (fun h1 => ?_) (fun h1 => ?_)
  · (try simp only [cx, ne_eq] at h1)
    try (exfalso; (first | omega | exact h1 trivial | contradiction | (first | omega | (simp at h1; done))); done)
    all_goals
    refine SatC.seq ?_
    refine SatC.weak (e' := [(12, _), (14, _)]) (by repeat constructor) ?_
    rw [if_pos (by assumption)] at hA
    subst hA
    refine SatC.region ?_
    refine SatL.pu (RunV.move rfl) rfl ?_
    refine SatL.pu (RunV.assign rfl) rfl ?_
    refine SatL.nil (SatE.thenC ?_)
    refine SatC.ret (SatE.then_ret ?_)
    refine SatE.ret1 rfl rfl ?_
    exact ⟨rfl, v, B, hsl, hS⟩
  · (try simp only [cx, ne_eq] at h1)
    try (exfalso; (first | omega | exact h1 trivial | contradiction | (first | omega | (simp at h1; done))); done)
    all_goals
    refine SatC.skip (SatE.thenC ?_)
    refine SatC.seq ?_
    refine SatC.seq ?_
    refine SatC.weak (e' := [(0, _), (1, _), (2, _), (3, _), (5, _), (12, _), (13, _)]) (by repeat constructor) ?_
    rw [if_neg (by simp_all)] at hA
    have h24 := pat_len (hfp (by simp_all)).1
    have h24' := pat_len (hfp (by simp_all)).2
    refine SatC.region ?_
    refine SatL.pu (RunV.move rfl) rfl ?_
    refine SatL.pu (RunV.not rfl) rfl ?_
    refine SatL.nil (SatE.thenC ?_)
    refine SatC.cond rfl (fun h2 => ?_) (fun h2 => ?_)
    · (try simp only [cx, ne_eq] at h2)
      try (exfalso; (first | omega | exact h2 trivial | contradiction | (first | omega | (simp at h2; done))); done)
      all_goals
      refine SatC.seq ?_
      rw [if_pos (by simp_all)] at hA
      subst hA
      refine SatC.region ?_
      refine SatL.pu (RunV.assign rfl) rfl ?_
      refine SatL.nil (SatE.thenC ?_)
      refine SatC.ret (SatE.then_ret ?_)
      refine SatE.ret1 rfl rfl ?_
      exact ⟨rfl, v, B, hsl, hS⟩
    · (try simp only [cx, ne_eq] at h2)
      try (exfalso; (first | omega | exact h2 trivial | contradiction | (first | omega | (simp at h2; done))); done)
      all_goals
      refine SatC.skip (SatE.thenC ?_)
      refine SatC.seq ?_
      rw [if_neg (by simp_all)] at hA
      subst hA
      refine SatC.region ?_
      refine SatL.pu (RunV.move rfl) rfl ?_
      refine SatL.pu (RunV.move rfl) rfl ?_
      refine SatL.pu (RunV.move rfl) rfl ?_
      refine SatL.pu (RunV.move rfl) rfl ?_
      refine SatL.pu (RunV.move rfl) rfl ?_
      refine SatL.op rfl (OpW.enter rfl rfl rfl (rfl) (iput_any s d a ix h24 h24' ha hm hsl hl (hS.ownT (A := IO b0 b most last v B) (by repeat constructor))) ?_)
      rintro r2 w2 ⟨rfl, v', B', hsl', h⟩
      replace hS := hS.callT (A := IO b0 b most last v B) (by repeat constructor) h
      refine SatL.pu (RunV.assign rfl) rfl ?_
      refine SatL.nil (SatE.thenC ?_)
      refine SatC.ret ?_
      refine SatE.ret1 rfl rfl ?_
      exact ⟨rfl, v', B', hsl', hS.sel (by repeat constructor)⟩
theorem idrop_any (s d : List UInt8) (old ix : Int) (ha : Asc rows) (hm : ¬ most = 0) (hsl : Sl 77 8 v (rows.map tr) B) (hl : rows.length ≤ 100000) (hown : Own w (IO b0 b most last v B)) :
    Ret Try.prog 31 #[.pointer (some ⟨b0, 0, none⟩), str s, str d, .int .u64 old, .int .u64 ix] w fun u w' => u = .int .i64 (dropI last rows s d old ix).1 ∧ ∃ v' B', Sl 77 8 v' ((dropI last rows s d old ix).2.1.map tr) B' ∧ St w (b0 :: b :: B.map Prod.fst) (IO b0 b most (dropI last rows s d old ix).2.2 v' B') w' := by
  have hS := St.init hown
  refine Ret.enter Try.func31 Try.ntmps31 rfl rfl ?_
  simp only [argEnv, Nat.reduceAdd]
  obtain ⟨A, hA⟩ : ∃ A, dropI last rows s d old ix = A := ⟨_, rfl⟩
  rw [hA]
  unfold dropI at hA
  have hfp := find_pat (rows := rows) (s := s) (d := d) (old := old)
  obtain ⟨F, hF⟩ : ∃ F, findI rows s d old = F := ⟨_, rfl⟩
  rw [hF] at hA hfp
  refine SatC.seq ?_
  refine SatC.region ?_
  refine SatL.pu (RunV.assign rfl) rfl ?_
  refine SatL.nil (SatE.thenC ?_)
  refine SatC.seq ?_
  refine SatC.region ?_
  refine SatL.pu (RunV.move rfl) rfl ?_
  refine SatL.pu (RunV.move rfl) rfl ?_
  refine SatL.pu (RunV.move rfl) rfl ?_
  refine SatL.pu (RunV.move rfl) rfl ?_
  refine SatL.op rfl (OpW.enter rfl rfl rfl (rfl) (ifind_any s d old ha hm hsl hl (hS.ownT (A := IO b0 b most last v B) (by repeat constructor))) ?_)
  rintro r1 w1 ⟨rfl, h⟩
  replace hS := St.callN hS h
  rw [hF]
  refine SatL.pu (RunV.move rfl) rfl ?_
  refine SatL.pu (RunV.extract rfl rfl) rfl ?_
  refine SatL.pu (RunV.extract rfl rfl) rfl ?_
  refine SatL.pu (RunV.assign rfl) rfl ?_
  refine SatL.pu (RunV.assign rfl) rfl ?_
  refine SatL.nil (SatE.thenC ?_)
  refine SatC.seq ?_
  refine SatC.seq ?_
  refine SatC.region ?_
  refine SatL.pu (RunV.move rfl) rfl ?_
  refine SatL.pu (RunV.neq rfl rfl) rfl ?_
  refine SatL.nil (SatE.thenC ?_)
  refine SatC.cond rfl (fun h1 => ?_) (fun h1 => ?_)
  · (try simp only [cx, ne_eq] at h1)
    try (exfalso; (first | omega | exact h1 trivial | contradiction | (first | omega | (simp at h1; done))); done)
    all_goals
    refine SatC.seq ?_
    refine SatC.weak (e' := [(10, _), (12, _)]) (by repeat constructor) ?_
    rw [if_pos (by assumption)] at hA
    subst hA
    refine SatC.region ?_
    refine SatL.pu (RunV.move rfl) rfl ?_
    refine SatL.pu (RunV.assign rfl) rfl ?_
    refine SatL.nil (SatE.thenC ?_)
    refine SatC.ret (SatE.then_ret ?_)
    refine SatE.ret1 rfl rfl ?_
    exact ⟨rfl, v, B, hsl, hS⟩
  · (try simp only [cx, ne_eq] at h1)
    try (exfalso; (first | omega | exact h1 trivial | contradiction | (first | omega | (simp at h1; done))); done)
    all_goals
    refine SatC.skip (SatE.thenC ?_)
    refine SatC.seq ?_
    refine SatC.seq ?_
    refine SatC.weak (e' := [(0, _), (1, _), (2, _), (4, _), (10, _), (11, _)]) (by repeat constructor) ?_
    rw [if_neg (by simp_all)] at hA
    have h24 := pat_len (hfp (by simp_all)).1
    have h24' := pat_len (hfp (by simp_all)).2
    refine SatC.region ?_
    refine SatL.pu (RunV.move rfl) rfl ?_
    refine SatL.pu (RunV.not rfl) rfl ?_
    refine SatL.nil (SatE.thenC ?_)
    refine SatC.cond rfl (fun h2 => ?_) (fun h2 => ?_)
    · (try simp only [cx, ne_eq] at h2)
      try (exfalso; (first | omega | exact h2 trivial | contradiction | (first | omega | (simp at h2; done))); done)
      all_goals
      refine SatC.seq ?_
      rw [if_pos (by simp_all)] at hA
      subst hA
      refine SatC.region ?_
      refine SatL.pu (RunV.assign rfl) rfl ?_
      refine SatL.nil (SatE.thenC ?_)
      refine SatC.ret (SatE.then_ret ?_)
      refine SatE.ret1 rfl rfl ?_
      exact ⟨rfl, v, B, hsl, hS⟩
    · (try simp only [cx, ne_eq] at h2)
      try (exfalso; (first | omega | exact h2 trivial | contradiction | (first | omega | (simp at h2; done))); done)
      all_goals
      refine SatC.skip (SatE.thenC ?_)
      refine SatC.seq ?_
      rw [if_neg (by simp_all)] at hA
      subst hA
      refine SatC.drawnT 8 hS (hS.sel (R := [(b0, C 59 [.pointer (some ⟨b, 0, none⟩)])]) (by repeat constructor)) (by kernel_rfl) ?_
      clear hS
      intro w2 hh hS hD
      refine SatD.tkp 0 rfl [3, 2, 1] hD (fun _ hw => RunV.move rfl) ?_
      first | refine SatD.tkp 1 rfl [3, 2] hD (fun _ hw => RunV.nil_ptr rfl) ?_ | refine SatD.tkp 1 rfl [3, 2] hD (fun _ hw => RunV.nil_func rfl) ?_ | refine SatD.tkp 1 rfl [3, 2] hD (fun _ hw => RunV.nil_yield rfl) ?_
      first | refine SatD.tkp 2 rfl [3] hD (fun _ hw => RunV.fieldAddrL rfl rfl rfl) ?_ | refine SatD.tkp 2 rfl [3] hD (fun _ hw => RunV.fieldAddr rfl rfl rfl) ?_
      refine SatD.tk 3 rfl hD (fun _ hw => RunV.load1 hw rfl rfl (by repeat constructor) rfl) ?_
      refine SatD.tkp 4 rfl [6] hD (fun _ hw => RunV.move rfl) ?_
      refine SatD.tkp 5 rfl [6] hD (fun _ hw => RunV.move rfl) ?_
      refine SatD.tk 7 rfl hD (fun _ hw => RunV.move rfl) ?_
      refine SatD.ef 6 rfl (OpW.enter rfl rfl rfl (rfl) (key_any _ _ (by omega) (by omega) _) ?_)
      rintro r3 w3 ⟨rfl, h⟩
      replace hS := St.callN hS h
      refine keepS (hS.sel (by repeat constructor)) (fun hD => ?_)
      refine SatD.effF (by kernel_rfl) rfl rfl (OpW.enter rfl rfl rfl (rfl) (drop_tab (keyI s d) ix ha hsl hl (hS.ownT (A := (b, C 94 (tc most v last)) :: B) (by repeat constructor)) hm) ?_)
      rintro r4 w4 ⟨rfl, v', B', ⟨hsl', h⟩⟩
      replace hS := hS.callT (A := (b, C 94 (tc most v last)) :: B) (by repeat constructor) h
      refine SatD.done 0 (by kernel_rfl) (SatE.thenC ?_)
      clear hD
      refine SatC.seq ?_
      refine SatC.weak (e' := [(10, _)]) (by repeat constructor) ?_
      refine SatC.region ?_
      refine SatL.pu (RunV.assign rfl) rfl ?_
      refine SatL.nil (SatE.thenC ?_)
      refine SatC.ret ?_
      refine SatE.ret1 rfl rfl ?_
      exact ⟨rfl, v', B', hsl', hS.sel (by repeat constructor)⟩
theorem ilist_any (hm : ¬ most = 0) (hsl : Sl 77 8 v (rows.map tr) B) (hl : rows.length ≤ 1000) (hown : Own w (IO b0 b most last v B)) :
    Ret Try.prog 22 #[.pointer (some ⟨b0, 0, none⟩)] w fun u w' => ∃ (ds : List Itn) (B' : List (Nat × Obj)), ds.Perm (rows.map toldI) ∧ ds.Pairwise (fun a b => firstI b a = false) ∧ Sl 28 5 u (ds.map ic) B' ∧ St w [] B' w' := by
  have hS := St.init hown
  refine Ret.enter Try.func22 Try.ntmps22 rfl rfl ?_
  simp only [argEnv, Nat.reduceAdd]
  refine SatC.seq ?_
  refine SatC.region ?_
  refine SatL.pu (RunV.assign rfl) rfl ?_
  refine SatL.nil (SatE.thenC ?_)
  refine SatC.seq ?_
  refine SatC.seq ?_
  refine SatC.region ?_
  refine SatL.pu (RunV.move rfl) rfl ?_
  refine SatL.op rfl (OpW.enter rfl rfl rfl (rfl) (inone_any (hS.ownT (A := IO b0 b most last v B) (by repeat constructor))) ?_)
  rintro r1 w1 ⟨rfl, h⟩
  replace hS := St.callN hS h
  refine SatL.nil (SatE.thenC ?_)
  refine SatC.cond rfl (fun h1 => ?_) (fun h1 => ?_)
  · (try simp only [cx, ne_eq] at h1)
    try (exfalso; (first | omega | exact h1 trivial | contradiction | (first | omega | (simp at h1; done))); done)
    all_goals
    refine SatC.seq ?_
    refine SatC.region ?_
    refine SatL.pu (RunV.assign rfl) rfl ?_
    refine SatL.nil (SatE.thenC ?_)
    refine SatC.ret (SatE.then_ret ?_)
    refine SatE.ret1 rfl rfl ?_
    trace_state
  · (try simp only [cx, ne_eq] at h1)
    try (exfalso; (first | omega | exact h1 trivial | contradiction | (first | omega | (simp at h1; done))); done)
    all_goals
    refine SatC.skip (SatE.thenC ?_)
    refine SatC.seq ?_
    refine SatC.region ?_
    refine SatL.op rfl (OpW.alloc hS rfl rfl (by repeat constructor) ?_)
    clear hS
    intro b3 w2 _ hS
    refine SatL.nil (SatE.thenC ?_)
    refine SatC.seq ?_
    refine SatC.seq ?_
    refine SatC.region ?_
    refine SatL.pu (RunV.move rfl) rfl ?_
    first | refine SatL.pu (RunV.nil_ptr rfl) rfl ?_ | refine SatL.pu (RunV.nil_func rfl) rfl ?_ | refine SatL.pu (RunV.nil_yield rfl) rfl ?_
    first | refine SatL.pu (RunV.fieldAddrL rfl rfl rfl) rfl ?_ | refine SatL.pu (RunV.fieldAddr rfl rfl rfl) rfl ?_
    refine SatL.pu (RunV.load1 hS rfl rfl (by repeat constructor) rfl) rfl ?_
    refine SatL.op rfl (OpW.enter rfl rfl rfl (rfl) (list_any hsl (by omega) (hS.ownT (A := (b, C 94 (tc most v last)) :: B) (by repeat constructor)) hm) ?_)
    rintro r3 w3 ⟨B2, hsl2, h⟩
    replace hS := hS.call0 h
    obtain ⟨c2, hv2⟩ := hsl2.slv
    simp only [List.length_map] at hv2
    first | refine SatL.pu (RunV.lenR (by assumption) rfl rfl) rfl ?_ | refine SatL.pu (RunV.lenS rfl rfl) rfl ?_
    refine SatL.pu (RunV.move rfl) rfl ?_
    refine SatL.nil (SatE.thenC ?_)
    refine SatC.block ?_
    refine SatC.loopK (G := Nat × Value × List (Nat × Obj)) (V := fun ⟨i, u, B3⟩ => [(14, .int .i64 (i : Int))]) (Cn := [(2, _), (3, _), (12, _), (13, _)]) (I := fun ⟨i, u, B3⟩ w' => i ≤ rows.length ∧ Sl 28 5 u (((rows.take i).map toldI).map ic) B3 ∧ St w ((IO b0 b most last v B).map Prod.fst) ((b3, C 22 [u]) :: (B3 ++ (B2 ++ IO b0 b most last v B))) w') (μ := fun ⟨i, u, B3⟩ => rows.length - i) (0, .slice none 0 0, []) ?_ (by repeat constructor) ?_
    · exact ⟨by omega, .nil, hS.sel (by repeat constructor)⟩
    clear hS
    rintro ⟨i, u, B3⟩ w4 ⟨hi, hsl3, hS⟩
    refine SatC.weak (e' := [(2, _), (3, _), (12, _), (13, _), (14, _)]) (by repeat constructor) ?_
    refine SatC.seq ?_
    refine SatC.region ?_
    refine SatL.pu (RunV.lss rfl rfl) rfl ?_
    refine SatL.nil (SatE.thenC ?_)
    refine SatC.seq ?_
    refine SatC.cond rfl (fun h2 => ?_) (fun h2 => ?_)
    · (try simp only [cx, ne_eq] at h2)
      try (exfalso; (first | omega | exact h2 trivial | contradiction | (first | omega | (simp at h2; done))); done)
      all_goals
      refine SatC.skip (SatE.thenC ?_)
      refine SatC.seq ?_
      refine SatC.block ?_
      refine SatC.seq ?_
      obtain ⟨y, hy⟩ := get_some rows i (by omega)
      have hlt : (rows.take i).length ≤ 1000 := by rw [List.length_take]; omega
      refine SatC.region ?_
      first | refine SatL.pu (RunV.indexR (by assumption) rfl rfl rfl (by omega) (by omega) rfl) rfl ?_ | refine SatL.pu (RunV.indexS rfl rfl rfl (by omega) (by omega) rfl) rfl ?_
      first | refine SatL.pu (RunV.loadRNz (RdC.st (by assumption) hS List.not_mem_nil) rfl rfl (by first | assumption | exact map_get (by assumption))) rfl ?_ | refine SatL.pu (RunV.loadRNz (Sl.rd (by assumption) hS (by repeat constructor)) rfl rfl (by first | assumption | exact map_get (by assumption))) rfl ?_
      refine SatL.op rfl (OpW.alloc hS rfl rfl (by repeat constructor) ?_)
      clear hS
      intro b5 w5 _ hS
      refine SatL.op rfl (OpW.store hS rfl rfl (by repeat constructor) (by repeat constructor) (by repeat constructor) rfl rfl ?_)
      clear hS
      intro w6 hS
      refine SatL.nil (SatE.thenC ?_)
      refine SatC.drawnT 5 hS (hS.sel (R := [(b5, C 77 (tr y)), (b3, C 22 [u])]) (by repeat constructor)) (by kernel_rfl) ?_
      clear hS
      intro w7 hh hS hD
      refine SatD.tk 0 rfl hD (fun _ hw => RunV.load1 hw rfl rfl (by repeat constructor) rfl) ?_
      refine SatD.tk 1 rfl hD (fun _ hw => RunV.loadN hw rfl rfl (by repeat constructor) (by repeat constructor)) ?_
      refine SatD.ef 2 rfl (OpW.enter rfl rfl rfl (rfl) (told_any y _) ?_)
      rintro r8 w8 ⟨rfl, h⟩
      replace hS := St.callN hS h
      refine keepS (hS.sel (by repeat constructor)) (fun hD => ?_)
      refine SatD.ef 3 rfl (OpW.buildSlice1 hS rfl rfl rfl rfl rfl (by repeat constructor) rfl rfl rfl ?_)
      clear hS
      intro b21 w9 _ hS
      refine keepS (hS.sel (by repeat constructor)) (fun hD => ?_)
      refine SatD.ef 4 rfl (OpW.append1 (by assumption) hS (by repeat constructor) rfl rfl (by repeat constructor) rfl rfl rfl rfl rfl rfl rfl rfl (by first | omega | (simp only [List.length_map]; omega) | (simp only [List.length_append, List.length_map, List.length_cons, List.length_nil]; omega)) rfl ?_)
      clear hS
      intro v22 B22 w10 hsl22 hS
      refine keepS (hS.sel (by repeat constructor)) (fun hD => ?_)
      refine SatD.effF (by kernel_rfl) rfl rfl (OpW.storeSv hS rfl rfl (by assumption) (by repeat constructor) (by repeat constructor) rfl ?_)
      clear hS
      intro w11 hS
      refine SatD.done 0 (by kernel_rfl) (SatE.blk_normal (SatE.thenC ?_))
      clear hD
      refine SatC.region ?_
      refine SatL.pu (RunV.add rfl rfl (by first | exact wrapI64 (by omega) | rfl)) rfl ?_
      refine SatL.pu (RunV.move rfl) rfl ?_
      refine SatL.nil ?_
      refine SatE.again ((i + 1, v22, B22)) ?_ (by first | omega | (dsimp only; omega)) (by repeat constructor)
      refine ⟨by omega, ?_, hS.sel (by repeat constructor)⟩
      rw [List.take_add_one, hy, Option.toList_some, List.map_append, List.map_append]
      exact hsl22
    · (try simp only [cx, ne_eq] at h2)
      try (exfalso; (first | omega | exact h2 trivial | contradiction | (first | omega | (simp at h2; done))); done)
      all_goals
      refine SatC.exit (SatE.then_exit (SatE.then_exit (SatE.blk_exit (SatE.thenC ?_))))
      refine SatC.seq ?_
      rw [List.take_of_length_le (by omega)] at hsl3
      refine SatC.region ?_
      refine SatL.pu (RunV.load1 hS rfl rfl (by repeat constructor) rfl) rfl ?_
      refine SatL.pu (RunV.mkIface rfl rfl) rfl ?_
      refine SatL.pu (RunV.mkFunc rfl) rfl ?_
      refine SatL.op rfl (OpW.enter rfl rfl rfl (rfl) (sort_itn hsl3 (hS.ownT (A := (b3, C 22 [u]) :: B3) (by repeat constructor)) (by rw [List.length_map]; omega)) ?_)
      rintro r5 w5 ⟨rfl, ds, B4, hp, hso, hsl4, h⟩
      replace hS := hS.callT (A := (b3, C 22 [u]) :: B3) (by repeat constructor) h
      refine SatL.nil (SatE.thenC ?_)
      refine SatC.seq ?_
      refine SatC.region ?_
      refine SatL.pu (RunV.load1 hS rfl rfl (by repeat constructor) rfl) rfl ?_
      refine SatL.pu (RunV.assign rfl) rfl ?_
      refine SatL.nil (SatE.thenC ?_)
      refine SatC.ret ?_
      refine SatE.ret1 rfl rfl ?_
      exact ⟨ds, B4, hp, hso, hsl4, St.roL hown (hS.sel (R := IO b0 b most last v B ++ B4) (by repeat constructor)) .here⟩
/-- What List may answer. -/
def Listed (rows : List Tr) (ds : List Itn) : Prop := ds.Perm (rows.map toldI) ∧ ds.Pairwise (fun a b => firstI b a = false)
theorem idecide_any (s d : List UInt8) (df : Bool) (hm : ¬ most = 0) (hsl : Sl 77 8 v (rows.map tr) B) (hl : rows.length ≤ 1000) (hown : Own w (IO b0 b most last v B)) :
    Ret Try.prog 28 #[.pointer (some ⟨b0, 0, none⟩), str s, str d, .bool df] w fun u w' => ∃ (ds : List Itn) (at_ : Int), Listed rows ds ∧ Best ds s d at_ ∧ u = .tuple #[.bool (alwI ds df at_), .bool (decide (0 ≤ at_))] ∧ St w [] [] w' := by
  have hS := St.init hown
  refine Ret.enter Try.func28 Try.ntmps28 rfl rfl ?_
  simp only [argEnv, Nat.reduceAdd]
  refine SatC.seq ?_
  refine SatC.region ?_
  refine SatL.pu (RunV.assign rfl) rfl ?_
  refine SatL.pu (RunV.assign rfl) rfl ?_
  refine SatL.nil (SatE.thenC ?_)
  refine SatC.seq ?_
  refine SatC.region ?_
  refine SatL.pu (RunV.move rfl) rfl ?_
  refine SatL.op rfl (OpW.enter rfl rfl rfl (rfl) (ilist_any hm hsl hl (hS.ownT (A := IO b0 b most last v B) (by repeat constructor))) ?_)
  rintro r1 w1 ⟨ds, B2, hp, hso, hsl2, h⟩
  replace hS := hS.call0 h
  have hdl := hp.length_eq
  rw [List.length_map] at hdl
  refine SatL.pu (RunV.move rfl) rfl ?_
  refine SatL.pu (RunV.move rfl) rfl ?_
  refine SatL.pu (RunV.move rfl) rfl ?_
  refine SatL.op rfl (OpW.enter rfl rfl rfl (rfl) (choose_c df _ (hsl2.row hS (by repeat constructor) (by rw [List.length_map]; omega))) ?_)
  rintro r2 w2 ⟨at_, hb, rfl, h⟩
  replace hS := St.callN hS h
  refine SatL.pu (RunV.move rfl) rfl ?_
  refine SatL.pu (RunV.extract rfl rfl) rfl ?_
  refine SatL.pu (RunV.extract rfl rfl) rfl ?_
  refine SatL.pu (RunV.assign rfl) rfl ?_
  refine SatL.pu (RunV.assign rfl) rfl ?_
  refine SatL.nil (SatE.thenC ?_)
  refine SatC.seq ?_
  refine SatC.weak (e' := [(8, _), (9, _), (10, _), (11, _)]) (by repeat constructor) ?_
  refine SatC.region ?_
  refine SatL.pu (RunV.move rfl) rfl ?_
  refine SatL.pu (RunV.move rfl) rfl ?_
  refine SatL.pu (RunV.geq rfl rfl) rfl ?_
  refine SatL.pu (RunV.assign rfl) rfl ?_
  refine SatL.pu (RunV.assign rfl) rfl ?_
  refine SatL.nil (SatE.thenC ?_)
  refine SatC.ret ?_
  refine SatE.ret2 rfl rfl rfl ?_
  exact ⟨ds, at_, ⟨hp, hso⟩, hb, rfl, St.roX (Y := []) hown (List.nil_append _).symm (hS.sel (R := IO b0 b most last v B ++ []) (by repeat constructor)) .here⟩
def forI (d : List UInt8) (ds : List Itn) : List Itn := ds.filter fun x => mt x.d d
theorem for_next {d : List UInt8} {ds : List Itn} {i : Nat} {y : Itn} (h : ds[i]? = some y) : forI d (ds.take (i + 1)) = forI d (ds.take i) ++ (if mt y.d d = true then [y] else []) := by
  unfold forI
  rw [List.take_add_one, h, Option.toList_some, List.filter_append]
  congr 1
  by_cases hm : mt y.d d = true
  · simp [hm]
  · simp [hm]
theorem for_len (d : List UInt8) (ds : List Itn) : (forI d ds).length ≤ ds.length := List.length_filter_le ..
theorem ifor_any (d : List UInt8) (hm : ¬ most = 0) (hsl : Sl 77 8 v (rows.map tr) B) (hl : rows.length ≤ 1000) (hown : Own w (IO b0 b most last v B)) :
    Ret Try.prog 27 #[.pointer (some ⟨b0, 0, none⟩), str d] w fun u w' => ∃ (ds : List Itn) (B' : List (Nat × Obj)), Listed rows ds ∧ Sl 28 5 u ((forI d ds).map ic) B' ∧ St w [] B' w' := by
  have hS := St.init hown
  refine Ret.enter Try.func27 Try.ntmps27 rfl rfl ?_
  simp only [argEnv, Nat.reduceAdd]
  refine SatC.seq ?_
  refine SatC.region ?_
  refine SatL.pu (RunV.assign rfl) rfl ?_
  refine SatL.nil (SatE.thenC ?_)
  refine SatC.seq ?_
  refine SatC.region ?_
  refine SatL.pu (RunV.assign rfl) rfl ?_
  refine SatL.nil (SatE.thenC ?_)
  refine SatC.seq ?_
  refine SatC.seq ?_
  refine SatC.region ?_
  refine SatL.pu (RunV.move rfl) rfl ?_
  refine SatL.op rfl (OpW.enter rfl rfl rfl (rfl) (ilist_any hm hsl hl (hS.ownT (A := IO b0 b most last v B) (by repeat constructor))) ?_)
  rintro r1 w1 ⟨ds, B2, hp, hso, hsl2, h⟩
  replace hS := hS.call0 h
  have hdl := hp.length_eq
  rw [List.length_map] at hdl
  obtain ⟨c2, hv2⟩ := hsl2.slv
  rw [List.length_map] at hv2
  first | refine SatL.pu (RunV.lenR (by assumption) rfl rfl) rfl ?_ | refine SatL.pu (RunV.lenS rfl rfl) rfl ?_
  refine SatL.pu (RunV.move rfl) rfl ?_
  refine SatL.nil (SatE.thenC ?_)
  refine SatC.block ?_
  refine SatC.loopK (G := Nat × Value × List (Nat × Obj)) (V := fun ⟨i, u, B3⟩ => [(11, .int .i64 (i : Int)), (5, u)]) (Cn := [(1, _), (4, _), (9, _), (10, _)]) (I := fun ⟨i, u, B3⟩ w' => i ≤ ds.length ∧ Sl 28 5 u ((forI d (ds.take i)).map ic) B3 ∧ St w ((IO b0 b most last v B).map Prod.fst) (B3 ++ (B2 ++ IO b0 b most last v B)) w') (μ := fun ⟨i, u, B3⟩ => ds.length - i) (0, .slice none 0 0, []) ?_ (by repeat constructor) ?_
  · exact ⟨by omega, .nil, hS.sel (by repeat constructor)⟩
  clear hS
  rintro ⟨i, u, B3⟩ w2 ⟨hi, hsl3, hS⟩
  refine SatC.weak (e' := [(1, _), (4, _), (5, _), (9, _), (10, _), (11, _)]) (by repeat constructor) ?_
  refine SatC.seq ?_
  refine SatC.region ?_
  refine SatL.pu (RunV.lss rfl rfl) rfl ?_
  refine SatL.nil (SatE.thenC ?_)
  refine SatC.seq ?_
  refine SatC.cond rfl (fun h1 => ?_) (fun h1 => ?_)
  · (try simp only [cx, ne_eq] at h1)
    try (exfalso; (first | omega | exact h1 trivial | contradiction | (first | omega | (simp at h1; done))); done)
    all_goals
    refine SatC.skip (SatE.thenC ?_)
    refine SatC.seq ?_
    refine SatC.block ?_
    refine SatC.seq ?_
    obtain ⟨y, hy⟩ := get_some ds i (by omega)
    have hlt := for_len d (ds.take i)
    rw [List.length_take] at hlt
    have hnx := for_next (d := d) hy
    refine SatC.region ?_
    first | refine SatL.pu (RunV.indexR (by assumption) rfl rfl rfl (by omega) (by omega) rfl) rfl ?_ | refine SatL.pu (RunV.indexS rfl rfl rfl (by omega) (by omega) rfl) rfl ?_
    first | refine SatL.pu (RunV.loadRNz (RdC.st (by assumption) hS List.not_mem_nil) rfl rfl (by first | assumption | exact map_get (by assumption))) rfl ?_ | refine SatL.pu (RunV.loadRNz (Sl.rd (by assumption) hS (by repeat constructor)) rfl rfl (by first | assumption | exact map_get (by assumption))) rfl ?_
    refine SatL.op rfl (OpW.alloc hS rfl rfl (by repeat constructor) ?_)
    clear hS
    intro b7 w3 _ hS
    refine SatL.op rfl (OpW.store hS rfl rfl (by repeat constructor) (by repeat constructor) (by repeat constructor) rfl rfl ?_)
    clear hS
    intro w4 hS
    refine SatL.nil (SatE.thenC ?_)
    refine SatC.seq ?_
    refine SatC.region ?_
    first | refine SatL.pu (RunV.fieldAddrL rfl rfl rfl) rfl ?_ | refine SatL.pu (RunV.fieldAddr rfl rfl rfl) rfl ?_
    refine SatL.pu (RunV.load1 hS rfl rfl (by repeat constructor) rfl) rfl ?_
    refine SatL.pu (RunV.move rfl) rfl ?_
    refine SatL.op rfl (OpW.enter rfl rfl rfl (rfl) (match_any _ _ _) ?_)
    rintro r5 w5 ⟨rfl, h⟩
    replace hS := St.callN hS h
    refine SatL.nil (SatE.thenC ?_)
    refine SatC.cond rfl (fun h2 => ?_) (fun h2 => ?_)
    · (try simp only [cx, ne_eq] at h2)
      try (exfalso; (first | omega | exact h2 trivial | contradiction | (first | omega | (simp at h2; done))); done)
      all_goals
      refine SatC.region ?_
      refine SatL.pu (RunV.move rfl) rfl ?_
      refine SatL.pu (RunV.loadN hS rfl rfl (by repeat constructor) (by repeat constructor)) rfl ?_
      refine SatL.op rfl (OpW.buildSlice1 hS rfl rfl rfl rfl rfl (by repeat constructor) rfl rfl rfl ?_)
      clear hS
      intro b21 w6 _ hS
      refine SatL.op rfl (OpW.append1 (by assumption) hS (by repeat constructor) rfl rfl (by repeat constructor) rfl rfl rfl rfl rfl rfl rfl rfl (by first | omega | (simp only [List.length_map]; omega) | (simp only [List.length_append, List.length_map, List.length_cons, List.length_nil]; omega)) rfl ?_)
      clear hS
      intro v22 B22 w7 hsl22 hS
      refine SatL.pu (RunV.assign rfl) rfl ?_
      refine SatL.nil (SatE.blk_normal (SatE.thenC ?_))
      refine SatC.weak (e' := [(1, _), (4, _), (5, _), (9, _), (10, _), (11, _)]) (by repeat constructor) ?_
      refine SatC.region ?_
      refine SatL.pu (RunV.add rfl rfl (by first | exact wrapI64 (by omega) | rfl)) rfl ?_
      refine SatL.pu (RunV.move rfl) rfl ?_
      refine SatL.nil ?_
      refine SatE.again ((i + 1, v22, B22)) ?_ (by first | omega | (dsimp only; omega)) (by repeat constructor)
      refine ⟨by omega, ?_, hS.sel (by repeat constructor)⟩
      rw [hnx, if_pos (by assumption), List.map_append]
      exact hsl22
    · (try simp only [cx, ne_eq] at h2)
      try (exfalso; (first | omega | exact h2 trivial | contradiction | (first | omega | (simp at h2; done))); done)
      all_goals
      refine SatC.skip (SatE.blk_normal (SatE.thenC ?_))
      refine SatC.region ?_
      refine SatL.pu (RunV.add rfl rfl (by first | exact wrapI64 (by omega) | rfl)) rfl ?_
      refine SatL.pu (RunV.move rfl) rfl ?_
      refine SatL.nil ?_
      refine SatE.again ((i + 1, u, B3)) ?_ (by first | omega | (dsimp only; omega)) (by repeat constructor)
      refine ⟨by omega, ?_, hS.sel (by repeat constructor)⟩
      rw [hnx, if_neg (by simp [*]), List.append_nil]
      exact hsl3
  · (try simp only [cx, ne_eq] at h1)
    try (exfalso; (first | omega | exact h1 trivial | contradiction | (first | omega | (simp at h1; done))); done)
    all_goals
    refine SatC.exit (SatE.then_exit (SatE.then_exit (SatE.blk_exit (SatE.thenC ?_))))
    refine SatC.seq ?_
    refine SatC.region ?_
    refine SatL.pu (RunV.move rfl) rfl ?_
    refine SatL.pu (RunV.assign rfl) rfl ?_
    refine SatL.nil (SatE.thenC ?_)
    refine SatC.ret ?_
    refine SatE.ret1 rfl rfl ?_
    rw [List.take_of_length_le (by omega)] at hsl3
    exact ⟨ds, B3, ⟨hp, hso⟩, hsl3, St.roL hown (hS.sel (R := IO b0 b most last v B ++ B3) (by repeat constructor)) .here⟩
end
end Go.Proofs.Ytogohendjjgbiaa
