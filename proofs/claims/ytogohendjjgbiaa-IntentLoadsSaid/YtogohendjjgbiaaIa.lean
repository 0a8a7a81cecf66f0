/- Intentions: how exact one is, which of two comes first. -/
import Derived.Test.YtogohendjjgbiaaTq
import Derived.Test.YtogohendjjgbiaaK31
set_option linter.unusedSimpArgs false
set_option linter.unusedVariables false
set_option maxRecDepth 100000
set_option maxHeartbeats 4000000
namespace Go.Proofs.Ytogohendjjgbiaa
open Go.RowKit
@[reducible] def ic (x : Itn) : List Value := [str x.s, str x.d, .bool x.a, .int .u64 x.m, .int .u64 x.x]
def rankI (x : Itn) : Nat := (if x.s = [42] then 0 else 1) + (if x.d = [42] then 0 else 2)
def firstI (a b : Itn) : Bool := if rankI a = rankI b then (if a.d = b.d then decide (a.s < b.s) else decide (a.d < b.d)) else decide (rankI b < rankI a)
section
variable {P : Program} {N : Nat} {env : Env} {w : World} {ty : TypeId} {pos : String} {af : Array Edge} {g : Option (Nat × Bool)} {dd : Option Nat} {t t2 : TypeId} {x y : Operand}
theorem RunV.orN {m q r : Nat} (hx : evO env x = some (.int .i64 (m : Int))) (hy : evO env y = some (.int .i64 (q : Int))) (hm : m < 1000) (hq : q < 1000) (hr : m ||| q = r) (hr2 : r < 1000) : RunV P N env w ⟨dd, .binOp .or t x y t2, ty, pos, af, g⟩ (.int .i64 (r : Int)) :=
  RunV.bin hx hy run_guardInt (by
    have h1 : BitVec.ofInt IntKind.i64.bits (m : Int) = BitVec.ofNat 64 m := BitVec.ofInt_natCast 64 m
    have h2 : BitVec.ofInt IntKind.i64.bits (q : Int) = BitVec.ofNat 64 q := BitVec.ofInt_natCast 64 q
    have h3 : (BitVec.ofNat 64 m ||| BitVec.ofNat 64 q).toNat = r := by
      rw [BitVec.toNat_or, BitVec.toNat_ofNat, BitVec.toNat_ofNat, Nat.mod_eq_of_lt (by omega : m < 2 ^ 64), Nat.mod_eq_of_lt (by omega : q < 2 ^ 64), hr]
    simp only [binOp, Op.intBits, h1, h2]
    have h4 : IntKind.i64.wrap (r : Int) = (r : Int) := wrapI64 (by omega)
    show (pure (Value.int .i64 (IntKind.i64.wrap ((BitVec.ofNat 64 m ||| BitVec.ofNat 64 q).toNat : Int))) : Sem Value).run P w = _
    rw [h3, h4]
    rfl)
end
theorem rank_any (x : Itn) (w : World) : Ret Try.prog 12 #[.agg (ic x).toArray] w fun u w' => u = .int .i64 (rankI x : Int) ∧ St w [] [] w' := by
  have hS := St.init0 w
  refine Ret.enter Try.func12 Try.ntmps12 rfl rfl ?_
  simp only [argEnv, Nat.reduceAdd]
  refine SatC.seq ?_
  refine SatC.region ?_
  refine SatL.op rfl (OpW.box hS rfl rfl (by repeat constructor) ?_)
  clear hS
  intro b1 w1 _ hS
  refine SatL.pu (RunV.assign rfl) rfl ?_
  refine SatL.nil (SatE.thenC ?_)
  refine SatC.seq ?_
  refine SatC.region ?_
  refine SatL.pu (RunV.assign rfl) rfl ?_
  refine SatL.nil (SatE.thenC ?_)
  refine SatC.merge (G := Nat) (V := fun n => [(3, .int .i64 (n : Int))]) (Cn := [(1, _), (2, _)]) (I := fun n w' => n = (if x.s = [42] then 0 else 1) ∧ St w [] [(b1, C 28 (ic x))] w') (by repeat constructor) ?_ ?_
  · skip
    refine SatC.seq ?_
    refine SatC.region ?_
    first | refine SatL.pu (RunV.fieldAddrL rfl rfl rfl) rfl ?_ | refine SatL.pu (RunV.fieldAddr rfl rfl rfl) rfl ?_
    refine SatL.pu (RunV.load1 hS rfl rfl (by repeat constructor) rfl) rfl ?_
    refine SatL.pu (RunV.sneq rfl rfl) rfl ?_
    refine SatL.nil (SatE.thenC ?_)
    refine SatC.cond rfl (fun h1 => ?_) (fun h1 => ?_)
    · (try simp only [cx, ne_eq] at h1)
      try (exfalso; (first | omega | exact h1 trivial | contradiction | (first | omega | (simp at h1; done))); done)
      all_goals
      refine SatC.region ?_
      refine SatL.pu (RunV.move rfl) rfl ?_
      refine SatL.pu (RunV.orN (m := 0) (q := 1) (r := 1) rfl rfl (by decide) (by decide) (by decide) (by decide)) rfl ?_
      refine SatL.pu (RunV.assign rfl) rfl ?_
      refine SatL.nil ?_
      refine SatE.met (1) ?_ (by repeat constructor)
      exact ⟨by rw [if_neg (by assumption)], hS⟩
    · (try simp only [cx, ne_eq] at h1)
      try (exfalso; (first | omega | exact h1 trivial | contradiction | (first | omega | (simp at h1; done))); done)
      all_goals
      refine SatC.skip ?_
      refine SatE.met (0) ?_ (by repeat constructor)
      exact ⟨by rw [if_pos (by assumption)], hS⟩
  · clear hS
    rintro n w62 ⟨hn, hS⟩
    have hn2 : n < 2 := by rw [hn]; split <;> decide
    refine SatC.weak (e' := [(1, _), (2, _), (3, _)]) (by repeat constructor) ?_
    refine SatC.seq ?_
    refine SatC.seq ?_
    refine SatC.region ?_
    first | refine SatL.pu (RunV.fieldAddrL rfl rfl rfl) rfl ?_ | refine SatL.pu (RunV.fieldAddr rfl rfl rfl) rfl ?_
    refine SatL.pu (RunV.load1 hS rfl rfl (by repeat constructor) rfl) rfl ?_
    refine SatL.pu (RunV.sneq rfl rfl) rfl ?_
    refine SatL.nil (SatE.thenC ?_)
    refine SatC.cond rfl (fun h1 => ?_) (fun h1 => ?_)
    · (try simp only [cx, ne_eq] at h1)
      try (exfalso; (first | omega | exact h1 trivial | contradiction | (first | omega | (simp at h1; done))); done)
      all_goals
      refine SatC.region ?_
      refine SatL.pu (RunV.move rfl) rfl ?_
      refine SatL.pu (RunV.orN (m := n) (q := 2) (r := n + 2) rfl rfl (by omega) (by decide) (by rcases (by omega : n = 0 ∨ n = 1) with rfl | rfl <;> rfl) (by omega)) rfl ?_
      refine SatL.pu (RunV.assign rfl) rfl ?_
      refine SatL.nil (SatE.thenC ?_)
      refine SatC.seq ?_
      refine SatC.region ?_
      refine SatL.pu (RunV.move rfl) rfl ?_
      refine SatL.pu (RunV.assign rfl) rfl ?_
      refine SatL.nil (SatE.thenC ?_)
      refine SatC.ret ?_
      refine SatE.ret1 rfl rfl ?_
      first
      | (have e : ¬ x.d = [42] := by assumption
         exact ⟨by unfold rankI; rw [← hn, if_neg e], hS.sel .nil⟩)
      | (have e : x.d = [42] := by assumption
         exact ⟨by unfold rankI; rw [← hn, if_pos e]; rfl, hS.sel .nil⟩)
    · (try simp only [cx, ne_eq] at h1)
      try (exfalso; (first | omega | exact h1 trivial | contradiction | (first | omega | (simp at h1; done))); done)
      all_goals
      refine SatC.skip (SatE.thenC ?_)
      refine SatC.seq ?_
      refine SatC.region ?_
      refine SatL.pu (RunV.move rfl) rfl ?_
      refine SatL.pu (RunV.assign rfl) rfl ?_
      refine SatL.nil (SatE.thenC ?_)
      refine SatC.ret ?_
      refine SatE.ret1 rfl rfl ?_
      first
      | (have e : ¬ x.d = [42] := by assumption
         exact ⟨by unfold rankI; rw [← hn, if_neg e], hS.sel .nil⟩)
      | (have e : x.d = [42] := by assumption
         exact ⟨by unfold rankI; rw [← hn, if_pos e]; rfl, hS.sel .nil⟩)
theorem rrank_any (x : Itn) (w : World) : Ret Try.prog 13 #[.agg (ic x).toArray] w fun u w' => u = .int .i64 (rankI x : Int) ∧ St w [] [] w' := by
  have hS := St.init0 w
  refine Ret.enter Try.func13 Try.ntmps13 rfl rfl ?_
  simp only [argEnv, Nat.reduceAdd]
  refine SatC.seq ?_
  refine SatC.region ?_
  refine SatL.op rfl (OpW.box hS rfl rfl (by repeat constructor) ?_)
  clear hS
  intro b1 w1 _ hS
  refine SatL.pu (RunV.assign rfl) rfl ?_
  refine SatL.nil (SatE.thenC ?_)
  refine SatC.seq ?_
  refine SatC.seq ?_
  refine SatC.region ?_
  first | refine SatL.pu (RunV.fieldAddrL rfl rfl rfl) rfl ?_ | refine SatL.pu (RunV.fieldAddr rfl rfl rfl) rfl ?_
  refine SatL.pu (RunV.load1 hS rfl rfl (by repeat constructor) rfl) rfl ?_
  refine SatL.pu (RunV.sneq rfl rfl) rfl ?_
  refine SatL.pu (RunV.move rfl) rfl ?_
  refine SatL.guard rfl rfl rfl (fun h1 => ?_) (fun h1 => ?_)
  · (try simp only [cx, ne_eq] at h1)
    try (exfalso; (first | omega | exact h1 trivial | contradiction | (first | omega | (simp at h1; done))); done)
    all_goals
    first | refine SatL.pu (RunV.fieldAddrL rfl rfl rfl) rfl ?_ | refine SatL.pu (RunV.fieldAddr rfl rfl rfl) rfl ?_
    refine SatL.guard_y rfl rfl ?_
    refine SatL.pu (RunV.load1 hS rfl rfl (by repeat constructor) rfl) rfl ?_
    refine SatL.guard_y rfl rfl ?_
    refine SatL.pu (RunV.sneq rfl rfl) rfl ?_
    refine SatL.pu (RunV.pick_t rfl rfl) rfl ?_
    refine SatL.nil (SatE.thenC ?_)
    refine SatC.cond rfl (fun h2 => ?_) (fun h2 => ?_)
    · (try simp only [cx, ne_eq] at h2)
      try (exfalso; (first | omega | exact h2 trivial | contradiction | (first | omega | (simp at h2; done))); done)
      all_goals
      refine SatC.seq ?_
      refine SatC.region ?_
      refine SatL.pu (RunV.assign rfl) rfl ?_
      refine SatL.nil (SatE.thenC ?_)
      refine SatC.ret (SatE.then_ret ?_)
      refine SatE.ret1 rfl rfl ?_
      exact ⟨by unfold rankI; simp_all, hS.sel .nil⟩
    · (try simp only [cx, ne_eq] at h2)
      try (exfalso; (first | omega | exact h2 trivial | contradiction | (first | omega | (simp at h2; done))); done)
      all_goals
      refine SatC.skip (SatE.thenC ?_)
      refine SatC.seq ?_
      refine SatC.seq ?_
      refine SatC.region ?_
      first | refine SatL.pu (RunV.fieldAddrL rfl rfl rfl) rfl ?_ | refine SatL.pu (RunV.fieldAddr rfl rfl rfl) rfl ?_
      refine SatL.pu (RunV.load1 hS rfl rfl (by repeat constructor) rfl) rfl ?_
      refine SatL.pu (RunV.sneq rfl rfl) rfl ?_
      refine SatL.nil (SatE.thenC ?_)
      refine SatC.cond rfl (fun h3 => ?_) (fun h3 => ?_)
      · (try simp only [cx, ne_eq] at h3)
        try (exfalso; (first | omega | exact h3 trivial | contradiction | (first | omega | (simp at h3; done))); done)
        all_goals
        refine SatC.seq ?_
        refine SatC.weak (e' := [(2, _)]) (by repeat constructor) ?_
        refine SatC.region ?_
        refine SatL.pu (RunV.assign rfl) rfl ?_
        refine SatL.nil (SatE.thenC ?_)
        refine SatC.ret (SatE.then_ret ?_)
        refine SatE.ret1 rfl rfl ?_
        exact ⟨by unfold rankI; simp_all, hS.sel .nil⟩
      · (try simp only [cx, ne_eq] at h3)
        try (exfalso; (first | omega | exact h3 trivial | contradiction | (first | omega | (simp at h3; done))); done)
        all_goals
        refine SatC.skip (SatE.thenC ?_)
        refine SatC.seq ?_
        refine SatC.seq ?_
        refine SatC.weak (e' := [(1, _), (2, _)]) (by repeat constructor) ?_
        refine SatC.region ?_
        first | refine SatL.pu (RunV.fieldAddrL rfl rfl rfl) rfl ?_ | refine SatL.pu (RunV.fieldAddr rfl rfl rfl) rfl ?_
        refine SatL.pu (RunV.load1 hS rfl rfl (by repeat constructor) rfl) rfl ?_
        refine SatL.pu (RunV.sneq rfl rfl) rfl ?_
        refine SatL.nil (SatE.thenC ?_)
        refine SatC.cond rfl (fun h4 => ?_) (fun h4 => ?_)
        · (try simp only [cx, ne_eq] at h4)
          try (exfalso; (first | omega | exact h4 trivial | contradiction | (first | omega | (simp at h4; done))); done)
          all_goals
          refine SatC.seq ?_
          refine SatC.region ?_
          refine SatL.pu (RunV.assign rfl) rfl ?_
          refine SatL.nil (SatE.thenC ?_)
          refine SatC.ret (SatE.then_ret ?_)
          refine SatE.ret1 rfl rfl ?_
          exact ⟨by unfold rankI; simp_all, hS.sel .nil⟩
        · (try simp only [cx, ne_eq] at h4)
          try (exfalso; (first | omega | exact h4 trivial | contradiction | (first | omega | (simp at h4; done))); done)
          all_goals
          refine SatC.skip (SatE.thenC ?_)
          refine SatC.seq ?_
          refine SatC.region ?_
          refine SatL.pu (RunV.assign rfl) rfl ?_
          refine SatL.nil (SatE.thenC ?_)
          refine SatC.ret ?_
          refine SatE.ret1 rfl rfl ?_
          exact ⟨by unfold rankI; simp_all, hS.sel .nil⟩
  · (try simp only [cx, ne_eq] at h1)
    try (exfalso; (first | omega | exact h1 trivial | contradiction | (first | omega | (simp at h1; done))); done)
    all_goals
    refine SatL.guard_n rfl rfl rfl rfl ?_
    refine SatL.guard_n rfl rfl rfl rfl ?_
    refine SatL.pu (RunV.pick_f rfl rfl) rfl ?_
    refine SatL.nil (SatE.thenC ?_)
    refine SatC.cond_f rfl ?_
    refine SatC.skip (SatE.thenC ?_)
    refine SatC.seq ?_
    refine SatC.seq ?_
    refine SatC.region ?_
    first | refine SatL.pu (RunV.fieldAddrL rfl rfl rfl) rfl ?_ | refine SatL.pu (RunV.fieldAddr rfl rfl rfl) rfl ?_
    refine SatL.pu (RunV.load1 hS rfl rfl (by repeat constructor) rfl) rfl ?_
    refine SatL.pu (RunV.sneq rfl rfl) rfl ?_
    refine SatL.nil (SatE.thenC ?_)
    refine SatC.cond rfl (fun h2 => ?_) (fun h2 => ?_)
    · (try simp only [cx, ne_eq] at h2)
      try (exfalso; (first | omega | exact h2 trivial | contradiction | (first | omega | (simp at h2; done))); done)
      all_goals
      refine SatC.seq ?_
      refine SatC.weak (e' := [(2, _)]) (by repeat constructor) ?_
      refine SatC.region ?_
      refine SatL.pu (RunV.assign rfl) rfl ?_
      refine SatL.nil (SatE.thenC ?_)
      refine SatC.ret (SatE.then_ret ?_)
      refine SatE.ret1 rfl rfl ?_
      exact ⟨by unfold rankI; simp_all, hS.sel .nil⟩
    · (try simp only [cx, ne_eq] at h2)
      try (exfalso; (first | omega | exact h2 trivial | contradiction | (first | omega | (simp at h2; done))); done)
      all_goals
      refine SatC.skip (SatE.thenC ?_)
      refine SatC.seq ?_
      refine SatC.seq ?_
      refine SatC.weak (e' := [(1, _), (2, _)]) (by repeat constructor) ?_
      refine SatC.region ?_
      first | refine SatL.pu (RunV.fieldAddrL rfl rfl rfl) rfl ?_ | refine SatL.pu (RunV.fieldAddr rfl rfl rfl) rfl ?_
      refine SatL.pu (RunV.load1 hS rfl rfl (by repeat constructor) rfl) rfl ?_
      refine SatL.pu (RunV.sneq rfl rfl) rfl ?_
      refine SatL.nil (SatE.thenC ?_)
      refine SatC.cond rfl (fun h3 => ?_) (fun h3 => ?_)
      · (try simp only [cx, ne_eq] at h3)
        try (exfalso; (first | omega | exact h3 trivial | contradiction | (first | omega | (simp at h3; done))); done)
        all_goals
        refine SatC.seq ?_
        refine SatC.region ?_
        refine SatL.pu (RunV.assign rfl) rfl ?_
        refine SatL.nil (SatE.thenC ?_)
        refine SatC.ret (SatE.then_ret ?_)
        refine SatE.ret1 rfl rfl ?_
        exact ⟨by unfold rankI; simp_all, hS.sel .nil⟩
      · (try simp only [cx, ne_eq] at h3)
        try (exfalso; (first | omega | exact h3 trivial | contradiction | (first | omega | (simp at h3; done))); done)
        all_goals
        refine SatC.skip (SatE.thenC ?_)
        refine SatC.seq ?_
        refine SatC.region ?_
        refine SatL.pu (RunV.assign rfl) rfl ?_
        refine SatL.nil (SatE.thenC ?_)
        refine SatC.ret ?_
        refine SatE.ret1 rfl rfl ?_
        exact ⟨by unfold rankI; simp_all, hS.sel .nil⟩
theorem rank_lt (x : Itn) : rankI x < 4 := by
  unfold rankI
  split <;> split <;> decide
theorem first_any (a c : Itn) (w : World) : Ret Try.prog 36 #[.agg (ic a).toArray, .agg (ic c).toArray] w fun u w' => u = .bool (firstI a c) ∧ St w [] [] w' := by
  have hS := St.init0 w
  have h1a := rank_lt a
  have h1c := rank_lt c
  refine Ret.enter Try.func36 Try.ntmps36 rfl rfl ?_
  simp only [argEnv, Nat.reduceAdd]
  refine SatC.seq ?_
  refine SatC.region ?_
  refine SatL.op rfl (OpW.box hS rfl rfl (by repeat constructor) ?_)
  clear hS
  intro b2 w1 _ hS
  refine SatL.op rfl (OpW.box hS rfl rfl (by repeat constructor) ?_)
  clear hS
  intro b3 w2 _ hS
  refine SatL.pu (RunV.assign rfl) rfl ?_
  refine SatL.nil (SatE.thenC ?_)
  refine SatC.seq ?_
  refine SatC.seq ?_
  refine SatC.drawnT 6 hS (hS.sel (R := [(b3, C 28 (ic c)), (b2, C 28 (ic a))]) (by repeat constructor)) (by kernel_rfl) ?_
  clear hS
  intro w3 hh hS hD
  refine SatD.tk 0 rfl hD (fun _ hw => RunV.loadN hw rfl rfl (by repeat constructor) (by repeat constructor)) ?_
  apply SatD.join0
  · intro hK
    refine SatD.effs [1, 2] (by kernel_rfl) ⟨⟨_, rfl, rfl, OpW.enter rfl rfl rfl (rfl) (rank_any _ _) ?_⟩, ⟨_, rfl, rfl, OpW.pure (RunV.loadN hS rfl rfl (by repeat constructor) (by repeat constructor)) rfl ?_⟩, trivial⟩
    · skip
      rintro r4 w4 ⟨rfl, h⟩
      replace hS := St.callN hS h
      refine keepS (hS.sel (by repeat constructor)) (fun hD => ?_)
      refine SatD.ef 2 rfl (OpW.pure (RunV.loadN hS rfl rfl (by repeat constructor) (by repeat constructor)) rfl ?_)
      refine keepS (hS.sel (by repeat constructor)) (fun hD => ?_)
      refine SatD.ef 3 rfl (OpW.enter rfl rfl rfl (rfl) (rank_any _ _) ?_)
      rintro r6 w6 ⟨rfl, h⟩
      replace hS := St.callN hS h
      refine keepS (hS.sel (by repeat constructor)) (fun hD => ?_)
      refine SatD.tk 4 rfl hD (fun _ hw => RunV.assign rfl) ?_
      refine SatD.tk 5 rfl hD (fun _ hw => RunV.assign rfl) ?_
      refine SatD.done 0 (by kernel_rfl) ?_
      refine SatE.weak (e' := [(2, _), (3, _), (4, _), (5, _), (6, _)]) (by repeat constructor) ?_
      exact hK w6 hS
    · skip
      refine keepS (hS.sel (by repeat constructor)) (fun hD => ?_)
      refine SatD.ef 1 rfl (OpW.enter rfl rfl rfl (rfl) (rank_any _ _) ?_)
      rintro r5 w5 ⟨rfl, h⟩
      replace hS := St.callN hS h
      refine keepS (hS.sel (by repeat constructor)) (fun hD => ?_)
      refine SatD.ef 3 rfl (OpW.enter rfl rfl rfl (rfl) (rank_any _ _) ?_)
      rintro r6 w6 ⟨rfl, h⟩
      replace hS := St.callN hS h
      refine keepS (hS.sel (by repeat constructor)) (fun hD => ?_)
      refine SatD.tk 4 rfl hD (fun _ hw => RunV.assign rfl) ?_
      refine SatD.tk 5 rfl hD (fun _ hw => RunV.assign rfl) ?_
      refine SatD.done 0 (by kernel_rfl) ?_
      refine SatE.weak (e' := [(2, _), (3, _), (4, _), (5, _), (6, _)]) (by repeat constructor) ?_
      exact hK w6 hS
  intro w54 hS
  refine SatE.thenC ?_
  refine SatC.seq ?_
  refine SatC.region ?_
  refine SatL.pu (RunV.move rfl) rfl ?_
  refine SatL.pu (RunV.move rfl) rfl ?_
  refine SatL.pu (RunV.neq rfl rfl) rfl ?_
  refine SatL.nil (SatE.thenC ?_)
  refine SatC.cond rfl (fun h1 => ?_) (fun h1 => ?_)
  · (try simp only [cx, ne_eq] at h1)
    try (exfalso; (first | omega | exact h1 trivial | contradiction | (first | omega | (simp at h1; done))); done)
    all_goals
    refine SatC.seq ?_
    refine SatC.region ?_
    refine SatL.pu (RunV.move rfl) rfl ?_
    refine SatL.pu (RunV.move rfl) rfl ?_
    refine SatL.pu (RunV.gtr rfl rfl) rfl ?_
    refine SatL.pu (RunV.assign rfl) rfl ?_
    refine SatL.nil (SatE.thenC ?_)
    refine SatC.ret (SatE.then_ret ?_)
    refine SatE.ret1 rfl rfl ?_
    first
    | (have e : ¬ (rankI a : Int) = (rankI c : Int) := by assumption
       refine ⟨?_, hS.sel .nil⟩
       unfold firstI
       rw [if_neg (by omega)]
       congr 1
       rw [decide_eq_decide]
       omega)
    | (have e : (rankI a : Int) = (rankI c : Int) := by assumption
       have e2 : ¬ a.d = c.d := by assumption
       exact ⟨by unfold firstI; rw [if_pos (by omega), if_neg e2], hS.sel .nil⟩)
    | (have e : (rankI a : Int) = (rankI c : Int) := by assumption
       have e2 : a.d = c.d := by assumption
       exact ⟨by unfold firstI; rw [if_pos (by omega), if_pos e2], hS.sel .nil⟩)
  · (try simp only [cx, ne_eq] at h1)
    try (exfalso; (first | omega | exact h1 trivial | contradiction | (first | omega | (simp at h1; done))); done)
    all_goals
    refine SatC.skip (SatE.thenC ?_)
    refine SatC.seq ?_
    refine SatC.seq ?_
    refine SatC.region ?_
    first | refine SatL.pu (RunV.fieldAddrL rfl rfl rfl) rfl ?_ | refine SatL.pu (RunV.fieldAddr rfl rfl rfl) rfl ?_
    refine SatL.pu (RunV.load1 hS rfl rfl (by repeat constructor) rfl) rfl ?_
    first | refine SatL.pu (RunV.fieldAddrL rfl rfl rfl) rfl ?_ | refine SatL.pu (RunV.fieldAddr rfl rfl rfl) rfl ?_
    refine SatL.pu (RunV.load1 hS rfl rfl (by repeat constructor) rfl) rfl ?_
    refine SatL.pu (RunV.sneq rfl rfl) rfl ?_
    refine SatL.nil (SatE.thenC ?_)
    refine SatC.cond rfl (fun h2 => ?_) (fun h2 => ?_)
    · (try simp only [cx, ne_eq] at h2)
      try (exfalso; (first | omega | exact h2 trivial | contradiction | (first | omega | (simp at h2; done))); done)
      all_goals
      refine SatC.seq ?_
      refine SatC.region ?_
      first | refine SatL.pu (RunV.fieldAddrL rfl rfl rfl) rfl ?_ | refine SatL.pu (RunV.fieldAddr rfl rfl rfl) rfl ?_
      refine SatL.pu (RunV.load1 hS rfl rfl (by repeat constructor) rfl) rfl ?_
      first | refine SatL.pu (RunV.fieldAddrL rfl rfl rfl) rfl ?_ | refine SatL.pu (RunV.fieldAddr rfl rfl rfl) rfl ?_
      refine SatL.pu (RunV.load1 hS rfl rfl (by repeat constructor) rfl) rfl ?_
      refine SatL.pu (RunV.slss rfl rfl) rfl ?_
      refine SatL.pu (RunV.assign rfl) rfl ?_
      refine SatL.nil (SatE.thenC ?_)
      refine SatC.ret (SatE.then_ret ?_)
      refine SatE.ret1 rfl rfl ?_
      first
      | (have e : ¬ (rankI a : Int) = (rankI c : Int) := by assumption
         refine ⟨?_, hS.sel .nil⟩
         unfold firstI
         rw [if_neg (by omega)]
         congr 1
         rw [decide_eq_decide]
         omega)
      | (have e : (rankI a : Int) = (rankI c : Int) := by assumption
         have e2 : ¬ a.d = c.d := by assumption
         exact ⟨by unfold firstI; rw [if_pos (by omega), if_neg e2], hS.sel .nil⟩)
      | (have e : (rankI a : Int) = (rankI c : Int) := by assumption
         have e2 : a.d = c.d := by assumption
         exact ⟨by unfold firstI; rw [if_pos (by omega), if_pos e2], hS.sel .nil⟩)
    · (try simp only [cx, ne_eq] at h2)
      try (exfalso; (first | omega | exact h2 trivial | contradiction | (first | omega | (simp at h2; done))); done)
      all_goals
      refine SatC.skip (SatE.thenC ?_)
      refine SatC.seq ?_
      refine SatC.region ?_
      first | refine SatL.pu (RunV.fieldAddrL rfl rfl rfl) rfl ?_ | refine SatL.pu (RunV.fieldAddr rfl rfl rfl) rfl ?_
      refine SatL.pu (RunV.load1 hS rfl rfl (by repeat constructor) rfl) rfl ?_
      first | refine SatL.pu (RunV.fieldAddrL rfl rfl rfl) rfl ?_ | refine SatL.pu (RunV.fieldAddr rfl rfl rfl) rfl ?_
      refine SatL.pu (RunV.load1 hS rfl rfl (by repeat constructor) rfl) rfl ?_
      refine SatL.pu (RunV.slss rfl rfl) rfl ?_
      refine SatL.pu (RunV.assign rfl) rfl ?_
      refine SatL.nil (SatE.thenC ?_)
      refine SatC.ret ?_
      refine SatE.ret1 rfl rfl ?_
      first
      | (have e : ¬ (rankI a : Int) = (rankI c : Int) := by assumption
         refine ⟨?_, hS.sel .nil⟩
         unfold firstI
         rw [if_neg (by omega)]
         congr 1
         rw [decide_eq_decide]
         omega)
      | (have e : (rankI a : Int) = (rankI c : Int) := by assumption
         have e2 : ¬ a.d = c.d := by assumption
         exact ⟨by unfold firstI; rw [if_pos (by omega), if_neg e2], hS.sel .nil⟩)
      | (have e : (rankI a : Int) = (rankI c : Int) := by assumption
         have e2 : a.d = c.d := by assumption
         exact ⟨by unfold firstI; rw [if_pos (by omega), if_pos e2], hS.sel .nil⟩)
theorem ahead_any (a c : Itn) (w : World) : Ret Try.prog 40 #[.agg (ic a).toArray, .agg (ic c).toArray] w fun u w' => u = .bool (firstI a c) ∧ St w [] [] w' := by
  have hS := St.init0 w
  have h1a := rank_lt a
  have h1c := rank_lt c
  refine Ret.enter Try.func40 Try.ntmps40 rfl rfl ?_
  simp only [argEnv, Nat.reduceAdd]
  refine SatC.seq ?_
  refine SatC.region ?_
  refine SatL.op rfl (OpW.box hS rfl rfl (by repeat constructor) ?_)
  clear hS
  intro b2 w1 _ hS
  refine SatL.op rfl (OpW.box hS rfl rfl (by repeat constructor) ?_)
  clear hS
  intro b3 w2 _ hS
  refine SatL.pu (RunV.assign rfl) rfl ?_
  refine SatL.nil (SatE.thenC ?_)
  refine SatC.seq ?_
  refine SatC.seq ?_
  refine SatC.drawnT 5 hS (hS.sel (R := [(b3, C 28 (ic c)), (b2, C 28 (ic a))]) (by repeat constructor)) (by kernel_rfl) ?_
  clear hS
  intro w3 hh hS hD
  refine SatD.tk 0 rfl hD (fun _ hw => RunV.loadN hw rfl rfl (by repeat constructor) (by repeat constructor)) ?_
  apply SatD.join0
  · intro hK
    refine SatD.effs [1, 2] (by kernel_rfl) ⟨⟨_, rfl, rfl, OpW.enter rfl rfl rfl (rfl) (rrank_any _ _) ?_⟩, ⟨_, rfl, rfl, OpW.pure (RunV.loadN hS rfl rfl (by repeat constructor) (by repeat constructor)) rfl ?_⟩, trivial⟩
    · skip
      rintro r4 w4 ⟨rfl, h⟩
      replace hS := St.callN hS h
      refine keepS (hS.sel (by repeat constructor)) (fun hD => ?_)
      refine SatD.ef 2 rfl (OpW.pure (RunV.loadN hS rfl rfl (by repeat constructor) (by repeat constructor)) rfl ?_)
      refine keepS (hS.sel (by repeat constructor)) (fun hD => ?_)
      refine SatD.ef 3 rfl (OpW.enter rfl rfl rfl (rfl) (rrank_any _ _) ?_)
      rintro r6 w6 ⟨rfl, h⟩
      replace hS := St.callN hS h
      refine keepS (hS.sel (by repeat constructor)) (fun hD => ?_)
      refine SatD.tk 4 rfl hD (fun _ hw => RunV.neq rfl rfl) ?_
      refine SatD.done 0 (by kernel_rfl) ?_
      refine SatE.weak (e' := [(2, _), (3, _), (4, _), (9, _)]) (by repeat constructor) ?_
      exact hK w6 hS
    · skip
      refine keepS (hS.sel (by repeat constructor)) (fun hD => ?_)
      refine SatD.ef 1 rfl (OpW.enter rfl rfl rfl (rfl) (rrank_any _ _) ?_)
      rintro r5 w5 ⟨rfl, h⟩
      replace hS := St.callN hS h
      refine keepS (hS.sel (by repeat constructor)) (fun hD => ?_)
      refine SatD.ef 3 rfl (OpW.enter rfl rfl rfl (rfl) (rrank_any _ _) ?_)
      rintro r6 w6 ⟨rfl, h⟩
      replace hS := St.callN hS h
      refine keepS (hS.sel (by repeat constructor)) (fun hD => ?_)
      refine SatD.tk 4 rfl hD (fun _ hw => RunV.neq rfl rfl) ?_
      refine SatD.done 0 (by kernel_rfl) ?_
      refine SatE.weak (e' := [(2, _), (3, _), (4, _), (9, _)]) (by repeat constructor) ?_
      exact hK w6 hS
  intro w54 hS
  refine SatE.thenC ?_
  refine SatC.cond rfl (fun h1 => ?_) (fun h1 => ?_)
  · (try simp only [cx, ne_eq] at h1)
    try (exfalso; (first | omega | exact h1 trivial | contradiction | (first | omega | (simp at h1; done))); done)
    all_goals
    refine SatC.seq ?_
    refine SatC.drawnT 6 hS (hS.sel (R := [(b3, C 28 (ic c)), (b2, C 28 (ic a))]) (by repeat constructor)) (by kernel_rfl) ?_
    clear hS
    intro w55 hh hS hD
    refine SatD.tk 0 rfl hD (fun _ hw => RunV.loadN hw rfl rfl (by repeat constructor) (by repeat constructor)) ?_
    apply SatD.join0
    · intro hK
      refine SatD.effs [1, 2] (by kernel_rfl) ⟨⟨_, rfl, rfl, OpW.enter rfl rfl rfl (rfl) (rrank_any _ _) ?_⟩, ⟨_, rfl, rfl, OpW.pure (RunV.loadN hS rfl rfl (by repeat constructor) (by repeat constructor)) rfl ?_⟩, trivial⟩
      · skip
        rintro r56 w56 ⟨rfl, h⟩
        replace hS := St.callN hS h
        refine keepS (hS.sel (by repeat constructor)) (fun hD => ?_)
        refine SatD.ef 2 rfl (OpW.pure (RunV.loadN hS rfl rfl (by repeat constructor) (by repeat constructor)) rfl ?_)
        refine keepS (hS.sel (by repeat constructor)) (fun hD => ?_)
        refine SatD.ef 3 rfl (OpW.enter rfl rfl rfl (rfl) (rrank_any _ _) ?_)
        rintro r58 w58 ⟨rfl, h⟩
        replace hS := St.callN hS h
        refine keepS (hS.sel (by repeat constructor)) (fun hD => ?_)
        refine SatD.tk 4 rfl hD (fun _ hw => RunV.gtr rfl rfl) ?_
        refine SatD.tk 5 rfl hD (fun _ hw => RunV.assign rfl) ?_
        refine SatD.done 0 (by kernel_rfl) ?_
        refine SatE.weak (e' := [(4, _)]) (by repeat constructor) ?_
        exact hK w58 hS
      · skip
        refine keepS (hS.sel (by repeat constructor)) (fun hD => ?_)
        refine SatD.ef 1 rfl (OpW.enter rfl rfl rfl (rfl) (rrank_any _ _) ?_)
        rintro r57 w57 ⟨rfl, h⟩
        replace hS := St.callN hS h
        refine keepS (hS.sel (by repeat constructor)) (fun hD => ?_)
        refine SatD.ef 3 rfl (OpW.enter rfl rfl rfl (rfl) (rrank_any _ _) ?_)
        rintro r58 w58 ⟨rfl, h⟩
        replace hS := St.callN hS h
        refine keepS (hS.sel (by repeat constructor)) (fun hD => ?_)
        refine SatD.tk 4 rfl hD (fun _ hw => RunV.gtr rfl rfl) ?_
        refine SatD.tk 5 rfl hD (fun _ hw => RunV.assign rfl) ?_
        refine SatD.done 0 (by kernel_rfl) ?_
        refine SatE.weak (e' := [(4, _)]) (by repeat constructor) ?_
        exact hK w58 hS
    intro w106 hS
    refine SatE.thenC ?_
    refine SatC.ret (SatE.then_ret ?_)
    refine SatE.ret1 rfl rfl ?_
    first
    | (have e : ¬ (rankI a : Int) = (rankI c : Int) := by assumption
       refine ⟨?_, hS.sel .nil⟩
       unfold firstI
       rw [if_neg (by omega)]
       congr 1
       rw [decide_eq_decide]
       omega)
    | (have e : (rankI a : Int) = (rankI c : Int) := by assumption
       refine ⟨?_, hS.sel .nil⟩
       unfold firstI
       rw [if_pos (by omega)]
       by_cases e2 : a.d = c.d
       · have e3 : ¬ a.d < c.d := by rw [e2]; exact List.lt_irrefl _
         rw [if_pos e2]
         all_goals first
           | (simp_all; done)
           | rfl
       · rw [if_neg e2]
         all_goals first
           | (simp_all; done)
           | rfl)
  · (try simp only [cx, ne_eq] at h1)
    try (exfalso; (first | omega | exact h1 trivial | contradiction | (first | omega | (simp at h1; done))); done)
    all_goals
    refine SatC.skip (SatE.thenC ?_)
    refine SatC.seq ?_
    refine SatC.region ?_
    first | refine SatL.pu (RunV.fieldAddrL rfl rfl rfl) rfl ?_ | refine SatL.pu (RunV.fieldAddr rfl rfl rfl) rfl ?_
    refine SatL.pu (RunV.load1 hS rfl rfl (by repeat constructor) rfl) rfl ?_
    first | refine SatL.pu (RunV.fieldAddrL rfl rfl rfl) rfl ?_ | refine SatL.pu (RunV.fieldAddr rfl rfl rfl) rfl ?_
    refine SatL.pu (RunV.load1 hS rfl rfl (by repeat constructor) rfl) rfl ?_
    refine SatL.pu (RunV.slss rfl rfl) rfl ?_
    refine SatL.pu (RunV.move rfl) rfl ?_
    refine SatL.guard rfl rfl rfl (fun h2 => ?_) (fun h2 => ?_)
    · (try simp only [cx, ne_eq] at h2)
      try (exfalso; (first | omega | exact h2 trivial | contradiction | (first | omega | (simp at h2; done))); done)
      all_goals
      first | refine SatL.pu (RunV.fieldAddrL rfl rfl rfl) rfl ?_ | refine SatL.pu (RunV.fieldAddr rfl rfl rfl) rfl ?_
      refine SatL.guard_y rfl rfl ?_
      refine SatL.pu (RunV.load1 hS rfl rfl (by repeat constructor) rfl) rfl ?_
      refine SatL.guard_y rfl rfl ?_
      first | refine SatL.pu (RunV.fieldAddrL rfl rfl rfl) rfl ?_ | refine SatL.pu (RunV.fieldAddr rfl rfl rfl) rfl ?_
      refine SatL.guard_y rfl rfl ?_
      refine SatL.pu (RunV.load1 hS rfl rfl (by repeat constructor) rfl) rfl ?_
      refine SatL.guard_y rfl rfl ?_
      refine SatL.pu (RunV.seql rfl rfl) rfl ?_
      refine SatL.guard_y rfl rfl ?_
      refine SatL.pu (RunV.move rfl) rfl ?_
      refine SatL.guard rfl rfl rfl (fun h3 => ?_) (fun h3 => ?_)
      · (try simp only [cx, ne_eq] at h3)
        try (exfalso; (first | omega | exact h3 trivial | contradiction | (first | omega | (simp at h3; done))); done)
        all_goals
        first | refine SatL.pu (RunV.fieldAddrL rfl rfl rfl) rfl ?_ | refine SatL.pu (RunV.fieldAddr rfl rfl rfl) rfl ?_
        refine SatL.guard_y rfl rfl ?_
        refine SatL.pu (RunV.load1 hS rfl rfl (by repeat constructor) rfl) rfl ?_
        refine SatL.guard_y rfl rfl ?_
        first | refine SatL.pu (RunV.fieldAddrL rfl rfl rfl) rfl ?_ | refine SatL.pu (RunV.fieldAddr rfl rfl rfl) rfl ?_
        refine SatL.guard_y rfl rfl ?_
        refine SatL.pu (RunV.load1 hS rfl rfl (by repeat constructor) rfl) rfl ?_
        refine SatL.guard_y rfl rfl ?_
        refine SatL.pu (RunV.slss rfl rfl) rfl ?_
        refine SatL.guard_y rfl rfl ?_
        refine SatL.pu (RunV.pick_t rfl rfl) rfl ?_
        refine SatL.pu (RunV.pick_f rfl rfl) rfl ?_
        refine SatL.pu (RunV.assign rfl) rfl ?_
        refine SatL.nil (SatE.thenC ?_)
        refine SatC.ret ?_
        refine SatE.ret1 rfl rfl ?_
        first
        | (have e : ¬ (rankI a : Int) = (rankI c : Int) := by assumption
           refine ⟨?_, hS.sel .nil⟩
           unfold firstI
           rw [if_neg (by omega)]
           congr 1
           rw [decide_eq_decide]
           omega)
        | (have e : (rankI a : Int) = (rankI c : Int) := by assumption
           refine ⟨?_, hS.sel .nil⟩
           unfold firstI
           rw [if_pos (by omega)]
           by_cases e2 : a.d = c.d
           · have e3 : ¬ a.d < c.d := by rw [e2]; exact List.lt_irrefl _
             rw [if_pos e2]
             all_goals first
               | (simp_all; done)
               | rfl
           · rw [if_neg e2]
             all_goals first
               | (simp_all; done)
               | rfl)
      · (try simp only [cx, ne_eq] at h3)
        try (exfalso; (first | omega | exact h3 trivial | contradiction | (first | omega | (simp at h3; done))); done)
        all_goals
        refine SatL.guard_n rfl rfl rfl rfl ?_
        refine SatL.guard_n rfl rfl rfl rfl ?_
        refine SatL.guard_n rfl rfl rfl rfl ?_
        refine SatL.guard_n rfl rfl rfl rfl ?_
        refine SatL.guard_y rfl rfl ?_
        refine SatL.pu (RunV.pick_f rfl rfl) rfl ?_
        refine SatL.pu (RunV.pick_f rfl rfl) rfl ?_
        refine SatL.pu (RunV.assign rfl) rfl ?_
        refine SatL.nil (SatE.thenC ?_)
        refine SatC.ret ?_
        refine SatE.ret1 rfl rfl ?_
        first
        | (have e : ¬ (rankI a : Int) = (rankI c : Int) := by assumption
           refine ⟨?_, hS.sel .nil⟩
           unfold firstI
           rw [if_neg (by omega)]
           congr 1
           rw [decide_eq_decide]
           omega)
        | (have e : (rankI a : Int) = (rankI c : Int) := by assumption
           refine ⟨?_, hS.sel .nil⟩
           unfold firstI
           rw [if_pos (by omega)]
           by_cases e2 : a.d = c.d
           · have e3 : ¬ a.d < c.d := by rw [e2]; exact List.lt_irrefl _
             rw [if_pos e2]
             all_goals first
               | (simp_all; done)
               | rfl
           · rw [if_neg e2]
             all_goals first
               | (simp_all; done)
               | rfl)
    · (try simp only [cx, ne_eq] at h2)
      try (exfalso; (first | omega | exact h2 trivial | contradiction | (first | omega | (simp at h2; done))); done)
      all_goals
      refine SatL.guard_n rfl rfl rfl rfl ?_
      refine SatL.guard_n rfl rfl rfl rfl ?_
      refine SatL.guard_n rfl rfl rfl rfl ?_
      refine SatL.guard_n rfl rfl rfl rfl ?_
      refine SatL.guard_n rfl rfl rfl rfl ?_
      refine SatL.guard_u rfl rfl rfl ?_
      refine SatL.guard_u rfl rfl rfl ?_
      refine SatL.guard_u rfl rfl rfl ?_
      refine SatL.guard_u rfl rfl rfl ?_
      refine SatL.guard_u rfl rfl rfl ?_
      refine SatL.guard_n rfl rfl rfl rfl ?_
      refine SatL.pu (RunV.pick_t rfl rfl) rfl ?_
      refine SatL.pu (RunV.assign rfl) rfl ?_
      refine SatL.nil (SatE.thenC ?_)
      refine SatC.ret ?_
      refine SatE.ret1 rfl rfl ?_
      first
      | (have e : ¬ (rankI a : Int) = (rankI c : Int) := by assumption
         refine ⟨?_, hS.sel .nil⟩
         unfold firstI
         rw [if_neg (by omega)]
         congr 1
         rw [decide_eq_decide]
         omega)
      | (have e : (rankI a : Int) = (rankI c : Int) := by assumption
         refine ⟨?_, hS.sel .nil⟩
         unfold firstI
         rw [if_pos (by omega)]
         by_cases e2 : a.d = c.d
         · have e3 : ¬ a.d < c.d := by rw [e2]; exact List.lt_irrefl _
           rw [if_pos e2]
           all_goals first
             | (simp_all; done)
             | rfl
         · rw [if_neg e2]
           all_goals first
             | (simp_all; done)
             | rfl)
def toldI (r : Tr) : Itn := { r.v with m := r.m, x := r.x }
theorem told_any (r : Tr) (w : World) : Ret Try.prog 43 #[.agg (tr r).toArray] w fun u w' => u = .agg (ic (toldI r)).toArray ∧ St w [] [] w' := by
  have hS := St.init0 w
  refine Ret.enter Try.func43 Try.ntmps43 rfl rfl ?_
  simp only [argEnv, Nat.reduceAdd]
  refine SatC.seq ?_
  refine SatC.region ?_
  refine SatL.op rfl (OpW.box hS rfl rfl (by repeat constructor) ?_)
  clear hS
  intro b1 w1 _ hS
  refine SatL.op rfl (OpW.alloc hS rfl rfl (by repeat constructor) ?_)
  clear hS
  intro b2 w2 _ hS
  refine SatL.nil (SatE.thenC ?_)
  refine SatC.seq ?_
  refine SatC.region ?_
  first | refine SatL.pu (RunV.fieldAddrL rfl rfl rfl) rfl ?_ | refine SatL.pu (RunV.fieldAddr rfl rfl rfl) rfl ?_
  refine SatL.pu (RunV.loadN hS rfl rfl (by repeat constructor) (by repeat constructor)) rfl ?_
  refine SatL.op rfl (OpW.alloc hS rfl rfl (by repeat constructor) ?_)
  clear hS
  intro b3 w3 _ hS
  refine SatL.op rfl (OpW.store hS rfl rfl (by repeat constructor) (by repeat constructor) (by repeat constructor) rfl rfl ?_)
  clear hS
  intro w4 hS
  refine SatL.nil (SatE.thenC ?_)
  refine SatC.seq ?_
  refine SatC.drawnT 7 hS (hS.sel (R := [(b1, C 77 (tr r))]) (by repeat constructor)) (by kernel_rfl) ?_
  clear hS
  intro w5 hh hS hD
  first | refine SatD.tk 0 rfl hD (fun _ hw => RunV.fieldAddrL rfl rfl rfl) ?_ | refine SatD.tk 0 rfl hD (fun _ hw => RunV.fieldAddr rfl rfl rfl) ?_
  refine SatD.tk 1 rfl hD (fun _ hw => RunV.load1 hw rfl rfl (by repeat constructor) rfl) ?_
  first | refine SatD.tk 2 rfl hD (fun _ hw => RunV.fieldAddrL rfl rfl rfl) ?_ | refine SatD.tk 2 rfl hD (fun _ hw => RunV.fieldAddr rfl rfl rfl) ?_
  refine SatD.tk 3 rfl hD (fun _ hw => RunV.load1 hw rfl rfl (by repeat constructor) rfl) ?_
  first | refine SatD.tk 4 rfl hD (fun _ hw => RunV.fieldAddrL rfl rfl rfl) ?_ | refine SatD.tk 4 rfl hD (fun _ hw => RunV.fieldAddr rfl rfl rfl) ?_
  refine SatD.ef 5 rfl (OpW.store hS rfl rfl (by repeat constructor) (by repeat constructor) (by repeat constructor) rfl rfl ?_)
  clear hS
  intro w6 hS
  refine keepS (hS.sel (by repeat constructor)) (fun hD => ?_)
  first | refine SatD.tk 6 rfl hD (fun _ hw => RunV.fieldAddrL rfl rfl rfl) ?_ | refine SatD.tk 6 rfl hD (fun _ hw => RunV.fieldAddr rfl rfl rfl) ?_
  refine SatD.effF (by kernel_rfl) rfl rfl (OpW.store hS rfl rfl (by repeat constructor) (by repeat constructor) (by repeat constructor) rfl rfl ?_)
  clear hS
  intro w7 hS
  refine SatD.done 0 (by kernel_rfl) (SatE.thenC ?_)
  clear hD
  refine SatC.seq ?_
  refine SatC.region ?_
  refine SatL.pu (RunV.loadN hS rfl rfl (by repeat constructor) (by repeat constructor)) rfl ?_
  refine SatL.op rfl (OpW.store hS rfl rfl (by repeat constructor) (by repeat constructor) (by repeat constructor) rfl rfl ?_)
  clear hS
  intro w8 hS
  refine SatL.nil (SatE.thenC ?_)
  refine SatC.ret ?_
  refine SatE.retG1 hS rfl (.cellN rfl rfl (by repeat constructor) (by repeat constructor)) ?_
  exact ⟨rfl, hS.sel .nil⟩
end Go.Proofs.Ytogohendjjgbiaa
