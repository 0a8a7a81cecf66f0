/- Contract of chapter 02: a row in which bits are turned. -/
import Derived.Test.YtpajeienbdnkfaaE
set_option linter.unusedSimpArgs false
set_option linter.unusedVariables false
set_option maxRecDepth 100000
set_option maxHeartbeats 1000000
namespace Go.Proofs.Ytpajeienbdnkfaa
open Go.RowKit
theorem wrap_u64 (n : Int) : 0 ≤ IntKind.u64.wrap n ∧ IntKind.u64.wrap n ≤ 18446744073709551615 := by
  simp only [IntKind.wrap, IntKind.bits, IntKind.signed]
  simp
  omega
theorem bit_mod (m : BitVec 32) (i : Nat) : (((m >>> i).toNat : Int) % 2 = 1) ↔ m.getLsbD i = true := by
  rw [BitVec.getLsbD, Nat.testBit_eq_decide_div_mod_eq, decide_eq_true_eq, BitVec.toNat_ushiftRight, Nat.shiftRight_eq_div_pow]
  omega
theorem any_next (m : BitVec 32) (i : Nat) : (mbits m (i + 1)).any id = ((mbits m i).any id || m.getLsbD i) := by
  simp [mbits, List.range_succ]
theorem RunV.shr8 {P : Program} {N : Nat} {env : Env} {w : World} {dd : Option Nat} {ty : TypeId} {pos : String} {af : Array Edge} {g : Option (Nat × Bool)} {t t2 : TypeId} {x y : Operand} {a : BitVec 8} {k' : IntKind} {n : Nat} (hx : evO env x = some (u8 a)) (hy : evO env y = some (.int k' (n : Int))) (hn : n ≤ 8) : RunV P N env w ⟨dd, .binOp .shr t x y t2, ty, pos, af, g⟩ (u8 (a >>> n)) :=
  RunV.bin hx hy run_guardInt (by
    have h0 : ¬ (n : Int) < 0 := by omega
    have h1 : min (n : Int).toNat IntKind.u8.bits = n := by
      have : IntKind.u8.bits = 8 := rfl
      rw [this]
      omega
    have h2 : Int.fdiv (a.toNat : Int) (2 ^ n) = ((a >>> n).toNat : Int) := by
      rw [BitVec.toNat_ushiftRight, Nat.shiftRight_eq_div_pow]
      rw [Int.fdiv_eq_ediv_of_nonneg _ (by exact Int.le_of_lt (Int.pow_pos (by decide)))]
      simp
    simp only [binOp, Op.shift, if_neg h0, h1, h2]
    rfl)
def Tn (bs c : List (BitVec 8)) (q : Bool) : Prop := ∃ (k i : Nat) (m : BitVec 32), k + i ≤ 8 * bs.length ∧ i ≤ 32 ∧ TurnedAt bs c k i m ∧ q = (mbits m i).any id
theorem turned_any (at_ : Int) (m : BitVec 32) (v : Value) (bs : List (BitVec 8)) (w : World) (hr : RdRow w v 1 (bs.map by1)) (hn : bs.length ≤ 140737488351240) : Ret Try.prog 16 #[v, .agg #[.int .i64 at_, u32 m]] w fun u w' => ∃ cv B c q, u = .tuple #[cv, .bool q] ∧ Sl 5 1 cv (c.map by1) B ∧ St w [] B w' ∧ Tn bs c q := by
  have hS := St.init0 w
  obtain ⟨b, o, c, hv, hmax, hc, hlt⟩ := hr.open
  simp only [List.length_map] at hv hmax hlt
  have hwr := wrap_u64 at_
  refine Ret.enter Try.func16 Try.ntmps16 rfl rfl ?_
  simp only [argEnv, Nat.reduceAdd]
  refine SatC.seq ?_
  refine SatC.region ?_
  refine SatL.op rfl (OpW.box hS rfl rfl (by repeat constructor) ?_)
  clear hS
  intro b3 w1 _ hS
  refine SatL.pu (RunV.assign rfl) rfl ?_
  refine SatL.pu (RunV.assign rfl) rfl ?_
  refine SatL.nil (SatE.thenC ?_)
  refine SatC.seq ?_
  refine SatC.region ?_
  refine SatL.op rfl (OpW.buildSlice0 hS rfl rfl rfl ?_)
  clear hS
  intro v10 b10 w2 _ hsl10 hv10 hS
  refine SatL.pu (RunV.move rfl) rfl ?_
  refine SatL.op rfl (OpW.appendB (news := bs.map by1) hsl10 hS (by repeat constructor) hv (hc.st hS List.not_mem_nil) (by rw [List.length_map]) rfl rfl rfl rfl rfl rfl rfl (by1_one _) (by simp only [List.length_nil]; omega) (by simp only [List.length_nil]; omega) rfl ?_)
  clear hS
  intro v12 B12 w3 hsl12 hS
  rw [List.nil_append] at hsl12
  refine SatL.pu (RunV.assign rfl) rfl ?_
  refine SatL.nil (SatE.thenC ?_)
  refine SatC.seq ?_
  refine SatC.seq ?_
  refine SatC.region ?_
  refine SatL.pu (RunV.move rfl) rfl ?_
  first | refine SatL.pu (RunV.lenR (by assumption) rfl rfl) rfl ?_ | refine SatL.pu (RunV.lenS rfl rfl) rfl ?_
  refine SatL.pu (RunV.eql rfl rfl) rfl ?_
  refine SatL.nil (SatE.thenC ?_)
  refine SatC.cond rfl (fun h1 => ?_) (fun h1 => ?_)
  · (try simp only [cx, ne_eq] at h1)
    try (exfalso; (first | omega | exact h1 trivial | contradiction); done)
    all_goals
    refine SatC.seq ?_
    refine SatC.region ?_
    refine SatL.pu (RunV.move rfl) rfl ?_
    refine SatL.pu (RunV.assign rfl) rfl ?_
    refine SatL.pu (RunV.assign rfl) rfl ?_
    refine SatL.nil (SatE.thenC ?_)
    refine SatC.ret (SatE.then_ret ?_)
    refine SatE.ret2 rfl rfl rfl ?_
    have hb0 : bs = [] := List.eq_nil_of_length_eq_zero (by omega)
    subst hb0
    exact ⟨_, B12, [], false, rfl, hsl12, hS.sel (by repeat constructor), 0, 0, m, by simp, by omega, turned_0 [] 0 m (by simp), rfl⟩
  · (try simp only [cx, ne_eq] at h1)
    try (exfalso; (first | omega | exact h1 trivial | contradiction); done)
    all_goals
    refine SatC.skip (SatE.thenC ?_)
    refine SatC.seq ?_
    refine SatC.region ?_
    first | refine SatL.pu (RunV.fieldAddrL rfl rfl rfl) rfl ?_ | refine SatL.pu (RunV.fieldAddr rfl rfl rfl) rfl ?_
    refine SatL.pu (RunV.load1 hS rfl rfl (by repeat constructor) rfl) rfl ?_
    refine SatL.pu (RunV.conv rfl rfl rfl rfl) rfl ?_
    refine SatL.pu (RunV.move rfl) rfl ?_
    first | refine SatL.pu (RunV.lenR (by assumption) rfl rfl) rfl ?_ | refine SatL.pu (RunV.lenS rfl rfl) rfl ?_
    refine SatL.pu (RunV.mul rfl rfl (by first | exact wrapI64 (by omega) | rfl)) rfl ?_
    refine SatL.pu (RunV.conv rfl rfl rfl (wrapU64 (by omega))) rfl ?_
    refine SatL.pu (RunV.remP rfl rfl (by omega) (by omega)) rfl ?_
    refine SatL.pu (RunV.conv rfl rfl rfl (wrapI64 (by have := Int.emod_lt_of_pos (IntKind.u64.wrap at_) (show (0 : Int) < 8 * (bs.length : Int) by omega); have := Int.emod_nonneg (IntKind.u64.wrap at_) (show (8 * (bs.length : Int)) ≠ 0 by omega); omega))) rfl ?_
    refine SatL.pu (RunV.assign rfl) rfl ?_
    refine SatL.nil (SatE.thenC ?_)
    refine SatC.seq ?_
    refine SatC.weak (e' := [(0, _), (3, _), (4, _), (5, _), (6, _), (7, _)]) (by repeat constructor) ?_
    obtain ⟨k, hk, hk8⟩ : ∃ k : Nat, IntKind.u64.wrap at_ % (8 * (bs.length : Int)) = (k : Int) ∧ k < 8 * bs.length := by
      have h1 := Int.emod_lt_of_pos (IntKind.u64.wrap at_) (show (0 : Int) < 8 * (bs.length : Int) by omega)
      have h2 := Int.emod_nonneg (IntKind.u64.wrap at_) (show (8 * (bs.length : Int)) ≠ 0 by omega)
      exact ⟨(IntKind.u64.wrap at_ % (8 * (bs.length : Int))).toNat, by omega, by omega⟩
    simp only [hk]
    refine SatC.region ?_
    refine SatL.pu (RunV.assign rfl) rfl ?_
    refine SatL.nil (SatE.thenC ?_)
    refine SatC.seq ?_
    refine SatC.seq ?_
    refine SatC.region ?_
    refine SatL.pu (RunV.assign rfl) rfl ?_
    refine SatL.nil (SatE.thenC ?_)
    refine SatC.block ?_
    refine SatC.loopK (G := Nat × Value × List (Nat × Obj) × List (BitVec 8) × Bool) (V := fun ⟨i, u, B, c1, q⟩ => [(9, .int .i64 (i : Int)), (6, u), (8, .bool q)]) (Cn := [(0, _), (3, _), (4, _), (5, _), (7, _)]) (I := fun ⟨i, u, B, c1, q⟩ w' => i ≤ 32 ∧ k + i ≤ 8 * bs.length ∧ Sl 5 1 u (c1.map by1) B ∧ TurnedAt bs c1 k i m ∧ q = (mbits m i).any id ∧ St w [] (B ++ [(b3, C 35 [.int .i64 at_, u32 m])]) w') (μ := fun ⟨i, u, B, c1, q⟩ => 32 - i) (0, v12, B12, bs, false) ?_ (by repeat constructor) ?_
    · exact ⟨by omega, by omega, hsl12, turned_0 bs k m (by omega), rfl, hS⟩
    clear hS
    rintro ⟨i, u, B, c1, q⟩ w4 ⟨hi, hki, hsl, hT, hq, hS⟩
    refine SatC.weak (e' := [(0, _), (3, _), (4, _), (5, _), (6, _), (7, _), (8, _), (9, _)]) (by repeat constructor) ?_
    refine SatC.seq ?_
    refine SatC.seq ?_
    refine SatC.region ?_
    refine SatL.pu (RunV.move rfl) rfl ?_
    refine SatL.pu (RunV.lss rfl rfl) rfl ?_
    refine SatL.pu (RunV.move rfl) rfl ?_
    refine SatL.guard rfl rfl rfl (fun h2 => ?_) (fun h2 => ?_)
    · (try simp only [cx, ne_eq] at h2)
      try (exfalso; (first | omega | exact h2 trivial | contradiction); done)
      all_goals
      refine SatL.pu (RunV.move rfl) rfl ?_
      refine SatL.guard_y rfl rfl ?_
      refine SatL.pu (RunV.move rfl) rfl ?_
      refine SatL.guard_y rfl rfl ?_
      refine SatL.pu (RunV.add rfl rfl (by first | exact wrapI64 (by omega) | rfl)) rfl ?_
      refine SatL.guard_y rfl rfl ?_
      refine SatL.pu (RunV.move rfl) rfl ?_
      refine SatL.guard_y rfl rfl ?_
      first | refine SatL.pu (RunV.lenR (by assumption) rfl rfl) rfl ?_ | refine SatL.pu (RunV.lenS rfl rfl) rfl ?_
      refine SatL.guard_y rfl rfl ?_
      refine SatL.pu (RunV.mul rfl rfl (by first | exact wrapI64 (by omega) | rfl)) rfl ?_
      refine SatL.guard_y rfl rfl ?_
      refine SatL.pu (RunV.lss rfl rfl) rfl ?_
      refine SatL.pu (RunV.pick_t rfl rfl) rfl ?_
      refine SatL.nil (SatE.thenC ?_)
      refine SatC.cond rfl (fun h3 => ?_) (fun h3 => ?_)
      · (try simp only [cx, ne_eq] at h3)
        try (exfalso; (first | omega | exact h3 trivial | contradiction); done)
        all_goals
        refine SatC.skip (SatE.thenC ?_)
        refine SatC.seq ?_
        refine SatC.block ?_
        refine SatC.seq ?_
        obtain ⟨c5, hv5⟩ := hsl.slv
        rw [List.length_map] at hv5
        obtain ⟨y, hy⟩ := get_some c1 ((((k : Int) + (i : Int)) / 8).toNat) (by have := hT.1; omega)
        have hcl := hT.1
        refine SatC.region ?_
        first | refine SatL.pu (RunV.fieldAddrL rfl rfl rfl) rfl ?_ | refine SatL.pu (RunV.fieldAddr rfl rfl rfl) rfl ?_
        refine SatL.pu (RunV.load1 hS rfl rfl (by repeat constructor) rfl) rfl ?_
        refine SatL.pu (RunV.move rfl) rfl ?_
        refine SatL.pu (RunV.shr32 (n := i) rfl rfl (by omega)) rfl ?_
        refine SatL.pu (RunV.remP rfl rfl (by omega) (by decide)) rfl ?_
        refine SatL.pu (RunV.eql rfl rfl) rfl ?_
        refine SatL.nil (SatE.thenC ?_)
        refine SatC.weak (e' := [(0, _), (3, _), (4, _), (5, _), (6, _), (7, _), (8, _), (9, _), (44, _)]) (by repeat constructor) ?_
        refine SatC.cond rfl (fun h4 => ?_) (fun h4 => ?_)
        · (try simp only [cx, ne_eq] at h4)
          try (exfalso; (first | omega | exact h4 trivial | contradiction); done)
          all_goals
          refine SatC.seq ?_
          have hbt := (bit_mod m i).1 (by assumption)
          refine SatC.drawnT 19 hS (hS) (by kernel_rfl) ?_
          clear hS
          intro w5 hh hS hD
          refine SatD.take 0 rfl [] (by kernel_rfl) (fun _ _ _ h => h) rfl rfl hD (fun _ hw => RunV.move rfl) ?_
          refine SatD.take 1 rfl [] (by kernel_rfl) (fun _ _ _ h => h) rfl rfl hD (fun _ hw => RunV.move rfl) ?_
          refine SatD.take 2 rfl [] (by kernel_rfl) (fun _ _ _ h => h) rfl rfl hD (fun _ hw => RunV.move rfl) ?_
          refine SatD.take 3 rfl [] (by kernel_rfl) (fun _ _ _ h => h) rfl rfl hD (fun _ hw => RunV.add rfl rfl (by first | exact wrapI64 (by omega) | rfl)) ?_
          refine SatD.take 4 rfl [] (by kernel_rfl) (fun _ _ _ h => h) rfl rfl hD (fun _ hw => RunV.quoP rfl rfl (by omega) (by decide) (wrapI64 (by omega))) ?_
          refine SatD.take 5 rfl [] (by kernel_rfl) (fun _ _ _ h => h) rfl rfl hD (fun _ hw => RunV.move rfl) ?_
          refine SatD.take 6 rfl [] (by kernel_rfl) (fun _ _ _ h => h) rfl rfl hD (fun _ hw => RunV.move rfl) ?_
          refine SatD.take 7 rfl [] (by kernel_rfl) (fun _ _ _ h => h) rfl rfl hD (fun _ hw => RunV.move rfl) ?_
          refine SatD.take 8 rfl [] (by kernel_rfl) (fun _ _ _ h => h) rfl rfl hD (fun _ hw => RunV.add rfl rfl (by first | exact wrapI64 (by omega) | rfl)) ?_
          refine SatD.take 9 rfl [] (by kernel_rfl) (fun _ _ _ h => h) rfl rfl hD (fun _ hw => RunV.quoP rfl rfl (by omega) (by decide) (wrapI64 (by omega))) ?_
          first | refine SatD.take 10 rfl [] (by kernel_rfl) (fun _ _ _ h => h) rfl rfl hD (fun _ hw => RunV.indexR (by assumption) rfl rfl rfl (by omega) (by omega) rfl) ?_ | refine SatD.take 10 rfl [] (by kernel_rfl) (fun _ _ _ h => h) rfl rfl hD (fun _ hw => RunV.indexS rfl rfl rfl (by omega) (by omega) rfl) ?_
          first | refine SatD.take 11 rfl [] (by kernel_rfl) (fun _ _ _ h => h) rfl rfl hD (fun _ hw => RunV.loadR1z (RdC.st (by assumption) hw List.not_mem_nil) rfl rfl (by first | assumption | exact map_get (by assumption)) rfl) ?_ | refine SatD.take 11 rfl [] (by kernel_rfl) (fun _ _ _ h => h) rfl rfl hD (fun _ hw => RunV.loadR1z (Sl.rd (by assumption) hw (by repeat constructor)) rfl rfl (by first | assumption | exact map_get (by assumption)) rfl) ?_
          refine SatD.take 12 rfl [] (by kernel_rfl) (fun _ _ _ h => h) rfl rfl hD (fun _ hw => RunV.move rfl) ?_
          refine SatD.take 13 rfl [] (by kernel_rfl) (fun _ _ _ h => h) rfl rfl hD (fun _ hw => RunV.move rfl) ?_
          refine SatD.take 14 rfl [] (by kernel_rfl) (fun _ _ _ h => h) rfl rfl hD (fun _ hw => RunV.add rfl rfl (by first | exact wrapI64 (by omega) | rfl)) ?_
          refine SatD.take 15 rfl [] (by kernel_rfl) (fun _ _ _ h => h) rfl rfl hD (fun _ hw => RunV.remP rfl rfl (by omega) (by decide)) ?_
          refine SatD.take 16 rfl [] (by kernel_rfl) (fun _ _ _ h => h) rfl rfl hD (fun _ hw => RunV.shr8 (a := 128#8) (n := (k + i) % 8) rfl (congrArg (fun z => some (Value.int .i64 z)) (show ((k : Int) + (i : Int)) % 8 = (((k + i) % 8 : Nat) : Int) by omega)) (by omega)) ?_
          refine SatD.take 17 rfl [] (by kernel_rfl) (fun _ _ _ h => h) rfl rfl hD (fun _ hw => RunV.xor8 rfl rfl) ?_
          first | refine SatD.take 18 rfl [] (by kernel_rfl) (fun _ _ _ h => h) rfl rfl hD (fun _ hw => RunV.indexR (by assumption) rfl rfl rfl (by omega) (by omega) rfl) ?_ | refine SatD.take 18 rfl [] (by kernel_rfl) (fun _ _ _ h => h) rfl rfl hD (fun _ hw => RunV.indexS rfl rfl rfl (by omega) (by omega) rfl) ?_
          refine SatD.effF (by kernel_rfl) rfl rfl (OpW.storeSl hsl hS (by repeat constructor) rfl rfl (by repeat constructor) rfl (by rw [List.length_map]; omega) rfl rfl ?_)
          clear hS
          intro B2 w6 hsl2 hS
          rw [← List.map_set] at hsl2
          refine SatD.done 0 (by kernel_rfl) (SatE.thenC ?_)
          clear hD
          refine SatC.weak (e' := [(0, _), (3, _), (4, _), (5, _), (6, _), (7, _), (8, _), (9, _)]) (by repeat constructor) ?_
          refine SatC.region ?_
          refine SatL.pu (RunV.assign rfl) rfl ?_
          refine SatL.nil (SatE.blk_normal (SatE.thenC ?_))
          refine SatC.region ?_
          refine SatL.pu (RunV.move rfl) rfl ?_
          refine SatL.pu (RunV.add rfl rfl (by first | exact wrapI64 (by omega) | rfl)) rfl ?_
          refine SatL.pu (RunV.assign rfl) rfl ?_
          refine SatL.nil ?_
          refine SatE.again ((i + 1, u, B2, c1.set (((k : Int) + (i : Int)) / 8).toNat (y ^^^ (128#8 >>> ((k + i) % 8))), true)) ?_ (by first | omega | (dsimp only; omega)) (by repeat constructor)
          have e : (((k : Int) + (i : Int)) / 8).toNat = (k + i) / 8 := by omega
          rw [e] at hy
          rw [e] at hsl2 ⊢
          exact ⟨by omega, by omega, hsl2, turned_next hT (by omega) hbt hy, by rw [any_next, hbt]; simp, hS⟩
        · (try simp only [cx, ne_eq] at h4)
          try (exfalso; (first | omega | exact h4 trivial | contradiction); done)
          all_goals
          refine SatC.skip (SatE.blk_normal (SatE.thenC ?_))
          refine SatC.region ?_
          refine SatL.pu (RunV.move rfl) rfl ?_
          refine SatL.pu (RunV.add rfl rfl (by first | exact wrapI64 (by omega) | rfl)) rfl ?_
          refine SatL.pu (RunV.assign rfl) rfl ?_
          refine SatL.nil ?_
          refine SatE.again ((i + 1, u, B, c1, q)) ?_ (by first | omega | (dsimp only; omega)) (by repeat constructor)
          have hbt : m.getLsbD i = false := by
            rw [← Bool.not_eq_true, ← bit_mod]
            assumption
          exact ⟨by omega, by omega, hsl, turned_stay hT (by omega) hbt, by rw [any_next, hbt, Bool.or_false]; exact hq, hS⟩
      · (try simp only [cx, ne_eq] at h3)
        try (exfalso; (first | omega | exact h3 trivial | contradiction); done)
        all_goals
        refine SatC.exit (SatE.then_exit (SatE.then_exit (SatE.blk_exit (SatE.thenC ?_))))
        refine SatC.seq ?_
        refine SatC.weak (e' := [(4, _), (5, _), (6, _), (8, _)]) (by repeat constructor) ?_
        refine SatC.region ?_
        refine SatL.pu (RunV.move rfl) rfl ?_
        refine SatL.pu (RunV.move rfl) rfl ?_
        refine SatL.pu (RunV.assign rfl) rfl ?_
        refine SatL.pu (RunV.assign rfl) rfl ?_
        refine SatL.nil (SatE.thenC ?_)
        refine SatC.ret ?_
        refine SatE.ret2 rfl rfl rfl ?_
        exact ⟨u, B, c1, q, rfl, hsl, hS.sel (by repeat constructor), k, i, m, hki, hi, hT, hq⟩
    · (try simp only [cx, ne_eq] at h2)
      try (exfalso; (first | omega | exact h2 trivial | contradiction); done)
      all_goals
      refine SatL.guard_n rfl rfl rfl rfl ?_
      refine SatL.guard_n rfl rfl rfl rfl ?_
      refine SatL.guard_n rfl rfl rfl rfl ?_
      refine SatL.guard_n rfl rfl rfl rfl ?_
      refine SatL.guard_n rfl rfl rfl rfl ?_
      refine SatL.guard_n rfl rfl rfl rfl ?_
      refine SatL.pu (RunV.pick_f rfl rfl) rfl ?_
      refine SatL.nil (SatE.thenC ?_)
      refine SatC.cond_f rfl ?_
      refine SatC.exit (SatE.then_exit (SatE.then_exit (SatE.blk_exit (SatE.thenC ?_))))
      refine SatC.seq ?_
      refine SatC.weak (e' := [(4, _), (5, _), (6, _), (8, _)]) (by repeat constructor) ?_
      refine SatC.region ?_
      refine SatL.pu (RunV.move rfl) rfl ?_
      refine SatL.pu (RunV.move rfl) rfl ?_
      refine SatL.pu (RunV.assign rfl) rfl ?_
      refine SatL.pu (RunV.assign rfl) rfl ?_
      refine SatL.nil (SatE.thenC ?_)
      refine SatC.ret ?_
      refine SatE.ret2 rfl rfl rfl ?_
      exact ⟨u, B, c1, q, rfl, hsl, hS.sel (by repeat constructor), k, i, m, hki, hi, hT, hq⟩
end Go.Proofs.Ytpajeienbdnkfaa
