/- The sort's pivots and its breaking of patterns, over own rows. -/
import Derived.Test.YtogohendjjgbiaaIe
import Derived.Test.YtogohendjjgbiaaLy
import Derived.Test.YtogohendjjgbiaaK31
set_option linter.unusedSimpArgs false
set_option linter.unusedVariables false
set_option maxRecDepth 100000
set_option maxHeartbeats 4000000
namespace Go.Proofs.Ytogohendjjgbiaa
open Go.RowKit Go.Sort Go.Shelf
section
variable {P : Program} {N : Nat} {env : Env} {w : World} {dd : Option Nat} {ty : TypeId} {pos : String} {af : Array Edge} {g : Option (Nat × Bool)} {t t2 : TypeId} {x y : Operand}
theorem wrapU_range (n : Int) : 0 ≤ IntKind.u64.wrap n ∧ IntKind.u64.wrap n < 18446744073709551616 := by
  simp [IntKind.wrap, IntKind.bits, IntKind.signed]
  omega
def shlU (a : Int) (n : Nat) : Int := IntKind.u64.wrap (a * 2 ^ n)
def xorU (a b : Int) : Int := IntKind.u64.wrap ((BitVec.ofInt IntKind.u64.bits a ^^^ BitVec.ofInt IntKind.u64.bits b).toNat : Int)
theorem RunV.shlU {k' : IntKind} {a q : Int} {n : Nat} (hx : evO env x = some (.int .u64 a)) (hy : evO env y = some (.int k' q)) (hq : q = (n : Int)) (hn : n ≤ 63) : RunV P N env w ⟨dd, .binOp .shl t x y t2, ty, pos, af, g⟩ (.int .u64 (shlU a n)) :=
  RunV.bin hx (hq ▸ hy) run_guardInt (by
    have h0 : ¬ (n : Int) < 0 := by omega
    have h1 : min (n : Int).toNat IntKind.u64.bits = n := by
      have : IntKind.u64.bits = 64 := rfl
      rw [this]
      omega
    simp only [binOp, Op.shift, if_neg h0, h1, Ytogohendjjgbiaa.shlU]
    rfl)
theorem RunV.shrU {k' : IntKind} {a q : Int} {n : Nat} (hx : evO env x = some (.int .u64 a)) (hy : evO env y = some (.int k' q)) (hq : q = (n : Int)) (hn : n ≤ 63) : RunV P N env w ⟨dd, .binOp .shr t x y t2, ty, pos, af, g⟩ (.int .u64 (a.fdiv (2 ^ n))) :=
  RunV.bin hx (hq ▸ hy) run_guardInt (by
    have h0 : ¬ (n : Int) < 0 := by omega
    have h1 : min (n : Int).toNat IntKind.u64.bits = n := by
      have : IntKind.u64.bits = 64 := rfl
      rw [this]
      omega
    simp only [binOp, Op.shift, if_neg h0, h1]
    rfl)
theorem RunV.xorU {a b : Int} (hx : evO env x = some (.int .u64 a)) (hy : evO env y = some (.int .u64 b)) : RunV P N env w ⟨dd, .binOp .xor t x y t2, ty, pos, af, g⟩ (.int .u64 (xorU a b)) :=
  RunV.bin hx hy run_guardInt (by
    simp only [binOp, Op.intBits, Ytogohendjjgbiaa.xorU]
    rfl)
theorem RunV.andU {a q : Int} {m n r : Nat} (hx : evO env x = some (.int .u64 a)) (ha : a = (m : Int)) (hy : evO env y = some (.int .u64 q)) (hq : q = ((2 ^ n - 1 : Nat) : Int)) (hm : m < 18446744073709551616) (hn : n ≤ 62) (hr : m % 2 ^ n = r) : RunV P N env w ⟨dd, .binOp .and t x y t2, ty, pos, af, g⟩ (.int .u64 (r : Int)) :=
  RunV.bin (ha ▸ hx) (hq ▸ hy) run_guardInt (by
    subst hr
    have hp : 2 ^ n ≤ 2 ^ 62 := Nat.pow_le_pow_right (by decide) hn
    have hp0 : 0 < 2 ^ n := Nat.pow_pos (by decide)
    have h1 : BitVec.ofInt IntKind.u64.bits (m : Int) = BitVec.ofNat 64 m := BitVec.ofInt_natCast 64 m
    have h2 : BitVec.ofInt IntKind.u64.bits ((2 ^ n - 1 : Nat) : Int) = BitVec.ofNat 64 (2 ^ n - 1) := BitVec.ofInt_natCast 64 (2 ^ n - 1)
    have h3 : (BitVec.ofNat 64 m &&& BitVec.ofNat 64 (2 ^ n - 1)).toNat = m % 2 ^ n := by
      rw [BitVec.toNat_and, BitVec.toNat_ofNat, BitVec.toNat_ofNat, Nat.mod_eq_of_lt (by omega : m < 2 ^ 64), Nat.mod_eq_of_lt (by omega : 2 ^ n - 1 < 2 ^ 64)]
      exact Nat.and_two_pow_sub_one_eq_mod m n
    simp only [binOp, Op.intBits, h1, h2]
    have h5 : m % 2 ^ n ≤ m := Nat.mod_le _ _
    have h4 : IntKind.u64.wrap ((m % 2 ^ n : Nat) : Int) = ((m % 2 ^ n : Nat) : Int) := wrapU64 (by omega)
    show (pure (Value.int .u64 (IntKind.u64.wrap ((BitVec.ofNat 64 m &&& BitVec.ofNat 64 (2 ^ n - 1)).toNat : Int))) : Sem Value).run P w = _
    rw [h3, h4]
    rfl)
end
section
variable {bl lf sf n : Nat} {lc sc : List Value} {v : Value} {B : List (Nat × Obj)} {d : Array Itn} {w : World}
theorem next_any (bx : Nat) (m : Int) (hown : Own w [(bx, C 131 [.int .u64 m])]) : Ret Try.prog 96 #[.pointer (some ⟨bx, 0, none⟩)] w fun u w' => ∃ r : Nat, r < 18446744073709551616 ∧ u = .int .u64 (r : Int) ∧ St w [bx] [(bx, C 131 [.int .u64 (r : Int)])] w' := by
  have hS := St.init hown
  refine Ret.enter Try.func96 Try.ntmps96 rfl rfl ?_
  simp only [argEnv, Nat.reduceAdd]
  refine SatC.seq ?_
  refine SatC.region ?_
  refine SatL.pu (RunV.assign rfl) rfl ?_
  refine SatL.nil (SatE.thenC ?_)
  refine SatC.seq ?_
  refine SatC.drawnT 9 hS (hS) (by kernel_rfl) ?_
  clear hS
  intro w1 hh hS hD
  refine SatD.tk 0 rfl hD (fun _ hw => RunV.move rfl) ?_
  first | refine SatD.tk 1 rfl hD (fun _ hw => RunV.nil_ptr rfl) ?_ | refine SatD.tk 1 rfl hD (fun _ hw => RunV.nil_func rfl) ?_ | refine SatD.tk 1 rfl hD (fun _ hw => RunV.nil_yield rfl) ?_
  refine SatD.tk 2 rfl hD (fun _ hw => RunV.load1 hw rfl rfl (by repeat constructor) rfl) ?_
  refine SatD.tk 3 rfl hD (fun _ hw => RunV.move rfl) ?_
  first | refine SatD.tk 4 rfl hD (fun _ hw => RunV.nil_ptr rfl) ?_ | refine SatD.tk 4 rfl hD (fun _ hw => RunV.nil_func rfl) ?_ | refine SatD.tk 4 rfl hD (fun _ hw => RunV.nil_yield rfl) ?_
  refine SatD.tk 5 rfl hD (fun _ hw => RunV.load1 hw rfl rfl (by repeat constructor) rfl) ?_
  refine SatD.tk 6 rfl hD (fun _ hw => RunV.shlU (n := 13) rfl rfl rfl (by decide)) ?_
  refine SatD.tk 7 rfl hD (fun _ hw => RunV.xorU rfl rfl) ?_
  first | refine SatD.tk 8 rfl hD (fun _ hw => RunV.nil_ptr rfl) ?_ | refine SatD.tk 8 rfl hD (fun _ hw => RunV.nil_func rfl) ?_ | refine SatD.tk 8 rfl hD (fun _ hw => RunV.nil_yield rfl) ?_
  refine SatD.effF (by kernel_rfl) rfl rfl (OpW.store hS rfl rfl (by repeat constructor) (by repeat constructor) (by repeat constructor) rfl rfl ?_)
  clear hS
  intro w2 hS
  refine SatD.done 0 (by kernel_rfl) (SatE.thenC ?_)
  clear hD
  refine SatC.seq ?_
  refine SatC.drawnT 9 hS (hS) (by kernel_rfl) ?_
  clear hS
  intro w3 hh hS hD
  refine SatD.tk 0 rfl hD (fun _ hw => RunV.move rfl) ?_
  first | refine SatD.tk 1 rfl hD (fun _ hw => RunV.nil_ptr rfl) ?_ | refine SatD.tk 1 rfl hD (fun _ hw => RunV.nil_func rfl) ?_ | refine SatD.tk 1 rfl hD (fun _ hw => RunV.nil_yield rfl) ?_
  refine SatD.tk 2 rfl hD (fun _ hw => RunV.load1 hw rfl rfl (by repeat constructor) rfl) ?_
  refine SatD.tk 3 rfl hD (fun _ hw => RunV.move rfl) ?_
  first | refine SatD.tk 4 rfl hD (fun _ hw => RunV.nil_ptr rfl) ?_ | refine SatD.tk 4 rfl hD (fun _ hw => RunV.nil_func rfl) ?_ | refine SatD.tk 4 rfl hD (fun _ hw => RunV.nil_yield rfl) ?_
  refine SatD.tk 5 rfl hD (fun _ hw => RunV.load1 hw rfl rfl (by repeat constructor) rfl) ?_
  refine SatD.tk 6 rfl hD (fun _ hw => RunV.shrU (n := 7) rfl rfl rfl (by decide)) ?_
  refine SatD.tk 7 rfl hD (fun _ hw => RunV.xorU rfl rfl) ?_
  first | refine SatD.tk 8 rfl hD (fun _ hw => RunV.nil_ptr rfl) ?_ | refine SatD.tk 8 rfl hD (fun _ hw => RunV.nil_func rfl) ?_ | refine SatD.tk 8 rfl hD (fun _ hw => RunV.nil_yield rfl) ?_
  refine SatD.effF (by kernel_rfl) rfl rfl (OpW.store hS rfl rfl (by repeat constructor) (by repeat constructor) (by repeat constructor) rfl rfl ?_)
  clear hS
  intro w4 hS
  refine SatD.done 0 (by kernel_rfl) (SatE.thenC ?_)
  clear hD
  refine SatC.seq ?_
  refine SatC.weak (e' := [(0, _), (2, _)]) (by repeat constructor) ?_
  refine SatC.drawnT 9 hS (hS) (by kernel_rfl) ?_
  clear hS
  intro w5 hh hS hD
  refine SatD.tk 0 rfl hD (fun _ hw => RunV.move rfl) ?_
  first | refine SatD.tk 1 rfl hD (fun _ hw => RunV.nil_ptr rfl) ?_ | refine SatD.tk 1 rfl hD (fun _ hw => RunV.nil_func rfl) ?_ | refine SatD.tk 1 rfl hD (fun _ hw => RunV.nil_yield rfl) ?_
  refine SatD.tk 2 rfl hD (fun _ hw => RunV.load1 hw rfl rfl (by repeat constructor) rfl) ?_
  refine SatD.tk 3 rfl hD (fun _ hw => RunV.move rfl) ?_
  first | refine SatD.tk 4 rfl hD (fun _ hw => RunV.nil_ptr rfl) ?_ | refine SatD.tk 4 rfl hD (fun _ hw => RunV.nil_func rfl) ?_ | refine SatD.tk 4 rfl hD (fun _ hw => RunV.nil_yield rfl) ?_
  refine SatD.tk 5 rfl hD (fun _ hw => RunV.load1 hw rfl rfl (by repeat constructor) rfl) ?_
  refine SatD.tk 6 rfl hD (fun _ hw => RunV.shlU (n := 17) rfl rfl rfl (by decide)) ?_
  refine SatD.tk 7 rfl hD (fun _ hw => RunV.xorU rfl rfl) ?_
  first | refine SatD.tk 8 rfl hD (fun _ hw => RunV.nil_ptr rfl) ?_ | refine SatD.tk 8 rfl hD (fun _ hw => RunV.nil_func rfl) ?_ | refine SatD.tk 8 rfl hD (fun _ hw => RunV.nil_yield rfl) ?_
  refine SatD.effF (by kernel_rfl) rfl rfl (OpW.store hS rfl rfl (by repeat constructor) (by repeat constructor) (by repeat constructor) rfl rfl ?_)
  clear hS
  intro w6 hS
  refine SatD.done 0 (by kernel_rfl) (SatE.thenC ?_)
  clear hD
  refine SatC.seq ?_
  refine SatC.region ?_
  refine SatL.pu (RunV.move rfl) rfl ?_
  first | refine SatL.pu (RunV.nil_ptr rfl) rfl ?_ | refine SatL.pu (RunV.nil_func rfl) rfl ?_ | refine SatL.pu (RunV.nil_yield rfl) rfl ?_
  refine SatL.pu (RunV.load1 hS rfl rfl (by repeat constructor) rfl) rfl ?_
  refine SatL.pu (RunV.assign rfl) rfl ?_
  refine SatL.nil (SatE.thenC ?_)
  refine SatC.ret ?_
  refine SatE.ret1 rfl rfl ?_
  have hr := wrapU_range ((BitVec.ofInt IntKind.u64.bits (xorU (xorU m (shlU m 13)) ((xorU m (shlU m 13)).fdiv (2 ^ 7))) ^^^ BitVec.ofInt IntKind.u64.bits (shlU (xorU (xorU m (shlU m 13)) ((xorU m (shlU m 13)).fdiv (2 ^ 7))) 17)).toNat : Int)
  obtain ⟨r, hr2⟩ := Int.eq_ofNat_of_zero_le hr.1
  have e : xorU (xorU (xorU m (shlU m 13)) ((xorU m (shlU m 13)).fdiv (2 ^ 7))) (shlU (xorU (xorU m (shlU m 13)) ((xorU m (shlU m 13)).fdiv (2 ^ 7))) 17) = (r : Int) := hr2
  refine ⟨r, by omega, congrArg _ e, ?_⟩
  rw [← e]
  exact hS
theorem choose_any (a b : Nat) (hsw : SW lf sf lc sc bl v n) (hsl : Rw v d B) (hn : d.size = n) (ha : a + 12 < b) (hb : b ≤ n) (hn2 : n ≤ 1000) (hown : Own w ((bl, C 22 [v]) :: B)) :
    Ret Try.prog 87 #[.agg #[fnV lf lc, fnV sf sc], .int .i64 (a : Int), .int .i64 (b : Int)] w fun u w' => ∃ (x : Nat) (h : Int), u = .tuple #[.int .i64 (x : Int), .int .i64 h] ∧ a ≤ x ∧ x < b ∧ St w [] [] w' := by
  have hS := St.init hown
  generalize hX : ((bl, C 22 [v]) :: B).map Prod.fst = X at hS
  refine Ret.enter Try.func87 Try.ntmps87 rfl rfl ?_
  simp only [argEnv, Nat.reduceAdd]
  refine SatC.seq ?_
  refine SatC.region ?_
  refine SatL.op rfl (OpW.box hS rfl rfl (by repeat constructor) ?_)
  clear hS
  intro b3 w1 _ hS
  refine SatL.pu (RunV.assign rfl) rfl ?_
  refine SatL.pu (RunV.assign rfl) rfl ?_
  refine SatL.nil (SatE.thenC ?_)
  refine SatC.seq ?_
  refine SatC.region ?_
  refine SatL.pu (RunV.move rfl) rfl ?_
  refine SatL.pu (RunV.move rfl) rfl ?_
  refine SatL.pu (RunV.sub (r := ((b - a : Nat) : Int)) rfl rfl (by rw [wrapI64 (by omega)]; omega)) rfl ?_
  refine SatL.pu (RunV.assign rfl) rfl ?_
  refine SatL.nil (SatE.thenC ?_)
  refine SatC.seq ?_
  refine SatC.region ?_
  refine SatL.op rfl (OpW.alloc hS rfl rfl (by repeat constructor) ?_)
  clear hS
  intro b9 w2 _ hS
  refine SatL.nil (SatE.thenC ?_)
  refine SatC.seq ?_
  refine SatC.region ?_
  refine SatL.pu (RunV.move rfl) rfl ?_
  refine SatL.pu (RunV.move rfl) rfl ?_
  refine SatL.pu (RunV.quo (r := (((b - a) / 4 : Nat) : Int)) rfl rfl (by decide) (by rw [show ((b - a : Nat) : Int).tdiv 4 = (((b - a) / 4 : Nat) : Int) from rfl, wrapI64 (by omega)])) rfl ?_
  refine SatL.pu (RunV.mul rfl rfl (by first | exact wrapI64 (by omega) | rfl)) rfl ?_
  refine SatL.pu (RunV.add (r := ((a + (b - a) / 4 : Nat) : Int)) rfl rfl (by rw [wrapI64 (by omega)]; omega)) rfl ?_
  refine SatL.pu (RunV.assign rfl) rfl ?_
  refine SatL.nil (SatE.thenC ?_)
  refine SatC.seq ?_
  refine SatC.region ?_
  refine SatL.pu (RunV.move rfl) rfl ?_
  refine SatL.pu (RunV.move rfl) rfl ?_
  refine SatL.pu (RunV.quo (r := (((b - a) / 4 : Nat) : Int)) rfl rfl (by decide) (by rw [show ((b - a : Nat) : Int).tdiv 4 = (((b - a) / 4 : Nat) : Int) from rfl, wrapI64 (by omega)])) rfl ?_
  refine SatL.pu (RunV.mul rfl rfl (by first | exact wrapI64 (by omega) | rfl)) rfl ?_
  refine SatL.pu (RunV.add (r := ((a + (b - a) / 4 * 2 : Nat) : Int)) rfl rfl (by rw [wrapI64 (by omega)]; omega)) rfl ?_
  refine SatL.pu (RunV.assign rfl) rfl ?_
  refine SatL.nil (SatE.thenC ?_)
  refine SatC.seq ?_
  refine SatC.weak (e' := [(1, _), (3, _), (6, _), (7, _), (8, _), (9, _), (10, _), (11, _)]) (by repeat constructor) ?_
  refine SatC.region ?_
  refine SatL.pu (RunV.move rfl) rfl ?_
  refine SatL.pu (RunV.move rfl) rfl ?_
  refine SatL.pu (RunV.quo (r := (((b - a) / 4 : Nat) : Int)) rfl rfl (by decide) (by rw [show ((b - a : Nat) : Int).tdiv 4 = (((b - a) / 4 : Nat) : Int) from rfl, wrapI64 (by omega)])) rfl ?_
  refine SatL.pu (RunV.mul rfl rfl (by first | exact wrapI64 (by omega) | rfl)) rfl ?_
  refine SatL.pu (RunV.add (r := ((a + (b - a) / 4 * 3 : Nat) : Int)) rfl rfl (by rw [wrapI64 (by omega)]; omega)) rfl ?_
  refine SatL.pu (RunV.assign rfl) rfl ?_
  refine SatL.nil (SatE.thenC ?_)
  refine SatC.seq ?_
  refine SatC.seq ?_
  refine SatC.region ?_
  refine SatL.pu (RunV.move rfl) rfl ?_
  refine SatL.pu (RunV.geq rfl rfl) rfl ?_
  refine SatL.nil (SatE.thenC ?_)
  refine SatC.cond rfl (fun h1 => ?_) (fun h1 => ?_)
  · (try simp only [cx, ne_eq] at h1)
    try (exfalso; (first | omega | exact h1 trivial | contradiction | (first | omega | (simp at h1; done))); done)
    all_goals
    refine SatC.seq ?_
    refine SatC.seq ?_
    refine SatC.region ?_
    refine SatL.pu (RunV.move rfl) rfl ?_
    refine SatL.pu (RunV.geq rfl rfl) rfl ?_
    refine SatL.nil (SatE.thenC ?_)
    refine SatC.cond rfl (fun h2 => ?_) (fun h2 => ?_)
    · (try simp only [cx, ne_eq] at h2)
      try (exfalso; (first | omega | exact h2 trivial | contradiction | (first | omega | (simp at h2; done))); done)
      all_goals
      refine SatC.seq ?_
      refine SatC.region ?_
      refine SatL.pu (RunV.loadN hS rfl rfl (by repeat constructor) (by repeat constructor)) rfl ?_
      refine SatL.pu (RunV.move rfl) rfl ?_
      refine SatL.op rfl (OpW.enter rfl rfl rfl (rfl) (adj_any (a + (b - a) / 4) b9 0 (by omega) hsw hsl hn hn2 (by omega) (hS.ownT (A := (b9, C 3 [.int .i64 0]) :: (bl, C 22 [v]) :: B) (by repeat constructor))) ?_)
      rintro r3 w3 ⟨x1, s1, rfl, hx1, hs1, hs1', h⟩
      replace hS := hS.callT (A := [(b9, C 3 [.int .i64 0])]) (by repeat constructor) h
      refine SatL.pu (RunV.assign rfl) rfl ?_
      refine SatL.nil (SatE.thenC ?_)
      refine SatC.seq ?_
      refine SatC.weak (e' := [(3, _), (6, _), (7, _), (9, _), (10, _), (11, _), (12, _)]) (by repeat constructor) ?_
      refine SatC.region ?_
      refine SatL.pu (RunV.loadN hS rfl rfl (by repeat constructor) (by repeat constructor)) rfl ?_
      refine SatL.pu (RunV.move rfl) rfl ?_
      refine SatL.op rfl (OpW.enter rfl rfl rfl (rfl) (adj_any (a + (b - a) / 4 * 2) b9 s1 (by omega) hsw hsl hn hn2 (by omega) (hS.ownT (A := (b9, C 3 [.int .i64 s1]) :: (bl, C 22 [v]) :: B) (by repeat constructor))) ?_)
      rintro r4 w4 ⟨x2, s2, rfl, hx2, hs2, hs2', h⟩
      replace hS := hS.callT (A := [(b9, C 3 [.int .i64 s1])]) (by repeat constructor) h
      refine SatL.pu (RunV.assign rfl) rfl ?_
      refine SatL.nil (SatE.thenC ?_)
      refine SatC.region ?_
      refine SatL.pu (RunV.loadN hS rfl rfl (by repeat constructor) (by repeat constructor)) rfl ?_
      refine SatL.pu (RunV.move rfl) rfl ?_
      refine SatL.op rfl (OpW.enter rfl rfl rfl (rfl) (adj_any (a + (b - a) / 4 * 3) b9 s2 (by omega) hsw hsl hn hn2 (by omega) (hS.ownT (A := (b9, C 3 [.int .i64 s2]) :: (bl, C 22 [v]) :: B) (by repeat constructor))) ?_)
      rintro r5 w5 ⟨x3, s3, rfl, hx3, hs3, hs3', h⟩
      replace hS := hS.callT (A := [(b9, C 3 [.int .i64 s2])]) (by repeat constructor) h
      refine SatL.pu (RunV.assign rfl) rfl ?_
      refine SatL.nil (SatE.thenC ?_)
      refine SatC.region ?_
      refine SatL.pu (RunV.loadN hS rfl rfl (by repeat constructor) (by repeat constructor)) rfl ?_
      refine SatL.pu (RunV.move rfl) rfl ?_
      refine SatL.pu (RunV.move rfl) rfl ?_
      refine SatL.pu (RunV.move rfl) rfl ?_
      refine SatL.op rfl (OpW.enter rfl rfl rfl (rfl) (med_any x1 x2 x3 b9 s3 (by omega) hsw hsl hn (by omega) (by omega) (by omega) (hS.ownT (A := (b9, C 3 [.int .i64 s3]) :: (bl, C 22 [v]) :: B) (by repeat constructor))) ?_)
      rintro r6 w6 ⟨x4, s4, rfl, hx4, hs4, hs4', h⟩
      replace hS := hS.callT (A := [(b9, C 3 [.int .i64 s3])]) (by repeat constructor) h
      refine SatL.pu (RunV.assign rfl) rfl ?_
      refine SatL.nil (SatE.thenC ?_)
      refine SatC.seq ?_
      refine SatC.weak (e' := [(6, _), (7, _), (9, _), (11, _)]) (by repeat constructor) ?_
      refine SatC.region ?_
      refine SatL.pu (RunV.load1 hS rfl rfl (by repeat constructor) rfl) rfl ?_
      refine SatL.nil (SatE.thenC ?_)
      refine SatC.block ?_
      refine SatC.seq ?_
      refine SatC.region ?_
      refine SatL.pu (RunV.eql rfl rfl) rfl ?_
      refine SatL.pu (RunV.assign rfl) rfl ?_
      refine SatL.nil (SatE.thenC ?_)
      refine SatC.cond rfl (fun h3 => ?_) (fun h3 => ?_)
      · (try simp only [cx, ne_eq] at h3)
        try (exfalso; (first | omega | exact h3 trivial | contradiction | (first | omega | (simp at h3; done))); done)
        all_goals
        refine SatC.seq ?_
        refine SatC.region ?_
        refine SatL.pu (RunV.move rfl) rfl ?_
        refine SatL.pu (RunV.assign rfl) rfl ?_
        refine SatL.pu (RunV.assign rfl) rfl ?_
        refine SatL.nil (SatE.thenC ?_)
        refine SatC.ret (SatE.blk_ret ?_)
        refine SatE.ret2 rfl rfl rfl ?_
        exact ⟨x4, _, rfl, by omega, by omega, St.roX (Y := []) hown hX.symm (hS.sel (R := ((bl, C 22 [v]) :: B) ++ []) (by repeat constructor)) .here⟩
      · (try simp only [cx, ne_eq] at h3)
        try (exfalso; (first | omega | exact h3 trivial | contradiction | (first | omega | (simp at h3; done))); done)
        all_goals
        refine SatC.seq ?_
        refine SatC.region ?_
        refine SatL.pu (RunV.eql rfl rfl) rfl ?_
        refine SatL.pu (RunV.assign rfl) rfl ?_
        refine SatL.nil (SatE.thenC ?_)
        refine SatC.cond rfl (fun h4 => ?_) (fun h4 => ?_)
        · (try simp only [cx, ne_eq] at h4)
          try (exfalso; (first | omega | exact h4 trivial | contradiction | (first | omega | (simp at h4; done))); done)
          all_goals
          refine SatC.seq ?_
          refine SatC.region ?_
          refine SatL.pu (RunV.move rfl) rfl ?_
          refine SatL.pu (RunV.assign rfl) rfl ?_
          refine SatL.pu (RunV.assign rfl) rfl ?_
          refine SatL.nil (SatE.thenC ?_)
          refine SatC.ret (SatE.blk_ret ?_)
          refine SatE.ret2 rfl rfl rfl ?_
          exact ⟨x4, _, rfl, by omega, by omega, St.roX (Y := []) hown hX.symm (hS.sel (R := ((bl, C 22 [v]) :: B) ++ []) (by repeat constructor)) .here⟩
        · (try simp only [cx, ne_eq] at h4)
          try (exfalso; (first | omega | exact h4 trivial | contradiction | (first | omega | (simp at h4; done))); done)
          all_goals
          refine SatC.seq ?_
          refine SatC.region ?_
          refine SatL.pu (RunV.move rfl) rfl ?_
          refine SatL.pu (RunV.assign rfl) rfl ?_
          refine SatL.pu (RunV.assign rfl) rfl ?_
          refine SatL.nil (SatE.thenC ?_)
          refine SatC.ret (SatE.blk_ret ?_)
          refine SatE.ret2 rfl rfl rfl ?_
          exact ⟨x4, _, rfl, by omega, by omega, St.roX (Y := []) hown hX.symm (hS.sel (R := ((bl, C 22 [v]) :: B) ++ []) (by repeat constructor)) .here⟩
    · (try simp only [cx, ne_eq] at h2)
      try (exfalso; (first | omega | exact h2 trivial | contradiction | (first | omega | (simp at h2; done))); done)
      all_goals
      refine SatC.skip (SatE.thenC ?_)
      refine SatC.region ?_
      refine SatL.pu (RunV.loadN hS rfl rfl (by repeat constructor) (by repeat constructor)) rfl ?_
      refine SatL.pu (RunV.move rfl) rfl ?_
      refine SatL.pu (RunV.move rfl) rfl ?_
      refine SatL.pu (RunV.move rfl) rfl ?_
      refine SatL.op rfl (OpW.enter rfl rfl rfl (rfl) (med_any (a + (b - a) / 4) (a + (b - a) / 4 * 2) (a + (b - a) / 4 * 3) b9 0 (by omega) hsw hsl hn (by omega) (by omega) (by omega) (hS.ownT (A := (b9, C 3 [.int .i64 0]) :: (bl, C 22 [v]) :: B) (by repeat constructor))) ?_)
      rintro r3 w3 ⟨x4, s4, rfl, hx4, hs4, hs4', h⟩
      replace hS := hS.callT (A := [(b9, C 3 [.int .i64 0])]) (by repeat constructor) h
      refine SatL.pu (RunV.assign rfl) rfl ?_
      refine SatL.nil (SatE.thenC ?_)
      refine SatC.seq ?_
      refine SatC.weak (e' := [(6, _), (7, _), (9, _), (11, _)]) (by repeat constructor) ?_
      refine SatC.region ?_
      refine SatL.pu (RunV.load1 hS rfl rfl (by repeat constructor) rfl) rfl ?_
      refine SatL.nil (SatE.thenC ?_)
      refine SatC.block ?_
      refine SatC.seq ?_
      refine SatC.region ?_
      refine SatL.pu (RunV.eql rfl rfl) rfl ?_
      refine SatL.pu (RunV.assign rfl) rfl ?_
      refine SatL.nil (SatE.thenC ?_)
      refine SatC.cond rfl (fun h3 => ?_) (fun h3 => ?_)
      · (try simp only [cx, ne_eq] at h3)
        try (exfalso; (first | omega | exact h3 trivial | contradiction | (first | omega | (simp at h3; done))); done)
        all_goals
        refine SatC.seq ?_
        refine SatC.region ?_
        refine SatL.pu (RunV.move rfl) rfl ?_
        refine SatL.pu (RunV.assign rfl) rfl ?_
        refine SatL.pu (RunV.assign rfl) rfl ?_
        refine SatL.nil (SatE.thenC ?_)
        refine SatC.ret (SatE.blk_ret ?_)
        refine SatE.ret2 rfl rfl rfl ?_
        exact ⟨x4, _, rfl, by omega, by omega, St.roX (Y := []) hown hX.symm (hS.sel (R := ((bl, C 22 [v]) :: B) ++ []) (by repeat constructor)) .here⟩
      · (try simp only [cx, ne_eq] at h3)
        try (exfalso; (first | omega | exact h3 trivial | contradiction | (first | omega | (simp at h3; done))); done)
        all_goals
        refine SatC.seq ?_
        refine SatC.region ?_
        refine SatL.pu (RunV.eql rfl rfl) rfl ?_
        refine SatL.pu (RunV.assign rfl) rfl ?_
        refine SatL.nil (SatE.thenC ?_)
        refine SatC.cond rfl (fun h4 => ?_) (fun h4 => ?_)
        · (try simp only [cx, ne_eq] at h4)
          try (exfalso; (first | omega | exact h4 trivial | contradiction | (first | omega | (simp at h4; done))); done)
          all_goals
          refine SatC.seq ?_
          refine SatC.region ?_
          refine SatL.pu (RunV.move rfl) rfl ?_
          refine SatL.pu (RunV.assign rfl) rfl ?_
          refine SatL.pu (RunV.assign rfl) rfl ?_
          refine SatL.nil (SatE.thenC ?_)
          refine SatC.ret (SatE.blk_ret ?_)
          refine SatE.ret2 rfl rfl rfl ?_
          exact ⟨x4, _, rfl, by omega, by omega, St.roX (Y := []) hown hX.symm (hS.sel (R := ((bl, C 22 [v]) :: B) ++ []) (by repeat constructor)) .here⟩
        · (try simp only [cx, ne_eq] at h4)
          try (exfalso; (first | omega | exact h4 trivial | contradiction | (first | omega | (simp at h4; done))); done)
          all_goals
          refine SatC.seq ?_
          refine SatC.region ?_
          refine SatL.pu (RunV.move rfl) rfl ?_
          refine SatL.pu (RunV.assign rfl) rfl ?_
          refine SatL.pu (RunV.assign rfl) rfl ?_
          refine SatL.nil (SatE.thenC ?_)
          refine SatC.ret (SatE.blk_ret ?_)
          refine SatE.ret2 rfl rfl rfl ?_
          exact ⟨x4, _, rfl, by omega, by omega, St.roX (Y := []) hown hX.symm (hS.sel (R := ((bl, C 22 [v]) :: B) ++ []) (by repeat constructor)) .here⟩
  · (try simp only [cx, ne_eq] at h1)
    try (exfalso; (first | omega | exact h1 trivial | contradiction | (first | omega | (simp at h1; done))); done)
    all_goals
    refine SatC.skip (SatE.thenC ?_)
    refine SatC.seq ?_
    refine SatC.weak (e' := [(6, _), (7, _), (9, _), (11, _)]) (by repeat constructor) ?_
    refine SatC.region ?_
    refine SatL.pu (RunV.load1 hS rfl rfl (by repeat constructor) rfl) rfl ?_
    refine SatL.nil (SatE.thenC ?_)
    refine SatC.block ?_
    refine SatC.seq ?_
    refine SatC.region ?_
    refine SatL.pu (RunV.eql rfl rfl) rfl ?_
    refine SatL.pu (RunV.assign rfl) rfl ?_
    refine SatL.nil (SatE.thenC ?_)
    refine SatC.cond rfl (fun h2 => ?_) (fun h2 => ?_)
    · (try simp only [cx, ne_eq] at h2)
      try (exfalso; (first | omega | exact h2 trivial | contradiction | (first | omega | (simp at h2; done))); done)
      all_goals
      refine SatC.seq ?_
      refine SatC.region ?_
      refine SatL.pu (RunV.move rfl) rfl ?_
      refine SatL.pu (RunV.assign rfl) rfl ?_
      refine SatL.pu (RunV.assign rfl) rfl ?_
      refine SatL.nil (SatE.thenC ?_)
      refine SatC.ret (SatE.blk_ret ?_)
      refine SatE.ret2 rfl rfl rfl ?_
      exact ⟨x4, _, rfl, by omega, by omega, St.roX (Y := []) hown hX.symm (hS.sel (R := ((bl, C 22 [v]) :: B) ++ []) (by repeat constructor)) .here⟩
    · (try simp only [cx, ne_eq] at h2)
      try (exfalso; (first | omega | exact h2 trivial | contradiction | (first | omega | (simp at h2; done))); done)
      all_goals
      refine SatC.seq ?_
      refine SatC.region ?_
      refine SatL.pu (RunV.eql rfl rfl) rfl ?_
      refine SatL.pu (RunV.assign rfl) rfl ?_
      refine SatL.nil (SatE.thenC ?_)
      refine SatC.cond rfl (fun h3 => ?_) (fun h3 => ?_)
      · (try simp only [cx, ne_eq] at h3)
        try (exfalso; (first | omega | exact h3 trivial | contradiction | (first | omega | (simp at h3; done))); done)
        all_goals
        refine SatC.seq ?_
        refine SatC.region ?_
        refine SatL.pu (RunV.move rfl) rfl ?_
        refine SatL.pu (RunV.assign rfl) rfl ?_
        refine SatL.pu (RunV.assign rfl) rfl ?_
        refine SatL.nil (SatE.thenC ?_)
        refine SatC.ret (SatE.blk_ret ?_)
        refine SatE.ret2 rfl rfl rfl ?_
        exact ⟨x4, _, rfl, by omega, by omega, St.roX (Y := []) hown hX.symm (hS.sel (R := ((bl, C 22 [v]) :: B) ++ []) (by repeat constructor)) .here⟩
      · (try simp only [cx, ne_eq] at h3)
        try (exfalso; (first | omega | exact h3 trivial | contradiction | (first | omega | (simp at h3; done))); done)
        all_goals
        refine SatC.seq ?_
        refine SatC.region ?_
        refine SatL.pu (RunV.move rfl) rfl ?_
        refine SatL.pu (RunV.assign rfl) rfl ?_
        refine SatL.pu (RunV.assign rfl) rfl ?_
        refine SatL.nil (SatE.thenC ?_)
        refine SatC.ret (SatE.blk_ret ?_)
        refine SatE.ret2 rfl rfl rfl ?_
        exact ⟨x4, _, rfl, by omega, by omega, St.roX (Y := []) hown hX.symm (hS.sel (R := ((bl, C 22 [v]) :: B) ++ []) (by repeat constructor)) .here⟩
theorem bit_twice : ∀ m : Fin 1001, 0 < m.val → 2 ^ Lib.bitLen m.val ≤ 2 * m.val := by decide +kernel
theorem pow_any (m : Nat) (hm : 8 ≤ m ∧ m ≤ 1000) (w : World) : Ret Try.prog 95 #[.int .i64 (m : Int)] w fun u w' => ∃ L : Nat, L ≤ 60 ∧ 2 ^ L ≤ 2 * m ∧ u = .int .u64 ((2 ^ L : Nat) : Int) ∧ St w [] [] w' := by
  have hS := St.init0 w
  have hb := Any.bits_Len (LaysGg.n13.bits (P := Try.prog) (ρ := sl6_ren) { sl6 with }) (m : Int) w (by omega) (by omega)
  change Calls Try.prog 63 _ w _ at hb
  have hb2 : Ret Try.prog 63 #[.int .u64 (m : Int)] w fun u w' => u = .int .i64 (Lib.bitLen m : Int) ∧ St w [] [] w' := hb.mono fun e w' ⟨h1, h2⟩ => by
    subst h1 h2
    exact ⟨_, rfl, rfl, St.init0 _⟩
  have hL : Lib.bitLen m ≤ 10 := Lib.bitLen_le m 10 (by decide) (by omega)
  have hP : 2 ^ Lib.bitLen m ≤ 2 * m := bit_twice ⟨m, by omega⟩ (by dsimp only; omega)
  generalize Lib.bitLen m = L at hb2 hL hP
  refine Ret.enter Try.func95 Try.ntmps95 rfl rfl ?_
  simp only [argEnv, Nat.reduceAdd]
  refine SatC.seq ?_
  refine SatC.region ?_
  refine SatL.pu (RunV.assign rfl) rfl ?_
  refine SatL.nil (SatE.thenC ?_)
  refine SatC.seq ?_
  refine SatC.region ?_
  refine SatL.pu (RunV.move rfl) rfl ?_
  refine SatL.pu (RunV.conv rfl rfl rfl (by first | exact wrapU64 (by omega) | rfl)) rfl ?_
  refine SatL.op rfl (OpW.enter rfl rfl rfl (rfl) (hb2) ?_)
  rintro r1 w1 ⟨rfl, h⟩
  replace hS := St.callN hS h
  refine SatL.pu (RunV.conv rfl rfl rfl (by first | exact wrapU64 (by omega) | rfl)) rfl ?_
  refine SatL.pu (RunV.assign rfl) rfl ?_
  refine SatL.nil (SatE.thenC ?_)
  refine SatC.seq ?_
  refine SatC.region ?_
  refine SatL.pu (RunV.move rfl) rfl ?_
  refine SatL.pu (RunV.shlU (n := L) rfl rfl rfl (by omega)) rfl ?_
  refine SatL.pu (RunV.assign rfl) rfl ?_
  refine SatL.nil (SatE.thenC ?_)
  refine SatC.ret ?_
  refine SatE.ret1 rfl rfl ?_
  refine ⟨L, by omega, hP, ?_, hS⟩
  unfold shlU
  rw [Int.one_mul, show (2 : Int) ^ L = ((2 ^ L : Nat) : Int) from by simp]
  generalize 2 ^ L = p at hP ⊢
  rw [wrapU64 (by omega)]
theorem break_any (a b : Nat) (hsw : SW lf sf lc sc bl v n) (hsl : Rw v d B) (hn : d.size = n) (ha : a + 12 < b) (hb : b ≤ n) (hn2 : n ≤ 1000) (hown : Own w ((bl, C 22 [v]) :: B)) :
    Ret Try.prog 86 #[.agg #[fnV lf lc, fnV sf sc], .int .i64 (a : Int), .int .i64 (b : Int)] w fun u w' => ∃ d' B', PermIn a b d d' ∧ Rw v d' B' ∧ St w (((bl, C 22 [v]) :: B).map Prod.fst) ((bl, C 22 [v]) :: B') w' := by
  have hS := St.init hown
  generalize hX : ((bl, C 22 [v]) :: B).map Prod.fst = X at hS ⊢
  refine Ret.enter Try.func86 Try.ntmps86 rfl rfl ?_
  simp only [argEnv, Nat.reduceAdd]
  refine SatC.seq ?_
  refine SatC.region ?_
  refine SatL.op rfl (OpW.box hS rfl rfl (by repeat constructor) ?_)
  clear hS
  intro b3 w1 _ hS
  refine SatL.nil (SatE.thenC ?_)
  refine SatC.seq ?_
  refine SatC.region ?_
  refine SatL.pu (RunV.move rfl) rfl ?_
  refine SatL.pu (RunV.move rfl) rfl ?_
  refine SatL.pu (RunV.sub (r := ((b - a : Nat) : Int)) rfl rfl (by rw [wrapI64 (by omega)]; omega)) rfl ?_
  refine SatL.pu (RunV.assign rfl) rfl ?_
  refine SatL.nil (SatE.thenC ?_)
  refine SatC.seq ?_
  refine SatC.region ?_
  refine SatL.pu (RunV.move rfl) rfl ?_
  refine SatL.pu (RunV.geq rfl rfl) rfl ?_
  refine SatL.nil (SatE.thenC ?_)
  refine SatC.cond rfl (fun h1 => ?_) (fun h1 => ?_)
  · (try simp only [cx, ne_eq] at h1)
    try (exfalso; (first | omega | exact h1 trivial | contradiction | (first | omega | (simp at h1; done))); done)
    all_goals
    refine SatC.seq ?_
    refine SatC.region ?_
    refine SatL.pu (RunV.move rfl) rfl ?_
    refine SatL.pu (RunV.conv rfl rfl rfl (by first | exact wrapU64 (by omega) | rfl)) rfl ?_
    refine SatL.op rfl (OpW.alloc hS rfl rfl (by repeat constructor) ?_)
    clear hS
    intro b7 w2 _ hS
    refine SatL.op rfl (OpW.store hS rfl rfl (by repeat constructor) (by repeat constructor) (by repeat constructor) rfl rfl ?_)
    clear hS
    intro w3 hS
    refine SatL.nil (SatE.thenC ?_)
    refine SatC.seq ?_
    refine SatC.region ?_
    refine SatL.pu (RunV.move rfl) rfl ?_
    refine SatL.op rfl (OpW.enter rfl rfl rfl (rfl) (pow_any (b - a) (by omega) _) ?_)
    rintro r4 w4 ⟨L, hL, hP, rfl, h⟩
    replace hS := St.callN hS h
    refine SatL.pu (RunV.assign rfl) rfl ?_
    refine SatL.nil (SatE.thenC ?_)
    refine SatC.seq ?_
    refine SatC.region ?_
    refine SatL.pu (RunV.move rfl) rfl ?_
    refine SatL.pu (RunV.move rfl) rfl ?_
    refine SatL.pu (RunV.quo (r := (((b - a) / 4 : Nat) : Int)) rfl rfl (by decide) (by rw [show ((b - a : Nat) : Int).tdiv 4 = (((b - a) / 4 : Nat) : Int) from rfl, wrapI64 (by omega)])) rfl ?_
    refine SatL.pu (RunV.mul rfl rfl (by first | exact wrapI64 (by omega) | rfl)) rfl ?_
    refine SatL.pu (RunV.add rfl rfl (by first | exact wrapI64 (by omega) | rfl)) rfl ?_
    refine SatL.pu (RunV.sub (r := ((a + (b - a) / 4 * 2 - 1 : Nat) : Int)) rfl rfl (by rw [wrapI64 (by omega)]; omega)) rfl ?_
    refine SatL.pu (RunV.assign rfl) rfl ?_
    refine SatL.nil (SatE.thenC ?_)
    refine SatC.block ?_
    refine SatC.loopK (G := Nat × Int × Array Itn × List (Nat × Obj)) (V := fun ⟨i, s, d1, B1⟩ => [(9, .int .i64 (i : Int))]) (Cn := [(1, _), (3, _), (6, _), (7, _), (8, _)]) (I := fun ⟨i, s, d1, B1⟩ w' => a + (b - a) / 4 * 2 - 1 ≤ i ∧ i ≤ a + (b - a) / 4 * 2 + 2 ∧ PermIn a b d d1 ∧ d1.size = n ∧ Rw v d1 B1 ∧ St w X ((b7, C 131 [.int .u64 s]) :: (b3, C 107 [fnV lf lc, fnV sf sc]) :: (bl, C 22 [v]) :: B1) w') (μ := fun ⟨i, s, d1, B1⟩ => a + (b - a) / 4 * 2 + 2 - i) (a + (b - a) / 4 * 2 - 1, ((b - a : Nat) : Int), d, B) ?_ (by repeat constructor) ?_
    · exact ⟨by omega, by omega, permIn_refl _ _ _, hn, hsl, hS⟩
    clear hS
    rintro ⟨i, s, d1, B1⟩ w5 ⟨hi, hi2, hp1, hn1, hsl1, hS⟩
    refine SatC.weak (e' := [(1, _), (3, _), (6, _), (7, _), (8, _), (9, _)]) (by repeat constructor) ?_
    refine SatC.seq ?_
    refine SatC.seq ?_
    refine SatC.region ?_
    refine SatL.pu (RunV.move rfl) rfl ?_
    refine SatL.pu (RunV.move rfl) rfl ?_
    refine SatL.pu (RunV.move rfl) rfl ?_
    refine SatL.pu (RunV.quo (r := (((b - a) / 4 : Nat) : Int)) rfl rfl (by decide) (by rw [show ((b - a : Nat) : Int).tdiv 4 = (((b - a) / 4 : Nat) : Int) from rfl, wrapI64 (by omega)])) rfl ?_
    refine SatL.pu (RunV.mul rfl rfl (by first | exact wrapI64 (by omega) | rfl)) rfl ?_
    refine SatL.pu (RunV.add rfl rfl (by first | exact wrapI64 (by omega) | rfl)) rfl ?_
    refine SatL.pu (RunV.add rfl rfl (by first | exact wrapI64 (by omega) | rfl)) rfl ?_
    refine SatL.pu (RunV.leq rfl rfl) rfl ?_
    refine SatL.nil (SatE.thenC ?_)
    refine SatC.cond rfl (fun h2 => ?_) (fun h2 => ?_)
    · (try simp only [cx, ne_eq] at h2)
      try (exfalso; (first | omega | exact h2 trivial | contradiction | (first | omega | (simp at h2; done))); done)
      all_goals
      refine SatC.skip (SatE.thenC ?_)
      refine SatC.seq ?_
      refine SatC.block ?_
      refine SatC.seq ?_
      refine SatC.region ?_
      refine SatL.op rfl (OpW.enter rfl rfl rfl (rfl) (next_any b7 s (hS.ownT (A := [(b7, C 131 [.int .u64 s])]) (by repeat constructor))) ?_)
      rintro r6 w6 ⟨m, hm, rfl, h⟩
      replace hS := hS.callT (A := [(b7, C 131 [.int .u64 s])]) (by repeat constructor) h
      obtain ⟨q, hq⟩ : ∃ q, m % 2 ^ L = q := ⟨_, rfl⟩
      have hq2 : q < 2 ^ L := by rw [← hq]; exact Nat.mod_lt _ (Nat.pow_pos (by decide))
      obtain ⟨p, hp⟩ : ∃ p, 2 ^ L = p := ⟨_, rfl⟩
      have hp0 : 0 < p := by rw [← hp]; exact Nat.pow_pos (by decide)
      rw [hp] at hq2 hP
      refine SatL.pu (RunV.move rfl) rfl ?_
      refine SatL.pu (RunV.sub rfl rfl (by first | exact wrapU64 (by omega) | rfl)) rfl ?_
      refine SatL.pu (RunV.andU (n := L) rfl rfl rfl (by rw [hp]; omega) hm (by omega) hq) rfl ?_
      refine SatL.pu (RunV.conv rfl rfl rfl (by first | exact wrapI64 (by omega) | rfl)) rfl ?_
      refine SatL.pu (RunV.assign rfl) rfl ?_
      refine SatL.nil (SatE.thenC ?_)
      refine SatC.seq ?_
      refine SatC.seq ?_
      refine SatC.weak (e' := [(1, _), (3, _), (6, _), (7, _), (8, _), (9, _), (10, _)]) (by repeat constructor) ?_
      refine SatC.region ?_
      refine SatL.pu (RunV.move rfl) rfl ?_
      refine SatL.pu (RunV.move rfl) rfl ?_
      refine SatL.pu (RunV.geq rfl rfl) rfl ?_
      refine SatL.nil (SatE.thenC ?_)
      refine SatC.cond rfl (fun h3 => ?_) (fun h3 => ?_)
      · (try simp only [cx, ne_eq] at h3)
        try (exfalso; (first | omega | exact h3 trivial | contradiction | (first | omega | (simp at h3; done))); done)
        all_goals
        refine SatC.region ?_
        refine SatL.pu (RunV.move rfl) rfl ?_
        refine SatL.pu (RunV.move rfl) rfl ?_
        refine SatL.pu (RunV.sub (r := ((q - (b - a) : Nat) : Int)) rfl rfl (by rw [wrapI64 (by omega)]; omega)) rfl ?_
        refine SatL.pu (RunV.assign rfl) rfl ?_
        refine SatL.nil (SatE.thenC ?_)
        obtain ⟨B5, W5, hsl5, hrun, hq5⟩ := hsw.swap _ B1 d1 i (a + (q - (b - a))) (i : Int) ((a : Int) + ((q - (b - a) : Nat) : Int)) rfl (by omega) (by omega) (by omega) hn1 hsl1 (hS.ownT (A := B1) (by repeat constructor))
        refine SatC.region ?_
        first | refine SatL.pu (RunV.fieldAddrL rfl rfl rfl) rfl ?_ | refine SatL.pu (RunV.fieldAddr rfl rfl rfl) rfl ?_
        refine SatL.pu (RunV.load1 hS rfl rfl (by repeat constructor) rfl) rfl ?_
        refine SatL.pu (RunV.move rfl) rfl ?_
        refine SatL.pu (RunV.move rfl) rfl ?_
        refine SatL.pu (RunV.move rfl) rfl ?_
        refine SatL.pu (RunV.add rfl rfl (by first | exact wrapI64 (by omega) | rfl)) rfl ?_
        refine SatL.op rfl (OpW.externF (fs := []) (cap := sc) rfl rfl rfl hrun ?_)
        replace hS := hS.callT (A := B1) (by repeat constructor) hq5
        refine SatL.nil (SatE.blk_normal (SatE.thenC ?_))
        refine SatC.weak (e' := [(1, _), (3, _), (6, _), (7, _), (8, _), (9, _)]) (by repeat constructor) ?_
        refine SatC.region ?_
        refine SatL.pu (RunV.move rfl) rfl ?_
        refine SatL.pu (RunV.add rfl rfl (by first | exact wrapI64 (by omega) | rfl)) rfl ?_
        refine SatL.pu (RunV.assign rfl) rfl ?_
        refine SatL.nil ?_
        refine SatE.again ((i + 1, (m : Int), swp d1 i (a + (q - (b - a))), B5)) ?_ (by first | omega | (dsimp only; omega)) (by repeat constructor)
        exact ⟨by omega, by omega, permIn_trans _ _ _ _ _ hp1 (swp_permIn _ _ _ _ _ (by omega) (by omega) (by omega) (by omega) (by omega)), by rw [swp_size]; exact hn1, hsl5, hS.sel (by repeat constructor)⟩
      · (try simp only [cx, ne_eq] at h3)
        try (exfalso; (first | omega | exact h3 trivial | contradiction | (first | omega | (simp at h3; done))); done)
        all_goals
        refine SatC.skip (SatE.thenC ?_)
        obtain ⟨B5, W5, hsl5, hrun, hq5⟩ := hsw.swap _ B1 d1 i (a + q) (i : Int) ((a : Int) + (q : Int)) rfl (by omega) (by omega) (by omega) hn1 hsl1 (hS.ownT (A := B1) (by repeat constructor))
        refine SatC.region ?_
        first | refine SatL.pu (RunV.fieldAddrL rfl rfl rfl) rfl ?_ | refine SatL.pu (RunV.fieldAddr rfl rfl rfl) rfl ?_
        refine SatL.pu (RunV.load1 hS rfl rfl (by repeat constructor) rfl) rfl ?_
        refine SatL.pu (RunV.move rfl) rfl ?_
        refine SatL.pu (RunV.move rfl) rfl ?_
        refine SatL.pu (RunV.move rfl) rfl ?_
        refine SatL.pu (RunV.add rfl rfl (by first | exact wrapI64 (by omega) | rfl)) rfl ?_
        refine SatL.op rfl (OpW.externF (fs := []) (cap := sc) rfl rfl rfl hrun ?_)
        replace hS := hS.callT (A := B1) (by repeat constructor) hq5
        refine SatL.nil (SatE.blk_normal (SatE.thenC ?_))
        refine SatC.region ?_
        refine SatL.pu (RunV.move rfl) rfl ?_
        refine SatL.pu (RunV.add rfl rfl (by first | exact wrapI64 (by omega) | rfl)) rfl ?_
        refine SatL.pu (RunV.assign rfl) rfl ?_
        refine SatL.nil ?_
        refine SatE.again ((i + 1, (m : Int), swp d1 i (a + q), B5)) ?_ (by first | omega | (dsimp only; omega)) (by repeat constructor)
        exact ⟨by omega, by omega, permIn_trans _ _ _ _ _ hp1 (swp_permIn _ _ _ _ _ (by omega) (by omega) (by omega) (by omega) (by omega)), by rw [swp_size]; exact hn1, hsl5, hS.sel (by repeat constructor)⟩
    · (try simp only [cx, ne_eq] at h2)
      try (exfalso; (first | omega | exact h2 trivial | contradiction | (first | omega | (simp at h2; done))); done)
      all_goals
      refine SatC.exit (SatE.then_exit (SatE.then_exit (SatE.blk_exit ?_)))
      refine SatE.fin0 rfl ?_
      exact ⟨d1, B1, hp1, hsl1, hS.sel (by repeat constructor)⟩
  · (try simp only [cx, ne_eq] at h1)
    try (exfalso; (first | omega | exact h1 trivial | contradiction | (first | omega | (simp at h1; done))); done)
    all_goals
    refine SatC.skip ?_
    refine SatE.fin0 rfl ?_
    exact ⟨d1, B1, hp1, hsl1, hS.sel (by repeat constructor)⟩
end
end Go.Proofs.Ytogohendjjgbiaa
