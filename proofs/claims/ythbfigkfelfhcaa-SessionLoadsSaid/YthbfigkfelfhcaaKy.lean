/- A number as a key: sixteen digits, which rise as numbers do. -/
import Derived.Test.YthbfigkfelfhcaaTq
import Derived.Test.YthbfigkfelfhcaaK21
set_option linter.unusedSimpArgs false
set_option linter.unusedVariables false
set_option maxRecDepth 100000
set_option maxHeartbeats 4000000
namespace Go.Proofs.Ythbfigkfelfhcaa
open Go.RowKit
def hexd (d : Nat) : UInt8 := if d < 10 then UInt8.ofNat (48 + d) else UInt8.ofNat (87 + d)
def kd : Nat → Nat → List UInt8
  | 0, _ => []
  | m + 1, n => hexd (n / 16 ^ m % 16) :: kd m n
def keyOf (id : Int) : List UInt8 := kd 16 id.toNat
theorem hexd_lt {d d' : Nat} (h : d < d') (h' : d' < 16) : hexd d < hexd d' := by
  have : ∀ a b : Fin 16, a < b → hexd a < hexd b := by decide
  exact this ⟨d, by omega⟩ ⟨d', h'⟩ h
theorem kd_lt : ∀ (m : Nat) {n n' : Nat}, n % 16 ^ m < n' % 16 ^ m → kd m n < kd m n'
  | 0, n, n', h => by simp [Nat.mod_one] at h
  | m + 1, n, n', h => by
    rw [Nat.mod_pow_succ, Nat.mod_pow_succ] at h
    unfold kd
    rw [List.cons_lt_cons_iff]
    have hr : n' % 16 ^ m < 16 ^ m := Nat.mod_lt _ (Nat.pow_pos (by decide))
    generalize hq : n / 16 ^ m % 16 = q at h ⊢
    generalize hq' : n' / 16 ^ m % 16 = q' at h ⊢
    have hb : q' < 16 := by rw [← hq']; exact Nat.mod_lt _ (by decide)
    rcases Nat.lt_trichotomy q q' with h1 | h1 | h1
    · exact .inl (hexd_lt h1 hb)
    · subst h1
      exact .inr ⟨rfl, kd_lt m (by omega)⟩
    · have h2 : 16 ^ m * (q' + 1) ≤ 16 ^ m * q := Nat.mul_le_mul_left _ h1
      rw [Nat.mul_add, Nat.mul_one] at h2
      omega
theorem key_lt {a b : Int} (h0 : 0 ≤ a) (h : a < b) (hb : b < 18446744073709551616) : keyOf a < keyOf b := kd_lt 16 (by
  have e : (16 : Nat) ^ 16 = 18446744073709551616 := by decide
  rw [e, Nat.mod_eq_of_lt (by omega), Nat.mod_eq_of_lt (by omega)]
  omega)
theorem key_inj {a b : Int} (ha : 0 ≤ a ∧ a < 18446744073709551616) (hb : 0 ≤ b ∧ b < 18446744073709551616) (h : keyOf a = keyOf b) : a = b := by
  rcases Int.lt_trichotomy a b with h1 | h1 | h1
  · exact absurd (h ▸ key_lt ha.1 h1 hb.2) (lt_irr _)
  · exact h1
  · exact absurd (h ▸ key_lt hb.1 h1 ha.2) (lt_irr _)
theorem kd_len : ∀ m n, (kd m n).length = m
  | 0, _ => rfl
  | m + 1, n => by rw [kd, List.length_cons, kd_len m n]
theorem kd_get : ∀ (m n k : Nat), k < m → (kd m n)[k]? = some (hexd (n / 16 ^ (m - 1 - k) % 16))
  | 0, _, _, h => by omega
  | m + 1, n, 0, _ => rfl
  | m + 1, n, k + 1, h => by
    rw [kd, List.getElem?_cons_succ, kd_get m n k (by omega), show m + 1 - 1 - (k + 1) = m - 1 - k by omega]
/-- The first i digits laid. -/
def digs (n i : Nat) : List UInt8 := (kd 16 n).take i ++ List.replicate (16 - i) 0
theorem digs_len (n i : Nat) (h : i ≤ 16) : (digs n i).length = 16 := by simp [digs, kd_len]; omega
theorem digs_next (n i : Nat) (h : i < 16) : (digs n i).set i (hexd (n / 16 ^ (15 - i) % 16)) = digs n (i + 1) := by
  have hk := kd_get 16 n i h
  unfold digs
  rw [List.take_add_one, hk, show 16 - i = (16 - (i + 1)) + 1 by omega, List.replicate_succ, List.set_append_right _ _ (by simp [kd_len]; omega)]
  rw [show i - ((kd 16 n).take i).length = 0 by simp [kd_len]; omega]
  simp
theorem hex_at {d : Nat} (h : d < 16) : ([48, 49, 50, 51, 52, 53, 54, 55, 56, 57, 97, 98, 99, 100, 101, 102] : List UInt8)[d]? = some (hexd d) := by
  have : ∀ a : Fin 16, ([48, 49, 50, 51, 52, 53, 54, 55, 56, 57, 97, 98, 99, 100, 101, 102] : List UInt8)[a.1]? = some (hexd a.1) := by decide
  exact this ⟨d, h⟩
theorem pow_16 {i : Nat} (h : i < 16) : (16 : Nat) ^ (15 - i) = 2 ^ (60 - 4 * i) := by
  rw [show (16 : Nat) = 2 ^ 4 from rfl, ← Nat.pow_mul, show 4 * (15 - i) = 60 - 4 * i by omega]
theorem dig_at (n i : Nat) (h : i < 16) : ([48, 49, 50, 51, 52, 53, 54, 55, 56, 57, 97, 98, 99, 100, 101, 102] : List UInt8)[((n : Int) / 2 ^ (60 - 4 * i) % 16).toNat]? = some (hexd (n / 16 ^ (15 - i) % 16)) := by
  have e : ((n : Int) / 2 ^ (60 - 4 * i) % 16).toNat = n / 16 ^ (15 - i) % 16 := by
    rw [pow_16 h]
    have : ((n : Int) / 2 ^ (60 - 4 * i) % 16) = ((n / 2 ^ (60 - 4 * i) % 16 : Nat) : Int) := by norm_cast
    rw [this]
    exact Int.toNat_natCast _
  rw [e]
  exact hex_at (Nat.mod_lt _ (by decide))
theorem key_any (id : Int) (hid : 0 ≤ id ∧ id < 18446744073709551616) (w : World) : Ret Try.prog 28 #[.int .u64 id] w fun v w' => v = str (keyOf id) ∧ St w [] [] w' := by
  have hS := St.init0 w
  unfold keyOf
  obtain ⟨n, rfl⟩ : ∃ n : Nat, id = (n : Int) := ⟨id.toNat, by omega⟩
  rw [Int.toNat_natCast]
  refine Ret.enter Try.func28 Try.ntmps28 rfl rfl ?_
  simp only [argEnv, Nat.reduceAdd]
  refine SatC.seq ?_
  refine SatC.region ?_
  refine SatL.pu (RunV.assign rfl) rfl ?_
  refine SatL.nil (SatE.thenC ?_)
  refine SatC.seq ?_
  refine SatC.region ?_
  refine SatL.op rfl (OpW.alloc hS rfl rfl (by repeat constructor) ?_)
  clear hS
  intro b3 w1 _ hS
  refine SatL.nil (SatE.thenC ?_)
  refine SatC.seq ?_
  refine SatC.seq ?_
  refine SatC.region ?_
  refine SatL.pu (RunV.move rfl) rfl ?_
  refine SatL.nil (SatE.thenC ?_)
  refine SatC.block ?_
  refine SatC.loopK (G := Nat) (V := fun i => [(5, .int .i64 (i : Int))]) (Cn := [(0, _), (2, _), (3, _)]) (I := fun i w' => i ≤ 16 ∧ St w [] [(b3, C 81 (((digs n i).map by1c).flatten ++ []))] w') (μ := fun i => 16 - i) 0 ?_ (by repeat constructor) ?_
  · exact ⟨by omega, hS⟩
  clear hS
  rintro i w2 ⟨hi, hS⟩
  refine SatC.weak (e' := [(0, _), (2, _), (3, _), (5, _)]) (by repeat constructor) ?_
  refine SatC.seq ?_
  refine SatC.region ?_
  refine SatL.pu (RunV.lss rfl rfl) rfl ?_
  refine SatL.nil (SatE.thenC ?_)
  refine SatC.seq ?_
  refine SatC.cond rfl (fun h1 => ?_) (fun h1 => ?_)
  · (try simp only [cx, ne_eq] at h1)
    try (exfalso; (first | omega | exact h1 trivial | contradiction); done)
    all_goals
    refine SatC.skip (SatE.thenC ?_)
    refine SatC.seq ?_
    refine SatC.block ?_
    refine SatC.seq ?_
    refine SatC.region ?_
    refine SatL.pu (RunV.move rfl) rfl ?_
    refine SatL.pu (RunV.assign rfl) rfl ?_
    refine SatL.nil (SatE.thenC ?_)
    have hi16 : i < 16 := by omega
    have hdd := dig_at n i hi16
    have hdl := digs_len n i hi
    have hdn := digs_next n i hi16
    refine SatC.region ?_
    refine SatL.pu (RunV.move rfl) rfl ?_
    refine SatL.pu (RunV.move rfl) rfl ?_
    refine SatL.pu (RunV.move rfl) rfl ?_
    refine SatL.pu (RunV.mul rfl rfl (by first | exact wrapI64 (by omega) | rfl)) rfl ?_
    refine SatL.pu (RunV.sub rfl rfl (show IntKind.i64.wrap (60 - 4 * (i : Int)) = ((60 - 4 * i : Nat) : Int) from by rw [wrapI64 (by omega)]; omega)) rfl ?_
    refine SatL.pu (RunV.shr64 (n := 60 - 4 * i) rfl rfl (by omega) (by omega)) rfl ?_
    refine SatL.pu (RunV.and15 rfl rfl (Int.ediv_nonneg (by omega) (Int.le_of_lt (Int.pow_pos (by decide)))) (Int.lt_of_le_of_lt (Int.ediv_le_self _ (by omega)) hid.2)) rfl ?_
    refine SatL.pu (RunV.indexB (a := [48, 49, 50, 51, 52, 53, 54, 55, 56, 57, 97, 98, 99, 100, 101, 102]) rfl rfl rfl (by omega) hdd) rfl ?_
    refine SatL.pu (RunV.indexA rfl rfl rfl (by omega) (by omega) rfl) rfl ?_
    refine SatL.op rfl (OpW.storeRow (T := 81) (k := 1) (i := i) (rows := (digs n i).map by1c) (post := []) (r := [byt (hexd (n / 16 ^ (15 - i) % 16))]) hS rfl rfl rfl (.one rfl) (by repeat constructor) (by intro r hr; obtain ⟨c, _, rfl⟩ := List.mem_map.1 hr; rfl) rfl (by rw [List.length_map, hdl]; exact hi16) rfl rfl ?_)
    clear hS
    intro w3 hS
    rw [show ((digs n i).map by1c).set i [byt (hexd (n / 16 ^ (15 - i) % 16))] = (digs n (i + 1)).map by1c from by rw [← hdn, List.map_set]] at hS
    refine SatL.nil (SatE.blk_normal (SatE.thenC ?_))
    refine SatC.weak (e' := [(0, _), (2, _), (3, _), (5, _)]) (by repeat constructor) ?_
    refine SatC.region ?_
    refine SatL.pu (RunV.add rfl rfl (by first | exact wrapI64 (by omega) | rfl)) rfl ?_
    refine SatL.pu (RunV.move rfl) rfl ?_
    refine SatL.nil ?_
    refine SatE.again (i + 1) ?_ (by first | omega | (dsimp only; omega)) (by repeat constructor)
    exact ⟨by omega, hS⟩
  · (try simp only [cx, ne_eq] at h1)
    try (exfalso; (first | omega | exact h1 trivial | contradiction); done)
    all_goals
    refine SatC.exit (SatE.then_exit (SatE.then_exit (SatE.blk_exit (SatE.thenC ?_))))
    refine SatC.seq ?_
    have hd16 : digs n i = kd 16 n := by
      rw [show i = 16 by omega]
      unfold digs
      rw [List.take_of_length_le (by rw [kd_len]; exact Nat.le_refl _)]
      simp
    rw [hd16] at hS
    refine SatC.region ?_
    refine SatL.pu (RunV.sliceArr rfl rfl rfl) rfl ?_
    refine SatL.pu (RunV.b2s (cs := kd 16 n) (bb := b3) (o := 0) (n := 16) (c := 16) ⟨⟨_, rfl, fun _ => rfl⟩, by decide⟩ (RdC.own hS (by repeat constructor) (by intro r hr; obtain ⟨c, _, rfl⟩ := List.mem_map.1 hr; rfl)) (kd_len 16 n) rfl rfl rfl rfl) rfl ?_
    refine SatL.pu (RunV.assign rfl) rfl ?_
    refine SatL.nil (SatE.thenC ?_)
    refine SatC.ret ?_
    refine SatE.ret1 rfl rfl ?_
    exact ⟨rfl, hS.sel (by repeat constructor)⟩
end Go.Proofs.Ythbfigkfelfhcaa
