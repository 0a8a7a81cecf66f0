/- Contracts of chapter 02: asked whether sealed; bits turned. -/
import Derived.Test.YtpajeienbdnkfaaD
import Derived.Test.YtpajeienbdnkfaaM
set_option linter.unusedSimpArgs false
set_option linter.unusedVariables false
set_option maxRecDepth 100000
set_option maxHeartbeats 1000000
namespace Go.Proofs.Ytpajeienbdnkfaa
open Go.RowKit
/-- Bytes as a text. -/
def tx (bs : List (BitVec 8)) : List UInt8 := bs.map UInt8.ofBitVec
theorem tx_rows (bs : List (BitVec 8)) : bs.map by1 = (tx bs).map by1c := by
  rw [tx, List.map_map]
  rfl
theorem tx_len (bs : List (BitVec 8)) : (tx bs).length = bs.length := by simp [tx]
theorem tx_inj {a b : List (BitVec 8)} (h : tx a = tx b) : a = b := by
  have := congrArg (List.map UInt8.toBitVec) h
  simpa [tx, List.map_map, Function.comp_def] using this
theorem tx_dec (a b : List (BitVec 8)) : decide (tx a = tx b) = decide (a = b) := by
  rw [Bool.eq_iff_iff]
  simp only [decide_eq_true_eq]
  exact ⟨tx_inj, fun h => h ▸ rfl⟩
def sealed (bs : List (BitVec 8)) : Bool := decide (4 ≤ bs.length ∧ be (crc 0#32 (bs.take (bs.length - 4))) = bs.drop (bs.length - 4))
theorem cut_one {v : Value} {b o n c : Nat} (hv : SlV v b o n c) (l h sz : Nat) : (cutV v l h sz).oneCell' = true := by
  obtain ⟨A, rfl, _⟩ := hv.eq
  rfl
theorem rd_take {w : World} {v : Value} {b o c h : Nat} {bs : List (BitVec 8)} (hv : SlV v b o bs.length c) (hc : RdC w b o 1 (bs.map by1)) (hh : h ≤ bs.length) (hm : bs.length ≤ 9223372036854775807) : RdRow w (cutV v 0 h 1) 1 ((bs.take h).map by1) := by
  have h1 := SlV.cutV 1 hv (Nat.zero_le h) hh
  rw [Nat.zero_mul, Nat.add_zero, Nat.sub_zero, Nat.sub_zero] at h1
  exact RdRow.of h1 (by rw [List.length_map, List.length_take]; omega) (by rw [List.length_map, List.length_take]; omega) (by rw [List.map_take]; exact hc.take) (by decide)
theorem rd_drop {w : World} {v : Value} {b o c l : Nat} {bs : List (BitVec 8)} (hv : SlV v b o bs.length c) (hc : RdC w b o 1 (bs.map by1)) (hl : l ≤ bs.length) : SlV (cutV v l bs.length 1) b (o + l * 1) (bs.length - l) (c - l) ∧ RdC w b (o + l * 1) 1 ((tx (bs.drop l)).map by1c) :=
  ⟨SlV.cutV 1 hv hl (Nat.le_refl _), by rw [← tx_rows, List.map_drop]; exact hc.cut⟩
theorem sealed_any (v : Value) (bs : List (BitVec 8)) (w : World) (hr : RdRow w v 1 (bs.map by1)) : Ret Try.prog 15 #[v] w fun u w' => u = .bool (sealed bs) ∧ St w [] [] w' := by
  have hS := St.init0 w
  obtain ⟨b, o, c, hv, hmax, hc, hlt⟩ := hr.open
  simp only [List.length_map] at hv hmax hlt
  have e4 : ((bs.length : Int) - 4).toNat = bs.length - 4 := by omega
  refine Ret.enter Try.func15 Try.ntmps15 rfl rfl ?_
  simp only [argEnv, Nat.reduceAdd]
  refine SatC.seq ?_
  refine SatC.region ?_
  refine SatL.pu (RunV.assign rfl) rfl ?_
  refine SatL.nil (SatE.thenC ?_)
  refine SatC.seq ?_
  refine SatC.seq ?_
  refine SatC.region ?_
  refine SatL.pu (RunV.move rfl) rfl ?_
  first | refine SatL.pu (RunV.lenR (by assumption) rfl rfl) rfl ?_ | refine SatL.pu (RunV.lenS rfl rfl) rfl ?_
  refine SatL.pu (RunV.lss rfl rfl) rfl ?_
  refine SatL.nil (SatE.thenC ?_)
  refine SatC.cond rfl (fun h1 => ?_) (fun h1 => ?_)
  · (try simp only [cx, ne_eq] at h1)
    try (exfalso; (first | omega | exact h1 trivial | contradiction); done)
    all_goals
    refine SatC.seq ?_
    refine SatC.region ?_
    refine SatL.pu (RunV.assign rfl) rfl ?_
    refine SatL.nil (SatE.thenC ?_)
    refine SatC.ret (SatE.then_ret ?_)
    refine SatE.ret1 rfl rfl ?_
    refine ⟨congrArg Value.bool ?_, hS⟩
    exact (decide_eq_false (fun h => by omega)).symm
  · (try simp only [cx, ne_eq] at h1)
    try (exfalso; (first | omega | exact h1 trivial | contradiction); done)
    all_goals
    refine SatC.skip (SatE.thenC ?_)
    refine SatC.seq ?_
    refine SatC.region ?_
    refine SatL.pu (RunV.move rfl) rfl ?_
    first | refine SatL.pu (RunV.lenR (by assumption) rfl rfl) rfl ?_ | refine SatL.pu (RunV.lenS rfl rfl) rfl ?_
    refine SatL.pu (RunV.sub rfl rfl (by first | exact wrapI64 (by omega) | rfl)) rfl ?_
    refine SatL.pu (RunV.assign rfl) rfl ?_
    refine SatL.nil (SatE.thenC ?_)
    refine SatC.seq ?_
    refine SatC.drawnT 13 hS (hS.sub (List.nil_sublist _)) (by kernel_rfl) ?_
    clear hS
    intro w1 hh hS hD
    refine SatD.take 0 rfl [] (by kernel_rfl) (fun _ _ _ h => h) rfl rfl hD (fun _ hw => RunV.move rfl) ?_
    refine SatD.take 1 rfl [] (by kernel_rfl) (fun _ _ _ h => h) rfl rfl hD (fun _ hw => RunV.move rfl) ?_
    refine SatD.take 2 rfl [] (by kernel_rfl) (fun _ _ _ h => h) rfl rfl hD (fun _ hw => RunV.cutHv (by assumption) rfl rfl rfl rfl (by omega) (by omega)) ?_
    refine SatD.take 7 rfl [] (by kernel_rfl) (fun _ _ _ h => h) rfl rfl hD (fun _ hw => RunV.move rfl) ?_
    refine SatD.take 8 rfl [] (by kernel_rfl) (fun _ _ _ h => h) rfl rfl hD (fun _ hw => RunV.move rfl) ?_
    refine SatD.take 9 rfl [] (by kernel_rfl) (fun _ _ _ h => h) rfl rfl hD (fun _ hw => RunV.cutLv (by assumption) rfl rfl rfl rfl (by omega) (by omega)) ?_
    refine SatD.take 10 rfl [] (by kernel_rfl) (fun _ _ _ h => h) rfl rfl hD (fun _ hw => RunV.b2s (cs := tx (bs.drop ((bs.length : Int) - 4).toNat)) (rd_drop hv hc (show ((bs.length : Int) - 4).toNat ≤ bs.length by omega)).1 (rd_drop hv (hc.st hw List.not_mem_nil) (by omega)).2 (by rw [tx_len, List.length_drop]) rfl rfl rfl rfl) ?_
    refine SatD.eff 3 (by kernel_rfl) rfl rfl (OpW.buildSlice1 hS rfl rfl rfl rfl rfl (.one (cut_one hv _ _ _)) rfl rfl rfl ?_)
    clear hS
    intro b13 w2 _ hS
    refine keepS (hS.sb (by repeat constructor)) (fun hD => ?_)
    refine SatD.eff 4 (by kernel_rfl) rfl rfl (OpW.enter rfl rfl rfl (rfl) (sum_any _ [(cutV v 0 ((bs.length : Int) - 4).toNat 1, bs.take (bs.length - 4))] _ (RdRow.of ⟨⟨_, rfl, fun _ => rfl⟩, Nat.le_refl _⟩ rfl (by simp) (RdC.own (post := []) hS (by repeat constructor) (by simp)) (by decide)) (fun p hp => (by obtain rfl := List.mem_singleton.1 hp; dsimp only; rw [e4]; exact rd_take hv (hc.st hS List.not_mem_nil) (by omega) hmax))) ?_)
    rintro r3 w3 ⟨rfl, h⟩
    replace hS := St.callN hS h
    refine keepS (hS.sb (by repeat constructor)) (fun hD => ?_)
    refine SatD.eff 5 (by kernel_rfl) rfl rfl (OpW.enter rfl rfl rfl (rfl) (bytes_any _ _) ?_)
    rintro r4 w4 ⟨B15, hsl15, h⟩
    replace hS := hS.call0 h
    obtain ⟨c15, hv15⟩ := hsl15.slv
    refine keepS (hS.sb (by repeat constructor)) (fun hD => ?_)
    refine SatD.eff 6 (by kernel_rfl) rfl rfl (OpW.pure (RunV.b2s (cs := tx (be _)) hv15 (by rw [← tx_rows]; exact hsl15.rd hS (by repeat constructor)) (by rw [tx_len, List.length_map]) rfl rfl rfl rfl) rfl ?_)
    refine keepS (hS.sb (by repeat constructor)) (fun hD => ?_)
    refine SatD.take 11 rfl [] (by kernel_rfl) (fun _ _ _ h => h) rfl rfl hD (fun _ hw => RunV.seql rfl rfl) ?_
    refine SatD.take 12 rfl [] (by kernel_rfl) (fun _ _ _ h => h) rfl rfl hD (fun _ hw => RunV.assign rfl) ?_
    refine SatD.done 0 (by kernel_rfl) (SatE.thenC ?_)
    clear hD
    refine SatC.ret ?_
    refine SatE.ret1 rfl rfl ?_
    refine ⟨congrArg Value.bool ?_, hS.sub (List.nil_sublist _)⟩
    rw [tx_dec, e4, sealed]
    have hx : sumOf 0#32 [(cutV v 0 (bs.length - 4) 1, bs.take (bs.length - 4))] = crc 0#32 (bs.take (bs.length - 4)) := rfl
    rw [hx, Bool.eq_iff_iff]
    simp only [decide_eq_true_eq]
    exact ⟨fun h => ⟨by omega, h⟩, fun h => h.2⟩
/-! ### Bits turned -/
/-- Those of the 32 bits that are turned, as a row of n bits from a place on. -/
def mbits (m : BitVec 32) (i : Nat) : List Bool := (List.range i).map fun j => m.getLsbD j
def ebits (n k i : Nat) (m : BitVec 32) : List Bool := List.replicate k false ++ mbits m i ++ List.replicate (n - k - i) false
theorem mbits_len (m : BitVec 32) (i : Nat) : (mbits m i).length = i := by simp [mbits]
theorem ebits_len (n k i : Nat) (m : BitVec 32) (h : k + i ≤ n) : (ebits n k i m).length = n := by
  simp [ebits, mbits_len]
  omega
theorem ebits_next (n k i : Nat) (m : BitVec 32) (h : k + i < n) : (ebits n k i m).set (k + i) (m.getLsbD i) = ebits n k (i + 1) m := by
  have e : n - k - i = (n - k - (i + 1)) + 1 := by omega
  rw [ebits, e, List.replicate_succ, List.set_append_right _ _ (by simp [mbits_len])]
  have : k + i - (List.replicate k false ++ mbits m i).length = 0 := by simp [mbits_len]
  rw [this, List.set_cons_zero, ebits, mbits, mbits, List.range_succ, List.map_append]
  simp
theorem ebits_at (n k i : Nat) (m : BitVec 32) (h : k + i < n) : (ebits n k i m)[k + i]? = some false := by
  have e : n - k - i = (n - k - (i + 1)) + 1 := by omega
  rw [ebits, e, List.replicate_succ, List.getElem?_append_right (by simp [mbits_len])]
  simp [mbits_len]
def bitsOf (bs : List (BitVec 8)) : List Bool := bs.flatMap bits8
theorem bits8_len (b : BitVec 8) : (bits8 b).length = 8 := rfl
theorem bitsOf_len : ∀ bs : List (BitVec 8), (bitsOf bs).length = 8 * bs.length
  | [] => rfl
  | b :: bs => by
    have := bitsOf_len bs
    unfold bitsOf at *
    rw [List.flatMap_cons, List.length_append, this, bits8_len, List.length_cons]
    omega
theorem getD_l {V W : List Bool} {i : Nat} (h : i < V.length) : (V ++ W).getD i false = V.getD i false := by
  rw [List.getD_eq_getElem?_getD, List.getD_eq_getElem?_getD, List.getElem?_append_left h]
theorem getD_r {V W : List Bool} {i : Nat} (h : V.length ≤ i) : (V ++ W).getD i false = W.getD (i - V.length) false := by
  rw [List.getD_eq_getElem?_getD, List.getD_eq_getElem?_getD, List.getElem?_append_right h]
/-- One bit of a byte. -/
theorem bit8 : ∀ (b : BitVec 8) (r : Fin 8), bits8 (b ^^^ (128#8 >>> r.1)) = (bits8 b).set r.1 (!(bits8 b).getD r.1 false) := by decide +kernel
theorem bits_set : ∀ (bs : List (BitVec 8)) (q r : Nat) (b : BitVec 8), bs[q]? = some b → r < 8 → bitsOf (bs.set q (b ^^^ (128#8 >>> r))) = (bitsOf bs).set (8 * q + r) (!(bitsOf bs).getD (8 * q + r) false)
  | [], q, r, b, h, _ => by simp at h
  | x :: bs, 0, r, b, h, hr => by
    obtain rfl : x = b := by simpa using h
    have := bit8 x ⟨r, hr⟩
    unfold bitsOf
    rw [List.set_cons_zero, List.flatMap_cons, List.flatMap_cons, this, Nat.mul_zero, Nat.zero_add, List.set_append_left _ _ (by rw [bits8_len]; exact hr), getD_l (by rw [bits8_len]; exact hr)]
  | x :: bs, q + 1, r, b, h, hr => by
    have ih := bits_set bs q r b (by simpa using h) hr
    unfold bitsOf at *
    rw [List.set_cons_succ, List.flatMap_cons, List.flatMap_cons, ih, List.set_append_right _ _ (by rw [bits8_len]; omega), getD_r (by rw [bits8_len]; omega), bits8_len, show 8 * (q + 1) + r - 8 = 8 * q + r by omega]
theorem zip_set {f g : Bool} : ∀ (V W : List Bool) (p : Nat), V.length = W.length → W[p]? = some false → (List.zipWith xor V W).set p (!(List.zipWith xor V W).getD p false) = List.zipWith xor V (W.set p true)
  | [], [], p, _, h => by simp at h
  | x :: V, y :: W, 0, _, h => by
    obtain rfl : y = false := by simpa using h
    simp
  | x :: V, y :: W, p + 1, hl, h => by
    have := zip_set (f := f) (g := g) V W p (by simpa using hl) (by simpa using h)
    simp only [List.zipWith_cons_cons, List.set_cons_succ, List.getD_cons_succ]
    rw [this]
  | [], _ :: _, _, h, _ => by simp at h
  | _ :: _, [], _, h, _ => by simp at h
/-- The row c is the row b with some bits turned. -/
def TurnedAt (b c : List (BitVec 8)) (k i : Nat) (m : BitVec 32) : Prop := c.length = b.length ∧ bitsOf c = List.zipWith xor (bitsOf b) (ebits (8 * b.length) k i m)
theorem turned_next {b c : List (BitVec 8)} {k i : Nat} {m : BitVec 32} {y : BitVec 8} (h : TurnedAt b c k i m) (hlt : k + i < 8 * b.length) (hm : m.getLsbD i = true) (hy : c[(k + i) / 8]? = some y) : TurnedAt b (c.set ((k + i) / 8) (y ^^^ (128#8 >>> ((k + i) % 8)))) k (i + 1) m := by
  refine ⟨by simp [h.1], ?_⟩
  rw [bits_set c _ _ y hy (Nat.mod_lt _ (by decide)), show 8 * ((k + i) / 8) + (k + i) % 8 = k + i by omega, h.2, zip_set (f := true) (g := true) _ _ _ (by rw [bitsOf_len, ebits_len _ _ _ _ (by omega)]) (ebits_at _ _ _ _ hlt), ← ebits_next _ _ _ _ hlt, hm]
theorem turned_stay {b c : List (BitVec 8)} {k i : Nat} {m : BitVec 32} (h : TurnedAt b c k i m) (hlt : k + i < 8 * b.length) (hm : m.getLsbD i = false) : TurnedAt b c k (i + 1) m := by
  refine ⟨h.1, ?_⟩
  rw [h.2, ← ebits_next _ _ _ _ hlt, hm]
  congr 1
  apply List.ext_getElem?
  intro p
  rw [List.getElem?_set]
  split
  · rename_i hp
    subst hp
    rw [ebits_at _ _ _ _ hlt, if_pos (by rw [ebits_len _ _ _ _ (by omega)]; exact hlt)]
  · rfl
theorem zip_false : ∀ (V : List Bool) (n : Nat), V.length = n → List.zipWith xor V (List.replicate n false) = V
  | [], n, h => by subst h; rfl
  | x :: V, n, h => by
    subst h
    rw [List.length_cons, List.replicate_succ, List.zipWith_cons_cons, zip_false V _ rfl]
    simp
theorem turned_0 (b : List (BitVec 8)) (k : Nat) (m : BitVec 32) (h : k ≤ 8 * b.length) : TurnedAt b b k 0 m := by
  refine ⟨rfl, ?_⟩
  have e : ebits (8 * b.length) k 0 m = List.replicate (8 * b.length) false := by
    simp only [ebits, mbits, List.range_zero, List.map_nil, List.append_nil, Nat.sub_zero, List.replicate_append_replicate]
    congr 1
    omega
  rw [e, zip_false _ _ (bitsOf_len b)]
/-- What turned bits do to the register. -/
theorem turned_reg {b c : List (BitVec 8)} {k i : Nat} {m : BitVec 32} (h : TurnedAt b c k i m) (hk : k + i ≤ 8 * b.length) (r : BitVec 32) : c.foldl feed r = b.foldl feed r ^^^ (ebits (8 * b.length) k i m).foldl feedBit 0#32 := by
  rw [fold_feed c, fold_feed b]
  have := fold_x (bitsOf b) (ebits (8 * b.length) k i m) r 0#32 (by rw [bitsOf_len, ebits_len _ _ _ _ hk])
  rw [BitVec.xor_zero, ← h.2] at this
  exact this
theorem turned_same {b c : List (BitVec 8)} {k i : Nat} {m : BitVec 32} (h : TurnedAt b c k i m) (hk : k + i ≤ 8 * b.length) (hi : i ≤ 32) (r : BitVec 32) : c.foldl feed r = b.foldl feed r ↔ (mbits m i).any id = false := by
  rw [turned_reg h hk r]
  constructor
  · intro e
    refine burst k (8 * b.length - k - i) (mbits m i) (by rw [mbits_len]; exact hi) ?_
    have := congrArg (fun z => b.foldl feed r ^^^ z) e
    simp only [← BitVec.xor_assoc, BitVec.xor_self, BitVec.zero_xor] at this
    exact this
  · intro e
    have := burst0 k (8 * b.length - k - i) (mbits m i) e
    rw [show (ebits (8 * b.length) k i m).foldl feedBit 0#32 = 0#32 from this, BitVec.xor_zero]
theorem bits8_inj : ∀ a b : BitVec 8, bits8 a = bits8 b → a = b := by
  intro a b h
  have e := congrArg pack h
  rw [pack_bits8, pack_bits8] at e
  apply BitVec.eq_of_getLsbD_eq
  intro i hi
  have := congrArg (fun z => z.getLsbD (i + 24)) e
  simp only [BitVec.getLsbD_shiftLeft, BitVec.getLsbD_setWidth, Nat.add_sub_cancel] at this
  simpa [show i + 24 < 32 by omega, show i < 32 by omega, show ¬ (i + 24 < 24) by omega] using this
theorem bits_inj : ∀ (f g : List (BitVec 8)), f.length = g.length → bitsOf f = bitsOf g → f = g
  | [], [], _, _ => rfl
  | a :: f, b :: g, hl, h => by
    unfold bitsOf at h
    rw [List.flatMap_cons, List.flatMap_cons] at h
    have := List.append_inj h rfl
    rw [bits8_inj a b this.1, bits_inj f g (by simpa using hl) this.2]
  | [], _ :: _, h, _ => by simp at h
  | _ :: _, [], h, _ => by simp at h
/-! ### Seals by registers -/
def packB (f : List (BitVec 8)) : BitVec 32 := pack (bitsOf f)
theorem feed4 (f : List (BitVec 8)) (r : BitVec 32) (h : f.length = 4) : f.foldl feed r = it (r ^^^ packB f) 32 := by
  have hl : (bitsOf f).length = 32 := by rw [bitsOf_len, h]
  have := fold_bits (bitsOf f) r (by omega)
  rw [fold_feed f, show f.flatMap bits8 = bitsOf f from rfl, this, hl]
  rfl
theorem pack_get : ∀ (W : List Bool) (i : Nat), i < 32 → W.length ≤ 32 → (pack W).getLsbD i = W.getD (31 - i) false
  | [], i, _, _ => by simp [pack]
  | x :: W, i, h, hl => by
    simp only [List.length_cons] at hl
    rw [pack, BitVec.getLsbD_xor, BitVec.getLsbD_ushiftRight]
    rcases Nat.lt_or_ge i 31 with h' | h'
    · rw [top31 x i h', pack_get W (1 + i) (by omega) (by omega), show 31 - i = (31 - (1 + i)) + 1 by omega, List.getD_cons_succ, Bool.false_xor]
    · obtain rfl : i = 31 := by omega
      have e : (if x then 2147483648#32 else 0#32 : BitVec 32).getLsbD 31 = x := by cases x <;> decide +kernel
      rw [BitVec.getLsbD_of_ge _ (1 + 31) (by omega), e]
      simp
theorem bits_be (s : BitVec 32) : ∀ i, i < 32 → (bitsOf (be s)).getD (31 - i) false = s.getLsbD i
  | 0, _ => by simp [be, bitsOf, bits8]
  | 1, _ => by simp [be, bitsOf, bits8]
  | 2, _ => by simp [be, bitsOf, bits8]
  | 3, _ => by simp [be, bitsOf, bits8]
  | 4, _ => by simp [be, bitsOf, bits8]
  | 5, _ => by simp [be, bitsOf, bits8]
  | 6, _ => by simp [be, bitsOf, bits8]
  | 7, _ => by simp [be, bitsOf, bits8]
  | 8, _ => by simp [be, bitsOf, bits8]
  | 9, _ => by simp [be, bitsOf, bits8]
  | 10, _ => by simp [be, bitsOf, bits8]
  | 11, _ => by simp [be, bitsOf, bits8]
  | 12, _ => by simp [be, bitsOf, bits8]
  | 13, _ => by simp [be, bitsOf, bits8]
  | 14, _ => by simp [be, bitsOf, bits8]
  | 15, _ => by simp [be, bitsOf, bits8]
  | 16, _ => by simp [be, bitsOf, bits8]
  | 17, _ => by simp [be, bitsOf, bits8]
  | 18, _ => by simp [be, bitsOf, bits8]
  | 19, _ => by simp [be, bitsOf, bits8]
  | 20, _ => by simp [be, bitsOf, bits8]
  | 21, _ => by simp [be, bitsOf, bits8]
  | 22, _ => by simp [be, bitsOf, bits8]
  | 23, _ => by simp [be, bitsOf, bits8]
  | 24, _ => by simp [be, bitsOf, bits8]
  | 25, _ => by simp [be, bitsOf, bits8]
  | 26, _ => by simp [be, bitsOf, bits8]
  | 27, _ => by simp [be, bitsOf, bits8]
  | 28, _ => by simp [be, bitsOf, bits8]
  | 29, _ => by simp [be, bitsOf, bits8]
  | 30, _ => by simp [be, bitsOf, bits8]
  | 31, _ => by simp [be, bitsOf, bits8]
  | n + 32, h => absurd h (by omega)
theorem pack_be (s : BitVec 32) : packB (be s) = s := by
  apply BitVec.eq_of_getLsbD_eq
  intro i hi
  rw [packB, pack_get _ i hi (by rw [bitsOf_len, be_len]; decide)]
  exact bits_be s i hi
theorem packB_inj {f g : List (BitVec 8)} (hf : f.length = 4) (hg : g.length = 4) (h : packB f = packB g) : f = g := by
  have hb : bitsOf f = bitsOf g := by
    apply List.ext_getElem?
    intro p
    rcases Nat.lt_or_ge p 32 with hp | hp
    · have h1 := pack_get (bitsOf f) (31 - p) (by omega) (by rw [bitsOf_len, hf]; decide)
      have h2 := pack_get (bitsOf g) (31 - p) (by omega) (by rw [bitsOf_len, hg]; decide)
      rw [show 31 - (31 - p) = p by omega] at h1 h2
      have h3 : (bitsOf f).getD p false = (bitsOf g).getD p false := by rw [← h1, ← h2]; exact congrArg (fun z => z.getLsbD (31 - p)) h
      have lf : p < (bitsOf f).length := by rw [bitsOf_len, hf]; exact hp
      have lg : p < (bitsOf g).length := by rw [bitsOf_len, hg]; exact hp
      rw [List.getD_eq_getElem?_getD, List.getD_eq_getElem?_getD, List.getElem?_eq_getElem lf, List.getElem?_eq_getElem lg] at h3
      rw [List.getElem?_eq_getElem lf, List.getElem?_eq_getElem lg]
      simpa using h3
    · rw [List.getElem?_eq_none (by rw [bitsOf_len, hf]; exact hp), List.getElem?_eq_none (by rw [bitsOf_len, hg]; exact hp)]
  exact bits_inj f g (by omega) hb
theorem not_x (g : BitVec 32) : g ^^^ ~~~ g = ~~~ 0#32 := by
  apply BitVec.eq_of_getLsbD_eq
  intro i hi
  simp only [BitVec.getLsbD_xor, BitVec.getLsbD_not, hi, decide_true, Bool.true_and, BitVec.getLsbD_zero]
  cases g.getLsbD i <;> rfl
theorem x_not (g : BitVec 32) : g ^^^ ~~~ 0#32 = ~~~ g := by
  apply BitVec.eq_of_getLsbD_eq
  intro i hi
  simp only [BitVec.getLsbD_xor, BitVec.getLsbD_not, hi, decide_true, Bool.true_and, BitVec.getLsbD_zero]
  cases g.getLsbD i <;> rfl
/-- Sealed: the register comes to one number. -/
theorem sealed_reg (t : List (BitVec 8)) (h : 4 ≤ t.length) : sealed t = true ↔ t.foldl feed (~~~ 0#32) = it (~~~ 0#32) 32 := by
  have e : t = t.take (t.length - 4) ++ t.drop (t.length - 4) := (List.take_append_drop _ _).symm
  have hl : (t.drop (t.length - 4)).length = 4 := by rw [List.length_drop]; omega
  have hr : t.foldl feed (~~~ 0#32) = it ((t.take (t.length - 4)).foldl feed (~~~ 0#32) ^^^ packB (t.drop (t.length - 4))) 32 := by
    rw [← feed4 _ _ hl, ← List.foldl_append, ← e]
  rw [hr, sealed]
  simp only [decide_eq_true_eq]
  generalize hg : (t.take (t.length - 4)).foldl feed (~~~ 0#32) = g
  have hc : crc 0#32 (t.take (t.length - 4)) = ~~~ g := by rw [crc, hg]
  rw [hc]
  constructor
  · rintro ⟨_, hb⟩
    rw [← hb, pack_be, not_x]
  · intro hi
    have h1 := it_inj hi
    have h2 : packB (t.drop (t.length - 4)) = ~~~ g := by
      have := congrArg (fun z => g ^^^ z) h1
      simp only [← BitVec.xor_assoc, BitVec.xor_self, BitVec.zero_xor] at this
      rw [this, x_not]
    refine ⟨h, packB_inj (be_len _) hl ?_⟩
    rw [pack_be, h2]
theorem sealed_be (b : List (BitVec 8)) : sealed (b ++ be (crc 0#32 b)) = true := by
  have hl : (b ++ be (crc 0#32 b)).length - 4 = b.length := by rw [List.length_append, be_len]; omega
  rw [sealed, hl, List.take_left, List.drop_left]
  simp [be_len]
/-- Turned bits spoil what is sealed. -/
theorem sealed_turned {s t : List (BitVec 8)} {k i : Nat} {m : BitVec 32} (h : TurnedAt s t k i m) (hk : k + i ≤ 8 * s.length) (hi : i ≤ 32) (hs : sealed s = true) (h4 : 4 ≤ s.length) : sealed t = !(mbits m i).any id := by
  have h1 := (sealed_reg s h4).1 hs
  have h2 := sealed_reg t (by rw [h.1]; exact h4)
  rw [← h1, turned_same h hk hi] at h2
  cases hq : (mbits m i).any id <;> cases hz : sealed t <;> simp_all
theorem crc_turned {s t : List (BitVec 8)} {k i : Nat} {m : BitVec 32} (h : TurnedAt s t k i m) (hk : k + i ≤ 8 * s.length) (hi : i ≤ 32) : decide (¬ crc 0#32 s = crc 0#32 t) = (mbits m i).any id := by
  have h2 := turned_same h hk hi (~~~ 0#32)
  have e : crc 0#32 s = crc 0#32 t ↔ t.foldl feed (~~~ 0#32) = s.foldl feed (~~~ 0#32) := by
    unfold crc
    constructor
    · intro h
      have := congrArg (fun z => ~~~ z) h
      simpa using this.symm
    · intro h
      rw [h]
  rw [Bool.eq_iff_iff]
  simp only [decide_eq_true_eq]
  rw [e, h2]
  simp
end Go.Proofs.Ytpajeienbdnkfaa
