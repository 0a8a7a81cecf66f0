/- Bits: registers of 32 and 8 bits as BitVec. Over any program; no condition. -/
import Derived.Test.YtdoinfpkfbfjaaaK9
set_option linter.unusedVariables false
set_option linter.unusedSimpArgs false
namespace Go.Proofs.Ytdoinfpkfbfjaaa
open Go.RowKit
@[reducible] def u32 (a : BitVec 32) : Value := .int .u32 (a.toNat : Int)
@[reducible] def u8 (a : BitVec 8) : Value := .int .u8 (a.toNat : Int)
theorem of32 (a : BitVec 32) : BitVec.ofInt 32 (a.toNat : Int) = a := by
  apply BitVec.eq_of_toNat_eq
  simp [BitVec.toNat_ofInt]
theorem of8 (a : BitVec 8) : BitVec.ofInt 8 (a.toNat : Int) = a := by
  apply BitVec.eq_of_toNat_eq
  simp [BitVec.toNat_ofInt]
theorem wr32 (a : BitVec 32) : IntKind.u32.wrap (a.toNat : Int) = (a.toNat : Int) := by
  have := a.isLt
  exact wrapU32 (by omega)
theorem wr8 (a : BitVec 8) : IntKind.u8.wrap (a.toNat : Int) = (a.toNat : Int) := by
  have := a.isLt
  exact wrapU8 (by omega)
section
variable {P : Program} {N : Nat} {env : Env} {w : World} {dd : Option Nat} {ty : TypeId} {pos : String} {af : Array Edge} {g : Option (Nat × Bool)} {t t2 : TypeId} {x y : Operand} {a b : BitVec 32}
theorem RunV.xor32 (hx : evO env x = some (u32 a)) (hy : evO env y = some (u32 b)) : RunV P N env w ⟨dd, .binOp .xor t x y t2, ty, pos, af, g⟩ (u32 (a ^^^ b)) :=
  RunV.bin hx hy run_guardInt (by
    have h1 : BitVec.ofInt IntKind.u32.bits (a.toNat : Int) = a := of32 a
    have h2 : BitVec.ofInt IntKind.u32.bits (b.toNat : Int) = b := of32 b
    have h3 := wr32 (a ^^^ b)
    simp only [binOp, Op.intBits, h1, h2]
    simp
    exact h3)
theorem RunV.not32 (hx : evO env x = some (u32 a)) : RunV P N env w ⟨dd, .unOp .xor t x, ty, pos, af, g⟩ (u32 (~~~a)) := ⟨fun c hc => by
  have h1 : BitVec.ofInt IntKind.u32.bits (a.toNat : Int) = a := of32 a
  have h4 : BitVec.ofInt IntKind.u32.bits IntKind.u32.max = BitVec.allOnes 32 := by rfl
  have h5 : BitVec.allOnes 32 ^^^ a = ~~~a := by simp [BitVec.not_def]
  have h3 := wr32 (~~~a)
  have h6 : (Op.unary .xor (u32 a)).run P w = .ok (u32 (~~~a)) w := by
    show (Op.intBits .xor .u32 IntKind.u32.max (a.toNat : Int)).run P w = _
    simp only [Op.intBits, h1, h4]
    show Result.ok (Value.int .u32 (IntKind.u32.wrap ((BitVec.allOnes 32 ^^^ a).toNat : Int))) w = _
    rw [h5, h3]
  simp only [execOp, hc.ev hx, Sem.run_bind, h6, Result.andThen_ok, Sem.run_pure]⟩
theorem run_guardSh {op : BinOp} {k k' : IntKind} {m n : Int} {x y : Operand} : (eqGuard op t x y (.int k m) (.int k' n)).run P w = .ok () w := run_guardInt
theorem RunV.shl32 {k' : IntKind} {n : Nat} (hx : evO env x = some (u32 a)) (hy : evO env y = some (.int k' (n : Int))) (hn : n ≤ 32) : RunV P N env w ⟨dd, .binOp .shl t x y t2, ty, pos, af, g⟩ (u32 (a <<< n)) :=
  RunV.bin hx hy run_guardInt (by
    have h0 : ¬ (n : Int) < 0 := by omega
    have h1 : min (n : Int).toNat IntKind.u32.bits = n := by
      have : IntKind.u32.bits = 32 := rfl
      rw [this]
      omega
    have h2 : IntKind.u32.wrap ((a.toNat : Int) * 2 ^ n) = ((a <<< n).toNat : Int) := by
      rw [BitVec.toNat_shiftLeft, Nat.shiftLeft_eq]
      simp only [IntKind.wrap, IntKind.bits, IntKind.signed]
      simp
    simp only [binOp, Op.shift, if_neg h0, h1, h2]
    rfl)
theorem RunV.shr32 {k' : IntKind} {n : Nat} (hx : evO env x = some (u32 a)) (hy : evO env y = some (.int k' (n : Int))) (hn : n ≤ 32) : RunV P N env w ⟨dd, .binOp .shr t x y t2, ty, pos, af, g⟩ (u32 (a >>> n)) :=
  RunV.bin hx hy run_guardInt (by
    have h0 : ¬ (n : Int) < 0 := by omega
    have h1 : min (n : Int).toNat IntKind.u32.bits = n := by
      have : IntKind.u32.bits = 32 := rfl
      rw [this]
      omega
    have h2 : Int.fdiv (a.toNat : Int) (2 ^ n) = ((a >>> n).toNat : Int) := by
      rw [BitVec.toNat_ushiftRight, Nat.shiftRight_eq_div_pow]
      rw [Int.fdiv_eq_ediv_of_nonneg _ (by exact Int.le_of_lt (Int.pow_pos (by decide)))]
      simp
    simp only [binOp, Op.shift, if_neg h0, h1, h2]
    rfl)
theorem RunV.conv8to32 {src dst : TypeId} {c : BitVec 8} {ds : TypeDesc} (hx : evO env x = some (u8 c)) (hs : P.underlying src = some ds) (hd : P.underlying dst = some (.int .u32)) : RunV P N env w ⟨dd, .convert src dst x, ty, pos, af, g⟩ (u32 (c.setWidth 32)) :=
  RunV.conv hx hs hd (by
    have h1 : (c.setWidth 32).toNat = c.toNat := by
      rw [BitVec.toNat_setWidth]
      have := c.isLt
      omega
    have := c.isLt
    rw [h1]
    exact wrapU32 (by omega))
theorem RunV.conv32to8 {src dst : TypeId} {ds : TypeDesc} (hx : evO env x = some (u32 a)) (hs : P.underlying src = some ds) (hd : P.underlying dst = some (.int .u8)) : RunV P N env w ⟨dd, .convert src dst x, ty, pos, af, g⟩ (u8 (a.setWidth 8)) :=
  RunV.conv hx hs hd (by
    rw [BitVec.toNat_setWidth]
    simp only [IntKind.wrap, IntKind.bits, IntKind.signed]
    simp)
theorem RunV.xor8 {c d : BitVec 8} (hx : evO env x = some (u8 c)) (hy : evO env y = some (u8 d)) : RunV P N env w ⟨dd, .binOp .xor t x y t2, ty, pos, af, g⟩ (u8 (c ^^^ d)) :=
  RunV.bin hx hy run_guardInt (by
    have h1 : BitVec.ofInt IntKind.u8.bits (c.toNat : Int) = c := of8 c
    have h2 : BitVec.ofInt IntKind.u8.bits (d.toNat : Int) = d := of8 d
    have h3 := wr8 (c ^^^ d)
    simp only [binOp, Op.intBits, h1, h2]
    simp
    exact h3)
/-- Division and rest of what is not negative. -/
theorem RunV.quoP {k : IntKind} {m n : Int} {r : Int} (hx : evO env x = some (.int k m)) (hy : evO env y = some (.int k n)) (hm : 0 ≤ m) (hn : 0 < n) (hr : k.wrap (m / n) = r) : RunV P N env w ⟨dd, .binOp .quo t x y t2, ty, pos, af, g⟩ (.int k r) :=
  RunV.quo hx hy (by omega) (by rw [Int.tdiv_eq_ediv_of_nonneg hm]; exact hr)
theorem RunV.remP {k : IntKind} {m n : Int} (hx : evO env x = some (.int k m)) (hy : evO env y = some (.int k n)) (hm : 0 ≤ m) (hn : 0 < n) : RunV P N env w ⟨dd, .binOp .rem t x y t2, ty, pos, af, g⟩ (.int k (m % n)) :=
  RunV.rem hx hy (by omega) (Int.tmod_eq_emod_of_nonneg hm)
end
/-- A row that was marked as one that a text may share. -/
abbrev CF (t : TypeId) (cs : List Value) : Obj := .cells cs.toArray t (cs.length, cs.length + 1)
section
variable {P : Program} {N : Nat} {env : Env} {w w0 : World} {X : List Nat} {L L' : List (Nat × Obj)} {K : Env → World → Prop}
variable {d : Nat} {ty : TypeId} {pos : String} {af : Array Edge} {g : Option (Nat × Bool)}
theorem OpW.convMark {t T e : TypeId} {x : Operand} {b n c : Nat} {cs : List Value} (hS : St w0 X L w) (hd : Nat.blt d N = true) (hx : evO env x = some (.slice (some ⟨b, 0, none⟩) n c)) (hu : P.underlying t = some (.slice e)) (he : P.underlying e = some (.int .u8)) (hm : Repl L b (C T cs) (CF T cs) L')
    (h : ∀ w', St w0 X L' w' → K ((d, .slice (some ⟨b, 0, none⟩) n c) :: env) w') : OpW P N ⟨some d, .convert t t x, ty, pos, af, g⟩ env w K := by
  have hb := hS.own _ hm.memL
  have hsh : (shape b).run P w = .ok (some (T, cs.length)) w := by simp [shape, Sem.run, World.shape?, hb]
  have hlt : b < w.heap.size := (Array.getElem?_eq_some_iff.1 hb).1
  have hrun : (Go.convert t t (.slice (some ⟨b, 0, none⟩) n c)).run P w = .ok (.slice (some ⟨b, 0, none⟩) n c) (w.freeze ⟨b, cs.length, none⟩ 1) := by
    simp [Go.convert, run_underlying hu, run_underlying he, markStringish, hsh]
  have hf : (w.freeze ⟨b, cs.length, none⟩ 1).heap[b]? = some (CF T cs) := by
    unfold World.freeze
    rw [if_neg (by decide)]
    simp only [Array.getElem?_modify]
    simp [hb]
  refine OpW.base (w' := w.freeze ⟨b, cs.length, none⟩ 1) (fun a ha => ?_) hd (h _ (hS.put hm ?_ ?_ ?_ ?_ hf ?_))
  · simp only [execOp, ha.ev hx, Sem.run_bind, hrun, Result.andThen_ok, Sem.run_pure]
  · unfold World.freeze; rw [if_neg (by decide)]
  · unfold World.freeze; rw [if_neg (by decide)]
  · unfold World.freeze; rw [if_neg (by decide)]
  · unfold World.freeze; rw [if_neg (by decide)]; simp
  · intro k hk
    unfold World.freeze
    rw [if_neg (by decide)]
    simp only [Array.getElem?_modify]
    rw [if_neg (fun e => hk e.symm)]
theorem RdC.ofCF {T b k : Nat} {rows : List (List Value)} (hS : St w0 X L w) (hm : Has L b (CF T rows.flatten)) (hk : ∀ r ∈ rows, r.length = k) : RdC w b 0 k rows := by
  intro i r hi
  refine ⟨hk r (List.mem_of_getElem? hi), fun j u hj => ?_⟩
  have hf := flat_at hk hi hj
  have hb := hS.own _ hm.mem
  rw [Nat.zero_add]
  simp [World.cell?, hb, hf]
end
end Go.Proofs.Ytdoinfpkfbfjaaa
