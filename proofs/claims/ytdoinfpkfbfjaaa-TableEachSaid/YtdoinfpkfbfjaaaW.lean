/- The works of chapter 15's laws. -/
import Derived.Test.YtdoinfpkfbfjaaaP
set_option linter.unusedSimpArgs false
set_option linter.unusedVariables false
set_option maxRecDepth 100000
set_option maxHeartbeats 1000000
namespace Go.Proofs.Ytdoinfpkfbfjaaa
open Go.RowKit
theorem eqStr (a b : List UInt8) : ((⟨a.toArray⟩ : ByteArray) == ⟨b.toArray⟩) = decide (a = b) := by
  rw [beqB]
  by_cases h : a = b
  · simp [h]
  · rw [decide_eq_false h, decide_eq_false (fun e => h (by simpa using e))]
theorem run_eql30 (a : List UInt8) (v m x : Int) (a' : List UInt8) (v' m' x' : Int) (w : World) : (binOp .eql 30 (.agg #[str a, .int .i64 v, .int .u64 m, .int .u64 x]) (.agg #[str a', .int .i64 v', .int .u64 m', .int .u64 x'])).run Try.prog w = .ok (.bool (decide (Tr.mk a v m x = ⟨a', v', m', x'⟩))) w := by
  have h0 := eqStr a a'
  by_cases h1 : a = a' <;> by_cases h2 : v = v' <;> by_cases h3 : m = m' <;> by_cases h4 : x = x' <;> simp [go_sem, str, h0, h1, h2, h3, h4]
theorem guard30 (op : BinOp) (x y : Operand) (a : List UInt8) (v m z : Int) (a' : List UInt8) (v' m' z' : Int) (w : World) : (eqGuard op 30 x y (.agg #[str a, .int .i64 v, .int .u64 m, .int .u64 z]) (.agg #[str a', .int .i64 v', .int .u64 m', .int .u64 z'])).run Try.prog w = .ok () w := by
  unfold eqGuard
  cases op <;> simp [go_sem, str]
theorem found_nil {key : List UInt8} {k : Nat} {fd : Bool} (h : FoundAt [] key k fd) : k = 0 ∧ fd = false := by
  refine ⟨by have := h.1; simpa using this, ?_⟩
  cases fd with
  | false => rfl
  | true => have := h.2.2.2.1 rfl; simp at this
theorem found_one {key : List UInt8} {r : Tr} {k : Nat} {fd : Bool} (hr : r.k = key) (h : FoundAt [r] key k fd) : k = 0 ∧ fd = true := by
  have h1 := h.1
  have h2 := h.2.1
  have hk : k = 0 := by
    rcases Nat.eq_zero_or_pos k with h0 | h0
    · exact h0
    · have := h2 h0
      have hk1 : k = 1 := by simp at h1; omega
      subst hk1
      simp [hr] at this
      exact absurd this (lt_irr _)
  subst hk
  exact ⟨rfl, h.2.2.2.2 ⟨by simp, by simp [hr]⟩⟩
theorem works_any (w : World) : Ret Try.prog 12 #[] w fun v w' => v = .bool true ∧ St w [] [] w' := by
  have hS := St.init0 w
  refine Ret.enter Try.func12 Try.ntmps12 rfl rfl ?_
  simp only [argEnv, Nat.reduceAdd]
  refine SatC.seq ?_
  refine SatC.region ?_
  refine SatL.pu (RunV.assign rfl) rfl ?_
  refine SatL.nil (SatE.thenC ?_)
  refine SatC.seq ?_
  refine SatC.region ?_
  refine SatL.op rfl (OpW.enter rfl rfl rfl (rfl) (tnew_any _ _) ?_)
  rintro r1 w1 ⟨b, rfl, h⟩
  replace hS := hS.callT (A := []) (by repeat constructor) h
  refine SatL.pu (RunV.assign rfl) rfl ?_
  refine SatL.nil (SatE.thenC ?_)
  refine SatC.seq ?_
  refine SatC.region ?_
  refine SatL.pu (RunV.move rfl) rfl ?_
  refine SatL.op rfl (OpW.enter rfl rfl rfl (rfl) (put_any (rows := []) (v := .slice none 0 0) (B := []) [98] 7 3 .nil (by simp) (hS.ownT (by repeat constructor)) (by decide)) ?_)
  rintro r2 w2 ⟨k, fd, hfd, hput⟩
  obtain ⟨rfl, rfl⟩ := found_nil hfd
  rcases hput with ⟨_, h, _⟩ | ⟨_, rfl, v1, B1, hsl1, h⟩
  · exact absurd h (by decide)
  replace hS := hS.callT (A := [(b, C 58 (tc (min (max 2 1) 64) (.slice none 0 0) 0))]) (by repeat constructor) h
  refine SatL.pu (RunV.move rfl) rfl ?_
  refine SatL.pu (RunV.extract rfl rfl) rfl ?_
  refine SatL.pu (RunV.extract rfl rfl) rfl ?_
  refine SatL.op rfl (OpW.alloc hS rfl rfl (by repeat constructor) ?_)
  clear hS
  intro b2 w3 _ hS
  refine SatL.op rfl (OpW.store hS rfl rfl (by repeat constructor) (by repeat constructor) (by repeat constructor) rfl rfl ?_)
  clear hS
  intro w4 hS
  refine SatL.pu (RunV.assign rfl) rfl ?_
  refine SatL.nil (SatE.thenC ?_)
  refine SatC.seq ?_
  refine SatC.region ?_
  refine SatL.pu (RunV.move rfl) rfl ?_
  refine SatL.op rfl (OpW.enter rfl rfl rfl (rfl) (get_any (rows := putR [] 0 false ⟨[98], 7, 3, 3⟩) [98] hsl1 (by decide) (hS.ownT (A := (b, C 58 (tc (min (max 2 1) 64) v1 (max 0 3))) :: B1) (by repeat constructor)) (by decide)) ?_)
  rintro r5 w5 ⟨k2, fd2, hfd2, rfl, h⟩
  replace hS := St.callN hS h
  obtain ⟨rfl, rfl⟩ := found_one (r := ⟨[98], 7, 3, 3⟩) rfl hfd2
  refine SatL.pu (RunV.move rfl) rfl ?_
  refine SatL.pu (RunV.extract rfl rfl) rfl ?_
  refine SatL.pu (RunV.extract rfl rfl) rfl ?_
  refine SatL.op rfl (OpW.alloc hS rfl rfl (by repeat constructor) ?_)
  clear hS
  intro b4 w6 _ hS
  refine SatL.op rfl (OpW.store hS rfl rfl (by repeat constructor) (by repeat constructor) (by repeat constructor) rfl rfl ?_)
  clear hS
  intro w7 hS
  refine SatL.pu (RunV.assign rfl) rfl ?_
  refine SatL.nil (SatE.thenC ?_)
  refine SatC.seq ?_
  refine SatC.weak (e' := [(0, _), (3, _), (4, _), (5, _)]) (by repeat constructor) ?_
  refine SatC.region ?_
  refine SatL.pu (RunV.move rfl) rfl ?_
  refine SatL.pu (RunV.eql rfl rfl) rfl ?_
  refine SatL.pu (RunV.move rfl) rfl ?_
  refine SatL.guard rfl rfl rfl (fun h1 => ?_) (fun h1 => ?_)
  · (try simp only [cx, ne_eq] at h1)
    try (exfalso; (first | omega | exact h1 trivial | contradiction); done)
    all_goals
    refine SatL.pu (RunV.move rfl) rfl ?_
    refine SatL.pu (RunV.pick_t rfl rfl) rfl ?_
    refine SatL.pu (RunV.move rfl) rfl ?_
    refine SatL.guard rfl rfl rfl (fun h2 => ?_) (fun h2 => ?_)
    · (try simp only [cx, ne_eq] at h2)
      try (exfalso; (first | omega | exact h2 trivial | contradiction); done)
      all_goals
      refine SatL.pu (RunV.loadN hS rfl rfl (by repeat constructor) (by repeat constructor)) rfl ?_
      refine SatL.guard_y rfl rfl ?_
      refine SatL.pu (RunV.build rfl (by simp [go_sem]; try rfl)) rfl ?_
      refine SatL.guard_y rfl rfl ?_
      refine SatL.pu (RunV.bin rfl rfl (guard30 _ _ _ _ _ _ _ _ _ _ _ _) (run_eql30 _ _ _ _ _ _ _ _ _)) rfl ?_
      refine SatL.pu (RunV.pick_t rfl rfl) rfl ?_
      refine SatL.pu (RunV.assign rfl) rfl ?_
      refine SatL.nil (SatE.thenC ?_)
      refine SatC.ret ?_
      refine SatE.ret1 rfl rfl ?_
      exact ⟨congrArg Value.bool (by decide), hS.sub (List.nil_sublist _)⟩
    · (try simp only [cx, ne_eq] at h2)
      try (exfalso; (first | omega | exact h2 trivial | contradiction); done)
      all_goals
      refine SatL.guard_n rfl rfl rfl rfl ?_
      refine SatL.guard_n rfl rfl rfl rfl ?_
      refine SatL.pu (RunV.pick_f rfl rfl) rfl ?_
      refine SatL.pu (RunV.assign rfl) rfl ?_
      refine SatL.nil (SatE.thenC ?_)
      refine SatC.ret ?_
      refine SatE.ret1 rfl rfl ?_
      exact ⟨congrArg Value.bool (by decide), hS.sub (List.nil_sublist _)⟩
  · (try simp only [cx, ne_eq] at h1)
    try (exfalso; (first | omega | exact h1 trivial | contradiction); done)
    all_goals
    refine SatL.pu (RunV.pick_f rfl rfl) rfl ?_
    refine SatL.pu (RunV.move rfl) rfl ?_
    refine SatL.guard_n rfl rfl rfl rfl ?_
    refine SatL.guard_n rfl rfl rfl rfl ?_
    refine SatL.guard_n rfl rfl rfl rfl ?_
    refine SatL.pu (RunV.pick_f rfl rfl) rfl ?_
    refine SatL.pu (RunV.assign rfl) rfl ?_
    refine SatL.nil (SatE.thenC ?_)
    refine SatC.ret ?_
    refine SatE.ret1 rfl rfl ?_
    exact ⟨congrArg Value.bool (by decide), hS.sub (List.nil_sublist _)⟩
/-- What a law wants of a table behind a step. -/
def Stepped (w w' : World) (b : Nat) (most last j : Int) (n : Nat) (B : List (Nat × Obj)) : Prop := ∃ rows' v' B' last', Asc rows' ∧ AllB rows' last' ∧ rows'.length ≤ n + 1 ∧ (last ≤ last' ∧ last' ≤ j) ∧ Sl 30 4 v' (rows'.map tr) B' ∧ St w (b :: B.map Prod.fst) ((b, C 58 (tc most v' last')) :: B') w'
section
variable {b : Nat} {most last : Int} {v : Value} {rows : List Tr} {B : List (Nat × Obj)} {w : World}
theorem put_law (key : List UInt8) (x ix : Int) (hsl : Sl 30 4 v (rows.map tr) B) (hl : rows.length ≤ 100000) (hown : Own w ((b, C 58 (tc most v last)) :: B)) (hm : ¬ most = 0) (ha : Asc rows) (hb : AllB rows last) (hx : last ≤ ix) : Ret Try.prog 9 #[.pointer (some ⟨b, 0, none⟩), str key, .int .i64 x, .int .u64 ix] w fun u w' => Stepped w w' b most last ix rows.length B := by
  refine Ret.mono (put_any key x ix hsl hl hown hm) ?_
  rintro u w' ⟨k, fd, hfd, ⟨_, _, _, h⟩ | ⟨_, _, v', B', hsl', h⟩⟩
  · exact ⟨rows, v, B, last, ha, hb, by omega, ⟨Int.le_refl _, hx⟩, hsl, St.callN (St.init hown) h⟩
  · exact ⟨_, v', B', max last ix, asc_put ha hfd rfl, allb_put hb hx hfd, put_length _ _ _ _, ⟨by omega, by omega⟩, hsl', h⟩
theorem drop_law (key : List UInt8) (ix : Int) (hsl : Sl 30 4 v (rows.map tr) B) (hl : rows.length ≤ 100000) (hown : Own w ((b, C 58 (tc most v last)) :: B)) (hm : ¬ most = 0) (ha : Asc rows) (hb : AllB rows last) (hx : last ≤ ix) : Ret Try.prog 8 #[.pointer (some ⟨b, 0, none⟩), str key, .int .u64 ix] w fun u w' => Stepped w w' b most last ix rows.length B := by
  refine Ret.mono (drop_any key ix hsl hl hown hm) ?_
  rintro u w' ⟨k, fd, hfd, _, ⟨_, h⟩ | ⟨_, v', B', hsl', h⟩⟩
  · exact ⟨rows, v, B, last, ha, hb, by omega, ⟨Int.le_refl _, hx⟩, hsl, St.callN (St.init hown) h⟩
  · exact ⟨_, v', B', max last ix, asc_erase k ha, allb_erase k hb (by omega), Nat.le_succ_of_le (erase_length _ _), ⟨by omega, by omega⟩, hsl', h⟩
end
end Go.Proofs.Ytdoinfpkfbfjaaa
