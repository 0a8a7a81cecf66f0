/- The roll: a map of news, its own and the others'; for any seat that reaches it. -/
import Derived.Test.YtpbfjadkimojeaaRk
import Derived.Test.YtpbfjadkimojeaaK13
set_option linter.unusedSimpArgs false
set_option linter.unusedVariables false
set_option maxRecDepth 100000
set_option maxHeartbeats 1000000
namespace Go.Proofs.Ytpbfjadkimojeaa
open Go.RowKit
abbrev Mem := List (Int × Upd)
@[reducible] def uv (u : Upd) : Value := .agg #[.int .i64 u.n, .int .u32 u.i, .int .i64 u.s]
def look : Mem → Int → Option Upd
  | [], _ => none
  | p :: ps, k => if k = p.1 then some p.2 else look ps k
def lput : Mem → Int → Upd → Mem
  | [], k, u => [(k, u)]
  | p :: ps, k, u => if k = p.1 then (k, u) :: ps else p :: lput ps k u
def mv (m : Mem) : List (Int × Value) := m.map fun p => (p.1, uv p.2)
theorem mv_get (m : Mem) (k : Int) : kget (mv m) k = (look m k).map uv := by
  induction m with
  | nil => rfl
  | cons p ps ih =>
    unfold mv at *
    rw [List.map_cons]
    unfold kget look
    by_cases e : k = p.1
    · rw [if_pos e, if_pos e]; rfl
    · rw [if_neg e, if_neg e]; exact ih
theorem mv_put (m : Mem) (k : Int) (u : Upd) : kput (mv m) k (uv u) = mv (lput m k u) := by
  induction m with
  | nil => rfl
  | cons p ps ih =>
    unfold mv at *
    rw [List.map_cons]
    unfold kput lput
    by_cases e : k = p.1
    · rw [if_pos e, if_pos e]; rfl
    · rw [if_neg e, if_neg e, ih]; rfl
theorem look_put (m : Mem) (k : Int) (u : Upd) (k' : Int) : look (lput m k u) k' = if k' = k then some u else look m k' := by
  induction m with
  | nil => rfl
  | cons p ps ih =>
    unfold lput
    by_cases e : k = p.1
    · rw [if_pos e]
      unfold look
      by_cases e2 : k' = k
      · rw [if_pos e2, if_pos e2]
      · rw [if_neg e2, if_neg e2, if_neg (by rw [← e]; exact e2)]
    · rw [if_neg e]
      unfold look
      by_cases e2 : k' = p.1
      · rw [if_pos e2, if_neg (fun h => e (h.symm.trans e2)), if_pos e2]
      · rw [if_neg e2, if_neg e2, ih]
def z3 : Upd := ⟨0, 0, 0⟩
def at_ (m : Mem) (k : Int) : Upd := (look m k).getD z3
theorem mv_at (m : Mem) (k : Int) : (kget (mv m) k).getD (uv z3) = .agg #[.int .i64 (at_ m k).n, .int .u32 (at_ m k).i, .int .i64 (at_ m k).s] := by
  rw [mv_get]
  unfold at_
  cases look m k <;> rfl
theorem mv_is (m : Mem) (k : Int) : (kget (mv m) k).isSome = (look m k).isSome := by
  rw [mv_get]
  cases look m k <;> rfl
theorem mv_two (m : Mem) (k : Int) : Value.tuple #[(kget (mv m) k).getD (uv z3), .bool (kget (mv m) k).isSome] = .tuple #[.agg #[.int .i64 (at_ m k).n, .int .u32 (at_ m k).i, .int .i64 (at_ m k).s], .bool (look m k).isSome] := by
  rw [mv_at, mv_is]
structure Chg where
  k : Int
  a : Upd
  b : Upd
deriving DecidableEq
@[reducible] def ch (c : Chg) : List Value := [.int .i64 c.k, .int .i64 c.a.n, .int .u32 c.a.i, .int .i64 c.a.s, .int .i64 c.b.n, .int .u32 c.b.i, .int .i64 c.b.s]
def mineC (me : Int) (m : Mem) (u : Upd) : Chg × Mem :=
  if (at_ m me).s = 3 ∨ ¬ abv u (at_ m me) = true then (⟨0, z3, z3⟩, m)
  else if ¬ (inc (at_ m me).i u.i).2 = 0 then (⟨4, at_ m me, at_ m me⟩, m)
  else (⟨3, at_ m me, ⟨me, (inc (at_ m me).i u.i).1, 0⟩⟩, lput m me ⟨me, (inc (at_ m me).i u.i).1, 0⟩)
def right' (u : Upd) : Prop := 0 ≤ u.n ∧ u.n < 8 ∧ 0 ≤ u.s ∧ u.s ≤ 3
def applyC (me : Int) (m : Mem) (u : Upd) : Chg × Mem :=
  if ¬ (0 ≤ u.n ∧ u.n < 8 ∧ 0 ≤ u.s ∧ u.s ≤ 3) then (⟨0, z3, z3⟩, m)
  else if u.n = me then mineC me m u
  else if (look m u.n).isSome = false then (⟨1, z3, u⟩, lput m u.n u)
  else if abv u (at_ m u.n) = true then (⟨2, at_ m u.n, u⟩, lput m u.n u)
  else (⟨0, z3, z3⟩, m)
/-- All that is kept has numbers of 32 bits. -/
def InB (m : Mem) : Prop := ∀ p ∈ m, 0 ≤ p.2.i ∧ p.2.i ≤ 4294967295
theorem inb_at {m : Mem} (h : InB m) (k : Int) : 0 ≤ (at_ m k).i ∧ (at_ m k).i ≤ 4294967295 := by
  unfold at_
  induction m with
  | nil => simp [look, z3]
  | cons p ps ih =>
    unfold look
    split
    · exact h p List.mem_cons_self
    · exact ih fun q hq => h q (List.mem_cons_of_mem _ hq)
theorem inb_put {m : Mem} (h : InB m) (k : Int) {u : Upd} (hu : 0 ≤ u.i ∧ u.i ≤ 4294967295) : InB (lput m k u) := by
  induction m with
  | nil => intro p hp; simp only [lput, List.mem_singleton] at hp; subst hp; exact hu
  | cons q qs ih =>
    unfold lput
    have hqs : InB qs := fun p hp => h p (List.mem_cons_of_mem _ hp)
    split
    · intro p hp
      rcases List.mem_cons.1 hp with rfl | hp
      · exact hu
      · exact hqs p hp
    · intro p hp
      rcases List.mem_cons.1 hp with rfl | hp
      · exact h _ List.mem_cons_self
      · exact ih hqs p hp
theorem inc_b {o i : Int} (ho : 0 ≤ o ∧ o ≤ 4294967295) (hi : 0 ≤ i ∧ i ≤ 4294967295) : 0 ≤ (inc o i).1 ∧ (inc o i).1 ≤ 4294967295 := by
  unfold inc
  split <;> simp <;> omega
theorem inb_mine {me : Int} {m : Mem} {u : Upd} (h : InB m) (hu : 0 ≤ u.i ∧ u.i ≤ 4294967295) : InB (mineC me m u).2 := by
  unfold mineC
  split
  · exact h
  · split
    · exact h
    · exact inb_put h _ (inc_b (inb_at h me) hu)
theorem inb_apply {me : Int} {m : Mem} {u : Upd} (h : InB m) (hu : 0 ≤ u.i ∧ u.i ≤ 4294967295) : InB (applyC me m u).2 := by
  unfold applyC
  split
  · exact h
  · split
    · exact inb_mine h hu
    · split
      · exact inb_put h _ hu
      · split
        · exact inb_put h _ hu
        · exact h
@[reducible] def eI : Int → Value := fun n => Value.int .i64 n
@[reducible] def rc (me : Int) (mb : Nat) : List Value := [.int .i64 me, .map (some mb)]
section
variable {b mb : Nat} {me : Int} {o : Obj} {m : Mem} {w : World}
theorem rnone_any (hown : Own w [(b, C 63 (rc me mb)), (mb, o)]) : Ret Try.prog 29 #[.pointer (some ⟨b, 0, none⟩)] w fun v w' => v = .bool false ∧ St w [] [] w' := by
  have hS := St.init hown
  simp only [List.map_cons, List.map_nil] at hS
  refine Ret.enter Try.func29 Try.ntmps29 rfl rfl ?_
  simp only [argEnv, Nat.reduceAdd]
  refine SatC.seq ?_
  refine SatC.region ?_
  refine SatL.pu (RunV.assign rfl) rfl ?_
  refine SatL.nil (SatE.thenC ?_)
  refine SatC.seq ?_
  refine SatC.region ?_
  refine SatL.pu (RunV.move rfl) rfl ?_
  refine SatL.pu (RunV.eqlPtrNil rfl rfl rfl) rfl ?_
  refine SatL.pu (RunV.move rfl) rfl ?_
  refine SatL.guard rfl rfl rfl (fun h1 => ?_) (fun h1 => ?_)
  · (try simp only [cx, ne_eq] at h1)
    try (exfalso; (first | omega | exact h1 trivial | contradiction); done)
    all_goals
    refine SatL.pu (RunV.move rfl) rfl ?_
    refine SatL.guard_y rfl rfl ?_
    first | refine SatL.pu (RunV.nil_ptr rfl) rfl ?_ | refine SatL.pu (RunV.nil_func rfl) rfl ?_ | refine SatL.pu (RunV.nil_yield rfl) rfl ?_
    refine SatL.guard_y rfl rfl ?_
    first | refine SatL.pu (RunV.fieldAddrL rfl rfl rfl) rfl ?_ | refine SatL.pu (RunV.fieldAddr rfl rfl rfl) rfl ?_
    refine SatL.guard_y rfl rfl ?_
    refine SatL.pu (RunV.load1 hS rfl rfl (by repeat constructor) rfl) rfl ?_
    refine SatL.guard_y rfl rfl ?_
    refine SatL.pu (RunV.eqlMapNil rfl rfl rfl) rfl ?_
    refine SatL.pu (RunV.pick_f rfl rfl) rfl ?_
    refine SatL.pu (RunV.assign rfl) rfl ?_
    refine SatL.nil (SatE.thenC ?_)
    refine SatC.ret ?_
    refine SatE.ret1 rfl rfl ?_
    exact ⟨rfl, St.ro hown hS (by repeat constructor)⟩
  · (try simp only [cx, ne_eq] at h1)
    try (exfalso; (first | omega | exact h1 trivial | contradiction); done)
    all_goals
    refine SatL.guard_n rfl rfl rfl rfl ?_
    refine SatL.guard_n rfl rfl rfl rfl ?_
    refine SatL.guard_n rfl rfl rfl rfl ?_
    refine SatL.guard_n rfl rfl rfl rfl ?_
    refine SatL.pu (RunV.pick_t rfl rfl) rfl ?_
    refine SatL.pu (RunV.assign rfl) rfl ?_
    refine SatL.nil (SatE.thenC ?_)
    refine SatC.ret ?_
    refine SatE.ret1 rfl rfl ?_
    exact ⟨rfl, St.ro hown hS (by repeat constructor)⟩
theorem self_any (hown : Own w [(b, C 63 (rc me mb)), (mb, o)]) (ho : IsMp eI o (mv m)) : Ret Try.prog 9 #[.pointer (some ⟨b, 0, none⟩)] w fun v w' => v = uv (at_ m me) ∧ St w [] [] w' := by
  have hS := St.init hown
  simp only [List.map_cons, List.map_nil] at hS
  refine Ret.enter Try.func9 Try.ntmps9 rfl rfl ?_
  simp only [argEnv, Nat.reduceAdd]
  refine SatC.seq ?_
  refine SatC.region ?_
  refine SatL.op rfl (OpW.alloc hS rfl rfl (by repeat constructor) ?_)
  clear hS
  intro b2 w1 _ hS
  refine SatL.nil (SatE.thenC ?_)
  refine SatC.seq ?_
  refine SatC.seq ?_
  refine SatC.region ?_
  refine SatL.pu (RunV.move rfl) rfl ?_
  refine SatL.op rfl (OpW.enter rfl rfl rfl (rfl) (rnone_any (hS.ownOf (by repeat constructor))) ?_)
  rintro r2 w2 ⟨rfl, h⟩
  replace hS := St.callN hS h
  refine SatL.nil (SatE.thenC ?_)
  refine SatC.cond rfl (fun h1 => ?_) (fun h1 => ?_)
  · (try simp only [cx, ne_eq] at h1)
    try (exfalso; (first | omega | exact h1 trivial | contradiction); done)
    all_goals
    refine SatC.seq ?_
    refine SatC.region ?_
    refine SatL.pu (RunV.build rfl (by simp [go_sem]; try rfl)) rfl ?_
    refine SatL.op rfl (OpW.store hS rfl rfl (by repeat constructor) (by repeat constructor) (by repeat constructor) rfl rfl ?_)
    clear hS
    intro w3 hS
    refine SatL.nil (SatE.thenC ?_)
    refine SatC.ret (SatE.then_ret ?_)
    refine SatE.retG1 hS rfl (.cellN rfl rfl (by repeat constructor) (by repeat constructor)) ?_
    exact ⟨rfl, St.ro hown (hS.sb (by repeat constructor)) (by repeat constructor)⟩
  · (try simp only [cx, ne_eq] at h1)
    try (exfalso; (first | omega | exact h1 trivial | contradiction); done)
    all_goals
    refine SatC.skip (SatE.thenC ?_)
    refine SatC.seq ?_
    refine SatC.drawnT 9 hS (hS) (by kernel_rfl) ?_
    clear hS
    intro w3 hh hS hD
    refine SatD.tk 0 rfl hD (fun _ hw => RunV.move rfl) ?_
    first | refine SatD.tk 1 rfl hD (fun _ hw => RunV.nil_ptr rfl) ?_ | refine SatD.tk 1 rfl hD (fun _ hw => RunV.nil_func rfl) ?_ | refine SatD.tk 1 rfl hD (fun _ hw => RunV.nil_yield rfl) ?_
    first | refine SatD.tk 2 rfl hD (fun _ hw => RunV.fieldAddrL rfl rfl rfl) ?_ | refine SatD.tk 2 rfl hD (fun _ hw => RunV.fieldAddr rfl rfl rfl) ?_
    refine SatD.tk 3 rfl hD (fun _ hw => RunV.load1 hw rfl rfl (by repeat constructor) rfl) ?_
    refine SatD.tk 4 rfl hD (fun _ hw => RunV.move rfl) ?_
    first | refine SatD.tk 5 rfl hD (fun _ hw => RunV.nil_ptr rfl) ?_ | refine SatD.tk 5 rfl hD (fun _ hw => RunV.nil_func rfl) ?_ | refine SatD.tk 5 rfl hD (fun _ hw => RunV.nil_yield rfl) ?_
    first | refine SatD.tk 6 rfl hD (fun _ hw => RunV.fieldAddrL rfl rfl rfl) ?_ | refine SatD.tk 6 rfl hD (fun _ hw => RunV.fieldAddr rfl rfl rfl) ?_
    refine SatD.tk 7 rfl hD (fun _ hw => RunV.load1 hw rfl rfl (by repeat constructor) rfl) ?_
    refine SatD.tk 8 rfl hD (fun _ hw => RunV.cast (RunV.lookup1 (keyInt rfl) hw rfl rfl rfl rfl (by repeat constructor) (by assumption)) (mv_at _ _)) ?_
    refine SatD.effF (by kernel_rfl) rfl rfl (OpW.store hS rfl rfl (by repeat constructor) (by repeat constructor) (by repeat constructor) rfl rfl ?_)
    clear hS
    intro w4 hS
    refine SatD.done 0 (by kernel_rfl) (SatE.thenC ?_)
    clear hD
    refine SatC.ret ?_
    refine SatE.retG1 hS rfl (.cellN rfl rfl (by repeat constructor) (by repeat constructor)) ?_
    exact ⟨rfl, St.ro hown (hS.sb (by repeat constructor)) (by repeat constructor)⟩
theorem get_any (n : Int) (hown : Own w [(b, C 63 (rc me mb)), (mb, o)]) (ho : IsMp eI o (mv m)) : Ret Try.prog 16 #[.pointer (some ⟨b, 0, none⟩), .int .i64 n] w fun v w' => v = .tuple #[uv (at_ m n), .bool (look m n).isSome] ∧ St w [] [] w' := by
  have hS := St.init hown
  simp only [List.map_cons, List.map_nil] at hS
  refine Ret.enter Try.func16 Try.ntmps16 rfl rfl ?_
  simp only [argEnv, Nat.reduceAdd]
  refine SatC.seq ?_
  refine SatC.region ?_
  refine SatL.op rfl (OpW.alloc hS rfl rfl (by repeat constructor) ?_)
  clear hS
  intro b4 w1 _ hS
  refine SatL.pu (RunV.assign rfl) rfl ?_
  refine SatL.nil (SatE.thenC ?_)
  refine SatC.seq ?_
  refine SatC.seq ?_
  refine SatC.region ?_
  refine SatL.pu (RunV.move rfl) rfl ?_
  refine SatL.op rfl (OpW.enter rfl rfl rfl (rfl) (rnone_any (hS.ownOf (by repeat constructor))) ?_)
  rintro r2 w2 ⟨rfl, h⟩
  replace hS := St.callN hS h
  refine SatL.nil (SatE.thenC ?_)
  refine SatC.cond rfl (fun h1 => ?_) (fun h1 => ?_)
  · (try simp only [cx, ne_eq] at h1)
    try (exfalso; (first | omega | exact h1 trivial | contradiction); done)
    all_goals
    refine SatC.seq ?_
    refine SatC.region ?_
    refine SatL.pu (RunV.build rfl (by simp [go_sem]; try rfl)) rfl ?_
    refine SatL.op rfl (OpW.store hS rfl rfl (by repeat constructor) (by repeat constructor) (by repeat constructor) rfl rfl ?_)
    clear hS
    intro w3 hS
    refine SatL.pu (RunV.assign rfl) rfl ?_
    refine SatL.nil (SatE.thenC ?_)
    refine SatC.ret (SatE.then_ret ?_)
    refine SatE.retG2 hS rfl (.cellN rfl rfl (by repeat constructor) (by repeat constructor)) (.tmp rfl) ?_
    exact ⟨rfl, St.ro hown (hS.sb (by repeat constructor)) (by repeat constructor)⟩
  · (try simp only [cx, ne_eq] at h1)
    try (exfalso; (first | omega | exact h1 trivial | contradiction); done)
    all_goals
    refine SatC.skip (SatE.thenC ?_)
    refine SatC.seq ?_
    refine SatC.region ?_
    refine SatL.pu (RunV.move rfl) rfl ?_
    first | refine SatL.pu (RunV.nil_ptr rfl) rfl ?_ | refine SatL.pu (RunV.nil_func rfl) rfl ?_ | refine SatL.pu (RunV.nil_yield rfl) rfl ?_
    first | refine SatL.pu (RunV.fieldAddrL rfl rfl rfl) rfl ?_ | refine SatL.pu (RunV.fieldAddr rfl rfl rfl) rfl ?_
    refine SatL.pu (RunV.load1 hS rfl rfl (by repeat constructor) rfl) rfl ?_
    refine SatL.pu (RunV.move rfl) rfl ?_
    refine SatL.pu (RunV.cast (RunV.lookup2 (keyInt rfl) hS rfl rfl rfl rfl (by repeat constructor) (by assumption)) (mv_two _ _)) rfl ?_
    refine SatL.pu (RunV.move rfl) rfl ?_
    refine SatL.pu (RunV.extract rfl rfl) rfl ?_
    refine SatL.pu (RunV.extract rfl rfl) rfl ?_
    refine SatL.op rfl (OpW.alloc hS rfl rfl (by repeat constructor) ?_)
    clear hS
    intro b6 w3 _ hS
    refine SatL.op rfl (OpW.store hS rfl rfl (by repeat constructor) (by repeat constructor) (by repeat constructor) rfl rfl ?_)
    clear hS
    intro w4 hS
    refine SatL.pu (RunV.assign rfl) rfl ?_
    refine SatL.nil (SatE.thenC ?_)
    refine SatC.seq ?_
    refine SatC.weak (e' := [(4, _), (5, _), (6, _), (7, _)]) (by repeat constructor) ?_
    refine SatC.region ?_
    refine SatL.pu (RunV.loadN hS rfl rfl (by repeat constructor) (by repeat constructor)) rfl ?_
    refine SatL.pu (RunV.move rfl) rfl ?_
    refine SatL.op rfl (OpW.store hS rfl rfl (by repeat constructor) (by repeat constructor) (by repeat constructor) rfl rfl ?_)
    clear hS
    intro w5 hS
    refine SatL.pu (RunV.assign rfl) rfl ?_
    refine SatL.nil (SatE.thenC ?_)
    refine SatC.ret ?_
    refine SatE.retG2 hS rfl (.cellN rfl rfl (by repeat constructor) (by repeat constructor)) (.tmp rfl) ?_
    exact ⟨rfl, St.ro hown (hS.sb (by repeat constructor)) (by repeat constructor)⟩
theorem mine_any {u : Upd} (hown : Own w [(b, C 63 (rc me mb)), (mb, o)]) (ho : IsMp eI o (mv m)) (hm : InB m) (hu : 0 ≤ u.i ∧ u.i ≤ 4294967295) : Ret Try.prog 30 #[.pointer (some ⟨b, 0, none⟩), uv u] w fun v w' => v = .agg (ch (mineC me m u).1).toArray ∧ ∃ o', IsMp eI o' (mv (mineC me m u).2) ∧ St w [b, mb] [(b, C 63 (rc me mb)), (mb, o')] w' := by
  have hS := St.init hown
  simp only [List.map_cons, List.map_nil] at hS
  refine Ret.enter Try.func30 Try.ntmps30 rfl rfl ?_
  simp only [argEnv, Nat.reduceAdd]
  refine SatC.seq ?_
  refine SatC.region ?_
  refine SatL.op rfl (OpW.box hS rfl rfl (by repeat constructor) ?_)
  clear hS
  intro b3 w1 _ hS
  refine SatL.op rfl (OpW.alloc hS rfl rfl (by repeat constructor) ?_)
  clear hS
  intro b4 w2 _ hS
  refine SatL.nil (SatE.thenC ?_)
  refine SatC.seq ?_
  refine SatC.region ?_
  refine SatL.pu (RunV.move rfl) rfl ?_
  refine SatL.op rfl (OpW.enter rfl rfl rfl (rfl) (self_any (hS.ownOf (by repeat constructor)) (by assumption)) ?_)
  rintro r3 w3 ⟨rfl, h⟩
  replace hS := St.callN hS h
  refine SatL.op rfl (OpW.alloc hS rfl rfl (by repeat constructor) ?_)
  clear hS
  intro b5 w4 _ hS
  refine SatL.op rfl (OpW.store hS rfl rfl (by repeat constructor) (by repeat constructor) (by repeat constructor) rfl rfl ?_)
  clear hS
  intro w5 hS
  refine SatL.nil (SatE.thenC ?_)
  refine SatC.seq ?_
  refine SatC.seq ?_
  refine SatC.region ?_
  first | refine SatL.pu (RunV.fieldAddrL rfl rfl rfl) rfl ?_ | refine SatL.pu (RunV.fieldAddr rfl rfl rfl) rfl ?_
  refine SatL.pu (RunV.load1 hS rfl rfl (by repeat constructor) rfl) rfl ?_
  refine SatL.pu (RunV.eql rfl rfl) rfl ?_
  refine SatL.pu (RunV.move rfl) rfl ?_
  refine SatL.guard rfl rfl rfl (fun h1 => ?_) (fun h1 => ?_)
  · (try simp only [cx, ne_eq] at h1)
    try (exfalso; (first | omega | exact h1 trivial | contradiction); done)
    all_goals
    refine SatL.pu (RunV.loadN hS rfl rfl (by repeat constructor) (by repeat constructor)) rfl ?_
    refine SatL.guard_y rfl rfl ?_
    refine SatL.pu (RunV.loadN hS rfl rfl (by repeat constructor) (by repeat constructor)) rfl ?_
    refine SatL.guard_y rfl rfl ?_
    refine SatL.op rfl (OpW.enter rfl rfl rfl (rfl) (above_any _ _ _ _ _ _ _) ?_)
    rintro r6 w6 ⟨rfl, h⟩
    replace hS := St.callN hS h
    refine SatL.guard_y rfl rfl ?_
    refine SatL.pu (RunV.not rfl) rfl ?_
    refine SatL.pu (RunV.pick_f rfl rfl) rfl ?_
    refine SatL.nil (SatE.thenC ?_)
    refine SatC.cond rfl (fun h2 => ?_) (fun h2 => ?_)
    · (try simp only [cx, ne_eq] at h2)
      try (exfalso; (first | omega | exact h2 trivial | contradiction); done)
      all_goals
      refine SatC.seq ?_
      refine SatC.weak (e' := [(4, _)]) (by repeat constructor) ?_
      refine SatC.region ?_
      refine SatL.pu (RunV.build rfl (by simp [go_sem]; try rfl)) rfl ?_
      refine SatL.op rfl (OpW.store hS rfl rfl (by repeat constructor) (by repeat constructor) (by repeat constructor) rfl rfl ?_)
      clear hS
      intro w7 hS
      refine SatL.nil (SatE.thenC ?_)
      refine SatC.ret (SatE.then_ret ?_)
      refine SatE.retG1 hS rfl (.cellN rfl rfl (by repeat constructor) (by repeat constructor)) ?_
      have e : mineC me m u = (⟨0, z3, z3⟩, m) := if_pos (by first | exact .inl (by assumption) | exact .inr (by assumption) | exact .inr (by simp_all))
      rw [e]
      exact ⟨rfl, o, ho, hS.sb (by repeat constructor)⟩
    · (try simp only [cx, ne_eq] at h2)
      try (exfalso; (first | omega | exact h2 trivial | contradiction); done)
      all_goals
      refine SatC.skip (SatE.thenC ?_)
      refine SatC.seq ?_
      refine SatC.weak (e' := [(0, _), (3, _), (4, _), (5, _)]) (by repeat constructor) ?_
      refine SatC.region ?_
      first | refine SatL.pu (RunV.fieldAddrL rfl rfl rfl) rfl ?_ | refine SatL.pu (RunV.fieldAddr rfl rfl rfl) rfl ?_
      refine SatL.pu (RunV.load1 hS rfl rfl (by repeat constructor) rfl) rfl ?_
      refine SatL.pu (RunV.loadN hS rfl rfl (by repeat constructor) (by repeat constructor)) rfl ?_
      refine SatL.op rfl (OpW.enter rfl rfl rfl (rfl) (refute_any _ _ _ _ _ (by first | assumption | exact inb_at (by assumption) _) (by assumption)) ?_)
      rintro r7 w7 ⟨rfl, h⟩
      replace hS := St.callN hS h
      refine SatL.pu (RunV.move rfl) rfl ?_
      refine SatL.pu (RunV.extract rfl rfl) rfl ?_
      refine SatL.pu (RunV.extract rfl rfl) rfl ?_
      refine SatL.pu (RunV.assign rfl) rfl ?_
      refine SatL.pu (RunV.assign rfl) rfl ?_
      refine SatL.nil (SatE.thenC ?_)
      refine SatC.seq ?_
      refine SatC.seq ?_
      refine SatC.region ?_
      refine SatL.pu (RunV.move rfl) rfl ?_
      refine SatL.pu (RunV.neq rfl rfl) rfl ?_
      refine SatL.nil (SatE.thenC ?_)
      refine SatC.cond rfl (fun h3 => ?_) (fun h3 => ?_)
      · (try simp only [cx, ne_eq] at h3)
        try (exfalso; (first | omega | exact h3 trivial | contradiction); done)
        all_goals
        refine SatC.seq ?_
        refine SatC.weak (e' := [(4, _), (5, _)]) (by repeat constructor) ?_
        refine SatC.region ?_
        refine SatL.pu (RunV.loadN hS rfl rfl (by repeat constructor) (by repeat constructor)) rfl ?_
        refine SatL.pu (RunV.loadN hS rfl rfl (by repeat constructor) (by repeat constructor)) rfl ?_
        refine SatL.pu (RunV.build rfl (by simp [go_sem]; try rfl)) rfl ?_
        refine SatL.op rfl (OpW.store hS rfl rfl (by repeat constructor) (by repeat constructor) (by repeat constructor) rfl rfl ?_)
        clear hS
        intro w8 hS
        refine SatL.nil (SatE.thenC ?_)
        refine SatC.ret (SatE.then_ret ?_)
        refine SatE.retG1 hS rfl (.cellN rfl rfl (by repeat constructor) (by repeat constructor)) ?_
        have e : mineC me m u = (⟨4, at_ m me, at_ m me⟩, m) := (if_neg (by simp_all)).trans (if_pos (by assumption))
        rw [e]
        exact ⟨rfl, o, ho, hS.sb (by repeat constructor)⟩
      · (try simp only [cx, ne_eq] at h3)
        try (exfalso; (first | omega | exact h3 trivial | contradiction); done)
        all_goals
        refine SatC.skip (SatE.thenC ?_)
        refine SatC.seq ?_
        refine SatC.region ?_
        refine SatL.pu (RunV.move rfl) rfl ?_
        first | refine SatL.pu (RunV.nil_ptr rfl) rfl ?_ | refine SatL.pu (RunV.nil_func rfl) rfl ?_ | refine SatL.pu (RunV.nil_yield rfl) rfl ?_
        first | refine SatL.pu (RunV.fieldAddrL rfl rfl rfl) rfl ?_ | refine SatL.pu (RunV.fieldAddr rfl rfl rfl) rfl ?_
        refine SatL.pu (RunV.load1 hS rfl rfl (by repeat constructor) rfl) rfl ?_
        refine SatL.pu (RunV.move rfl) rfl ?_
        refine SatL.pu (RunV.build rfl (by simp [go_sem]; try rfl)) rfl ?_
        refine SatL.op rfl (OpW.alloc hS rfl rfl (by repeat constructor) ?_)
        clear hS
        intro b8 w8 _ hS
        refine SatL.op rfl (OpW.store hS rfl rfl (by repeat constructor) (by repeat constructor) (by repeat constructor) rfl rfl ?_)
        clear hS
        intro w9 hS
        refine SatL.nil (SatE.thenC ?_)
        refine SatC.seq ?_
        refine SatC.weak (e' := [(0, _), (4, _), (5, _), (8, _)]) (by repeat constructor) ?_
        refine SatC.drawnT 9 hS (hS) (by kernel_rfl) ?_
        clear hS
        intro w10 hh hS hD
        refine SatD.tk 0 rfl hD (fun _ hw => RunV.move rfl) ?_
        first | refine SatD.tk 1 rfl hD (fun _ hw => RunV.nil_ptr rfl) ?_ | refine SatD.tk 1 rfl hD (fun _ hw => RunV.nil_func rfl) ?_ | refine SatD.tk 1 rfl hD (fun _ hw => RunV.nil_yield rfl) ?_
        first | refine SatD.tk 2 rfl hD (fun _ hw => RunV.fieldAddrL rfl rfl rfl) ?_ | refine SatD.tk 2 rfl hD (fun _ hw => RunV.fieldAddr rfl rfl rfl) ?_
        refine SatD.tk 3 rfl hD (fun _ hw => RunV.load1 hw rfl rfl (by repeat constructor) rfl) ?_
        refine SatD.tk 4 rfl hD (fun _ hw => RunV.move rfl) ?_
        first | refine SatD.tk 5 rfl hD (fun _ hw => RunV.nil_ptr rfl) ?_ | refine SatD.tk 5 rfl hD (fun _ hw => RunV.nil_func rfl) ?_ | refine SatD.tk 5 rfl hD (fun _ hw => RunV.nil_yield rfl) ?_
        first | refine SatD.tk 6 rfl hD (fun _ hw => RunV.fieldAddrL rfl rfl rfl) ?_ | refine SatD.tk 6 rfl hD (fun _ hw => RunV.fieldAddr rfl rfl rfl) ?_
        refine SatD.tk 7 rfl hD (fun _ hw => RunV.load1 hw rfl rfl (by repeat constructor) rfl) ?_
        refine SatD.tk 8 rfl hD (fun _ hw => RunV.loadN hw rfl rfl (by repeat constructor) (by repeat constructor)) ?_
        refine SatD.effF (by kernel_rfl) rfl rfl (OpW.mapUpdate (keyInt rfl) hS rfl rfl rfl rfl (by assumption) _ (fun o' => by repeat constructor) ?_)
        clear hS
        intro o11 w11 ho11 hS
        refine SatD.done 0 (by kernel_rfl) (SatE.thenC ?_)
        clear hD
        refine SatC.seq ?_
        refine SatC.region ?_
        refine SatL.pu (RunV.loadN hS rfl rfl (by repeat constructor) (by repeat constructor)) rfl ?_
        refine SatL.pu (RunV.loadN hS rfl rfl (by repeat constructor) (by repeat constructor)) rfl ?_
        refine SatL.pu (RunV.build rfl (by simp [go_sem]; try rfl)) rfl ?_
        refine SatL.op rfl (OpW.store hS rfl rfl (by repeat constructor) (by repeat constructor) (by repeat constructor) rfl rfl ?_)
        clear hS
        intro w12 hS
        refine SatL.nil (SatE.thenC ?_)
        refine SatC.ret ?_
        refine SatE.retG1 hS rfl (.cellN rfl rfl (by repeat constructor) (by repeat constructor)) ?_
        have e : mineC me m u = (⟨3, at_ m me, ⟨me, (inc (at_ m me).i u.i).1, 0⟩⟩, lput m me ⟨me, (inc (at_ m me).i u.i).1, 0⟩) := (if_neg (by simp_all)).trans (if_neg (by simp_all))
        rw [e]
        exact ⟨rfl, _, by rw [← mv_put]; assumption, hS.sb (by repeat constructor)⟩
  · (try simp only [cx, ne_eq] at h1)
    try (exfalso; (first | omega | exact h1 trivial | contradiction); done)
    all_goals
    refine SatL.guard_n rfl rfl rfl rfl ?_
    refine SatL.guard_n rfl rfl rfl rfl ?_
    refine SatL.guard_n rfl rfl rfl rfl ?_
    refine SatL.pu (RunV.pick_t rfl rfl) rfl ?_
    refine SatL.nil (SatE.thenC ?_)
    refine SatC.cond_t rfl ?_
    refine SatC.seq ?_
    refine SatC.weak (e' := [(4, _)]) (by repeat constructor) ?_
    refine SatC.region ?_
    refine SatL.pu (RunV.build rfl (by simp [go_sem]; try rfl)) rfl ?_
    refine SatL.op rfl (OpW.store hS rfl rfl (by repeat constructor) (by repeat constructor) (by repeat constructor) rfl rfl ?_)
    clear hS
    intro w6 hS
    refine SatL.nil (SatE.thenC ?_)
    refine SatC.ret (SatE.then_ret ?_)
    refine SatE.retG1 hS rfl (.cellN rfl rfl (by repeat constructor) (by repeat constructor)) ?_
    have e : mineC me m u = (⟨0, z3, z3⟩, m) := if_pos (.inl (by assumption))
    rw [e]
    exact ⟨rfl, o, ho, hS.sb (by repeat constructor)⟩
theorem apply_any {u : Upd} (hown : Own w [(b, C 63 (rc me mb)), (mb, o)]) (ho : IsMp eI o (mv m)) (hm : InB m) (hu : 0 ≤ u.i ∧ u.i ≤ 4294967295) : Ret Try.prog 10 #[.pointer (some ⟨b, 0, none⟩), uv u] w fun v w' => v = .agg (ch (applyC me m u).1).toArray ∧ ∃ o', IsMp eI o' (mv (applyC me m u).2) ∧ St w [b, mb] [(b, C 63 (rc me mb)), (mb, o')] w' := by
  have hS := St.init hown
  simp only [List.map_cons, List.map_nil] at hS
  refine Ret.enter Try.func10 Try.ntmps10 rfl rfl ?_
  simp only [argEnv, Nat.reduceAdd]
  refine SatC.seq ?_
  refine SatC.region ?_
  refine SatL.op rfl (OpW.box hS rfl rfl (by repeat constructor) ?_)
  clear hS
  intro b3 w1 _ hS
  refine SatL.op rfl (OpW.alloc hS rfl rfl (by repeat constructor) ?_)
  clear hS
  intro b4 w2 _ hS
  refine SatL.nil (SatE.thenC ?_)
  refine SatC.seq ?_
  refine SatC.seq ?_
  refine SatC.region ?_
  refine SatL.pu (RunV.move rfl) rfl ?_
  refine SatL.op rfl (OpW.enter rfl rfl rfl (rfl) (rnone_any (hS.ownOf (by repeat constructor))) ?_)
  rintro r3 w3 ⟨rfl, h⟩
  replace hS := St.callN hS h
  refine SatL.pu (RunV.move rfl) rfl ?_
  refine SatL.guard rfl rfl rfl (fun h1 => ?_) (fun h1 => ?_)
  · (try simp only [cx, ne_eq] at h1)
    try (exfalso; (first | omega | exact h1 trivial | contradiction); done)
    all_goals
    refine SatL.pu (RunV.loadN hS rfl rfl (by repeat constructor) (by repeat constructor)) rfl ?_
    refine SatL.guard_y rfl rfl ?_
    refine SatL.op rfl (OpW.enter rfl rfl rfl (rfl) (right_any _ _ _ _) ?_)
    rintro r4 w4 ⟨rfl, h⟩
    replace hS := St.callN hS h
    refine SatL.guard_y rfl rfl ?_
    refine SatL.pu (RunV.not rfl) rfl ?_
    refine SatL.pu (RunV.pick_f rfl rfl) rfl ?_
    refine SatL.nil (SatE.thenC ?_)
    refine SatC.cond rfl (fun h2 => ?_) (fun h2 => ?_)
    · (try simp only [cx, ne_eq] at h2)
      try (exfalso; (first | omega | exact h2 trivial | contradiction); done)
      all_goals
      refine SatC.seq ?_
      refine SatC.region ?_
      refine SatL.pu (RunV.build rfl (by simp [go_sem]; try rfl)) rfl ?_
      refine SatL.op rfl (OpW.store hS rfl rfl (by repeat constructor) (by repeat constructor) (by repeat constructor) rfl rfl ?_)
      clear hS
      intro w5 hS
      refine SatL.nil (SatE.thenC ?_)
      refine SatC.ret (SatE.then_ret ?_)
      refine SatE.retG1 hS rfl (.cellN rfl rfl (by repeat constructor) (by repeat constructor)) ?_
      have e : applyC me m u = (⟨0, z3, z3⟩, m) := if_pos (by assumption)
      rw [e]
      exact ⟨rfl, o, ho, hS.sb (by repeat constructor)⟩
    · (try simp only [cx, ne_eq] at h2)
      try (exfalso; (first | omega | exact h2 trivial | contradiction); done)
      all_goals
      refine SatC.skip (SatE.thenC ?_)
      refine SatC.seq ?_
      refine SatC.seq ?_
      refine SatC.drawnT 7 hS (hS) (by kernel_rfl) ?_
      clear hS
      intro w5 hh hS hD
      first | refine SatD.tk 0 rfl hD (fun _ hw => RunV.fieldAddrL rfl rfl rfl) ?_ | refine SatD.tk 0 rfl hD (fun _ hw => RunV.fieldAddr rfl rfl rfl) ?_
      refine SatD.tk 1 rfl hD (fun _ hw => RunV.load1 hw rfl rfl (by repeat constructor) rfl) ?_
      refine SatD.tk 2 rfl hD (fun _ hw => RunV.move rfl) ?_
      first | refine SatD.tk 3 rfl hD (fun _ hw => RunV.nil_ptr rfl) ?_ | refine SatD.tk 3 rfl hD (fun _ hw => RunV.nil_func rfl) ?_ | refine SatD.tk 3 rfl hD (fun _ hw => RunV.nil_yield rfl) ?_
      first | refine SatD.tk 4 rfl hD (fun _ hw => RunV.fieldAddrL rfl rfl rfl) ?_ | refine SatD.tk 4 rfl hD (fun _ hw => RunV.fieldAddr rfl rfl rfl) ?_
      refine SatD.tk 5 rfl hD (fun _ hw => RunV.load1 hw rfl rfl (by repeat constructor) rfl) ?_
      refine SatD.tk 6 rfl hD (fun _ hw => RunV.eql rfl rfl) ?_
      refine SatD.done 0 (by kernel_rfl) (SatE.thenC ?_)
      clear hD
      refine SatC.weak (e' := [(0, _), (3, _), (4, _), (21, _)]) (by repeat constructor) ?_
      refine SatC.cond rfl (fun h3 => ?_) (fun h3 => ?_)
      · (try simp only [cx, ne_eq] at h3)
        try (exfalso; (first | omega | exact h3 trivial | contradiction); done)
        all_goals
        refine SatC.seq ?_
        refine SatC.region ?_
        refine SatL.pu (RunV.move rfl) rfl ?_
        refine SatL.pu (RunV.loadN hS rfl rfl (by repeat constructor) (by repeat constructor)) rfl ?_
        refine SatL.op rfl (OpW.enter rfl rfl rfl (rfl) (mine_any (hS.ownT (by repeat constructor)) (by assumption) (by assumption) (by assumption)) ?_)
        rintro r6 w6 ⟨rfl, o6, ho6, h⟩
        replace hS := hS.callT (A := [(b, C 63 (rc me mb)), (mb, o)]) (by repeat constructor) h
        refine SatL.op rfl (OpW.store hS rfl rfl (by repeat constructor) (by repeat constructor) (by repeat constructor) rfl rfl ?_)
        clear hS
        intro w7 hS
        refine SatL.nil (SatE.thenC ?_)
        refine SatC.ret (SatE.then_ret ?_)
        refine SatE.retG1 hS rfl (.cellN rfl rfl (by repeat constructor) (by repeat constructor)) ?_
        have e : applyC me m u = mineC me m u := (if_neg (by simp_all)).trans (if_pos (by assumption))
        rw [e]
        exact ⟨rfl, _, by assumption, hS.sb (by repeat constructor)⟩
      · (try simp only [cx, ne_eq] at h3)
        try (exfalso; (first | omega | exact h3 trivial | contradiction); done)
        all_goals
        refine SatC.skip (SatE.thenC ?_)
        refine SatC.seq ?_
        refine SatC.drawnT 13 hS (hS) (by kernel_rfl) ?_
        clear hS
        intro w6 hh hS hD
        refine SatD.tk 0 rfl hD (fun _ hw => RunV.move rfl) ?_
        first | refine SatD.tk 1 rfl hD (fun _ hw => RunV.nil_ptr rfl) ?_ | refine SatD.tk 1 rfl hD (fun _ hw => RunV.nil_func rfl) ?_ | refine SatD.tk 1 rfl hD (fun _ hw => RunV.nil_yield rfl) ?_
        first | refine SatD.tk 2 rfl hD (fun _ hw => RunV.fieldAddrL rfl rfl rfl) ?_ | refine SatD.tk 2 rfl hD (fun _ hw => RunV.fieldAddr rfl rfl rfl) ?_
        refine SatD.tk 3 rfl hD (fun _ hw => RunV.load1 hw rfl rfl (by repeat constructor) rfl) ?_
        first | refine SatD.tk 4 rfl hD (fun _ hw => RunV.fieldAddrL rfl rfl rfl) ?_ | refine SatD.tk 4 rfl hD (fun _ hw => RunV.fieldAddr rfl rfl rfl) ?_
        refine SatD.tk 5 rfl hD (fun _ hw => RunV.load1 hw rfl rfl (by repeat constructor) rfl) ?_
        refine SatD.tk 6 rfl hD (fun _ hw => RunV.cast (RunV.lookup2 (keyInt rfl) hw rfl rfl rfl rfl (by repeat constructor) (by assumption)) (mv_two _ _)) ?_
        refine SatD.tk 7 rfl hD (fun _ hw => RunV.move rfl) ?_
        refine SatD.tk 8 rfl hD (fun _ hw => RunV.extract rfl rfl) ?_
        refine SatD.tk 9 rfl hD (fun _ hw => RunV.extract rfl rfl) ?_
        refine SatD.ef 10 rfl (OpW.alloc hS rfl rfl (by repeat constructor) ?_)
        clear hS
        intro b5 w7 _ hS
        refine keepS (hS.sb (by repeat constructor)) (fun hD => ?_)
        refine SatD.ef 11 rfl (OpW.store hS rfl rfl (by repeat constructor) (by repeat constructor) (by repeat constructor) rfl rfl ?_)
        clear hS
        intro w8 hS
        refine keepS (hS.sb (by repeat constructor)) (fun hD => ?_)
        refine SatD.tk 12 rfl hD (fun _ hw => RunV.assign rfl) ?_
        refine SatD.done 0 (by kernel_rfl) (SatE.thenC ?_)
        clear hD
        refine SatC.seq ?_
        refine SatC.block ?_
        refine SatC.seq ?_
        refine SatC.region ?_
        refine SatL.pu (RunV.move rfl) rfl ?_
        refine SatL.pu (RunV.not rfl) rfl ?_
        refine SatL.pu (RunV.assign rfl) rfl ?_
        refine SatL.nil (SatE.thenC ?_)
        refine SatC.weak (e' := [(0, _), (3, _), (4, _), (5, _), (35, _)]) (by repeat constructor) ?_
        refine SatC.cond rfl (fun h4 => ?_) (fun h4 => ?_)
        · (try simp only [cx, ne_eq] at h4)
          try (exfalso; (first | omega | exact h4 trivial | contradiction); done)
          all_goals
          refine SatC.seq ?_
          refine SatC.drawnT 7 hS (hS) (by kernel_rfl) ?_
          clear hS
          intro w9 hh hS hD
          refine SatD.tk 0 rfl hD (fun _ hw => RunV.move rfl) ?_
          first | refine SatD.tk 1 rfl hD (fun _ hw => RunV.nil_ptr rfl) ?_ | refine SatD.tk 1 rfl hD (fun _ hw => RunV.nil_func rfl) ?_ | refine SatD.tk 1 rfl hD (fun _ hw => RunV.nil_yield rfl) ?_
          first | refine SatD.tk 2 rfl hD (fun _ hw => RunV.fieldAddrL rfl rfl rfl) ?_ | refine SatD.tk 2 rfl hD (fun _ hw => RunV.fieldAddr rfl rfl rfl) ?_
          refine SatD.tk 3 rfl hD (fun _ hw => RunV.load1 hw rfl rfl (by repeat constructor) rfl) ?_
          first | refine SatD.tk 4 rfl hD (fun _ hw => RunV.fieldAddrL rfl rfl rfl) ?_ | refine SatD.tk 4 rfl hD (fun _ hw => RunV.fieldAddr rfl rfl rfl) ?_
          refine SatD.tk 5 rfl hD (fun _ hw => RunV.load1 hw rfl rfl (by repeat constructor) rfl) ?_
          refine SatD.tk 6 rfl hD (fun _ hw => RunV.loadN hw rfl rfl (by repeat constructor) (by repeat constructor)) ?_
          refine SatD.effF (by kernel_rfl) rfl rfl (OpW.mapUpdate (keyInt rfl) hS rfl rfl rfl rfl (by assumption) _ (fun o' => by repeat constructor) ?_)
          clear hS
          intro o10 w10 ho10 hS
          refine SatD.done 0 (by kernel_rfl) (SatE.thenC ?_)
          clear hD
          refine SatC.seq ?_
          refine SatC.region ?_
          refine SatL.pu (RunV.build rfl (by simp [go_sem]; try rfl)) rfl ?_
          refine SatL.pu (RunV.loadN hS rfl rfl (by repeat constructor) (by repeat constructor)) rfl ?_
          refine SatL.pu (RunV.build rfl (by simp [go_sem]; try rfl)) rfl ?_
          refine SatL.op rfl (OpW.store hS rfl rfl (by repeat constructor) (by repeat constructor) (by repeat constructor) rfl rfl ?_)
          clear hS
          intro w11 hS
          refine SatL.nil (SatE.thenC ?_)
          refine SatC.ret (SatE.blk_ret (SatE.then_ret ?_))
          refine SatE.retG1 hS rfl (.cellN rfl rfl (by repeat constructor) (by repeat constructor)) ?_
          have e : applyC me m u = (⟨1, z3, u⟩, lput m u.n u) := (if_neg (by simp_all)).trans ((if_neg (by assumption)).trans (if_pos (by assumption)))
          rw [e]
          exact ⟨rfl, _, by rw [← mv_put]; assumption, hS.sb (by repeat constructor)⟩
        · (try simp only [cx, ne_eq] at h4)
          try (exfalso; (first | omega | exact h4 trivial | contradiction); done)
          all_goals
          refine SatC.seq ?_
          refine SatC.region ?_
          refine SatL.pu (RunV.loadN hS rfl rfl (by repeat constructor) (by repeat constructor)) rfl ?_
          refine SatL.pu (RunV.loadN hS rfl rfl (by repeat constructor) (by repeat constructor)) rfl ?_
          refine SatL.op rfl (OpW.enter rfl rfl rfl (rfl) (above_any _ _ _ _ _ _ _) ?_)
          rintro r9 w9 ⟨rfl, h⟩
          replace hS := St.callN hS h
          refine SatL.pu (RunV.assign rfl) rfl ?_
          refine SatL.nil (SatE.thenC ?_)
          refine SatC.cond rfl (fun h5 => ?_) (fun h5 => ?_)
          · (try simp only [cx, ne_eq] at h5)
            try (exfalso; (first | omega | exact h5 trivial | contradiction); done)
            all_goals
            refine SatC.seq ?_
            refine SatC.drawnT 7 hS (hS) (by kernel_rfl) ?_
            clear hS
            intro w10 hh hS hD
            refine SatD.tk 0 rfl hD (fun _ hw => RunV.move rfl) ?_
            first | refine SatD.tk 1 rfl hD (fun _ hw => RunV.nil_ptr rfl) ?_ | refine SatD.tk 1 rfl hD (fun _ hw => RunV.nil_func rfl) ?_ | refine SatD.tk 1 rfl hD (fun _ hw => RunV.nil_yield rfl) ?_
            first | refine SatD.tk 2 rfl hD (fun _ hw => RunV.fieldAddrL rfl rfl rfl) ?_ | refine SatD.tk 2 rfl hD (fun _ hw => RunV.fieldAddr rfl rfl rfl) ?_
            refine SatD.tk 3 rfl hD (fun _ hw => RunV.load1 hw rfl rfl (by repeat constructor) rfl) ?_
            first | refine SatD.tk 4 rfl hD (fun _ hw => RunV.fieldAddrL rfl rfl rfl) ?_ | refine SatD.tk 4 rfl hD (fun _ hw => RunV.fieldAddr rfl rfl rfl) ?_
            refine SatD.tk 5 rfl hD (fun _ hw => RunV.load1 hw rfl rfl (by repeat constructor) rfl) ?_
            refine SatD.tk 6 rfl hD (fun _ hw => RunV.loadN hw rfl rfl (by repeat constructor) (by repeat constructor)) ?_
            refine SatD.effF (by kernel_rfl) rfl rfl (OpW.mapUpdate (keyInt rfl) hS rfl rfl rfl rfl (by assumption) _ (fun o' => by repeat constructor) ?_)
            clear hS
            intro o11 w11 ho11 hS
            refine SatD.done 0 (by kernel_rfl) (SatE.thenC ?_)
            clear hD
            refine SatC.seq ?_
            refine SatC.weak (e' := [(3, _), (4, _), (5, _)]) (by repeat constructor) ?_
            refine SatC.region ?_
            refine SatL.pu (RunV.loadN hS rfl rfl (by repeat constructor) (by repeat constructor)) rfl ?_
            refine SatL.pu (RunV.loadN hS rfl rfl (by repeat constructor) (by repeat constructor)) rfl ?_
            refine SatL.pu (RunV.build rfl (by simp [go_sem]; try rfl)) rfl ?_
            refine SatL.op rfl (OpW.store hS rfl rfl (by repeat constructor) (by repeat constructor) (by repeat constructor) rfl rfl ?_)
            clear hS
            intro w12 hS
            refine SatL.nil (SatE.thenC ?_)
            refine SatC.ret (SatE.blk_ret (SatE.then_ret ?_))
            refine SatE.retG1 hS rfl (.cellN rfl rfl (by repeat constructor) (by repeat constructor)) ?_
            have e : applyC me m u = (⟨2, at_ m u.n, u⟩, lput m u.n u) := (if_neg (by simp_all)).trans ((if_neg (by assumption)).trans ((if_neg (by simp_all)).trans (if_pos (by assumption))))
            rw [e]
            exact ⟨rfl, _, by rw [← mv_put]; assumption, hS.sb (by repeat constructor)⟩
          · (try simp only [cx, ne_eq] at h5)
            try (exfalso; (first | omega | exact h5 trivial | contradiction); done)
            all_goals
            refine SatC.skip (SatE.blk_normal (SatE.thenC ?_))
            refine SatC.seq ?_
            refine SatC.region ?_
            refine SatL.pu (RunV.build rfl (by simp [go_sem]; try rfl)) rfl ?_
            refine SatL.op rfl (OpW.store hS rfl rfl (by repeat constructor) (by repeat constructor) (by repeat constructor) rfl rfl ?_)
            clear hS
            intro w10 hS
            refine SatL.nil (SatE.thenC ?_)
            refine SatC.ret ?_
            refine SatE.retG1 hS rfl (.cellN rfl rfl (by repeat constructor) (by repeat constructor)) ?_
            have e : applyC me m u = (⟨0, z3, z3⟩, m) := (if_neg (by simp_all)).trans ((if_neg (by assumption)).trans ((if_neg (by simp_all)).trans (if_neg (by simp_all))))
            rw [e]
            exact ⟨rfl, o, ho, hS.sb (by repeat constructor)⟩
  · (try simp only [cx, ne_eq] at h1)
    try (exfalso; (first | omega | exact h1 trivial | contradiction); done)
    all_goals
    refine SatL.guard_n rfl rfl rfl rfl ?_
    refine SatL.guard_n rfl rfl rfl rfl ?_
    refine SatL.pu (RunV.pick_t rfl rfl) rfl ?_
    refine SatL.nil (SatE.thenC ?_)
    refine SatC.cond_t rfl ?_
    refine SatC.seq ?_
    refine SatC.region ?_
    refine SatL.pu (RunV.build rfl (by simp [go_sem]; try rfl)) rfl ?_
    refine SatL.op rfl (OpW.store hS rfl rfl (by repeat constructor) (by repeat constructor) (by repeat constructor) rfl rfl ?_)
    clear hS
    intro w4 hS
    refine SatL.nil (SatE.thenC ?_)
    refine SatC.ret (SatE.then_ret ?_)
    refine SatE.retG1 hS rfl (.cellN rfl rfl (by repeat constructor) (by repeat constructor)) ?_
    -- LEAF 6
    trace_state
    sorry
theorem new_any (me i : Int) (w : World) : Ret Try.prog 8 #[.int .i64 me, .int .u32 i] w fun v w' => if 0 ≤ me ∧ me < 8 then ∃ b mb o, v = .tuple #[.pointer (some ⟨b, 0, none⟩), .int .i64 0] ∧ IsMp eI o (mv [(me, ⟨me, i, 0⟩)]) ∧ St w [] [(b, C 63 (rc me mb)), (mb, o)] w' else v = .tuple #[.pointer none, .int .i64 2] ∧ St w [] [] w' := by
  have hS := St.init0 w
  refine Ret.enter Try.func8 Try.ntmps8 rfl rfl ?_
  simp only [argEnv, Nat.reduceAdd]
  refine SatC.seq ?_
  refine SatC.region ?_
  refine SatL.pu (RunV.assign rfl) rfl ?_
  refine SatL.pu (RunV.assign rfl) rfl ?_
  refine SatL.nil (SatE.thenC ?_)
  refine SatC.seq ?_
  refine SatC.region ?_
  refine SatL.pu (RunV.move rfl) rfl ?_
  refine SatL.pu (RunV.move rfl) rfl ?_
  refine SatL.pu (RunV.build rfl (by simp [go_sem]; try rfl)) rfl ?_
  refine SatL.op rfl (OpW.alloc hS rfl rfl (by repeat constructor) ?_)
  clear hS
  intro b6 w1 _ hS
  refine SatL.op rfl (OpW.store hS rfl rfl (by repeat constructor) (by repeat constructor) (by repeat constructor) rfl rfl ?_)
  clear hS
  intro w2 hS
  refine SatL.nil (SatE.thenC ?_)
  refine SatC.seq ?_
  refine SatC.seq ?_
  refine SatC.region ?_
  refine SatL.pu (RunV.loadN hS rfl rfl (by repeat constructor) (by repeat constructor)) rfl ?_
  refine SatL.op rfl (OpW.enter rfl rfl rfl (rfl) (right_any _ _ _ _) ?_)
  rintro r3 w3 ⟨rfl, h⟩
  replace hS := St.callN hS h
  refine SatL.pu (RunV.not rfl) rfl ?_
  refine SatL.nil (SatE.thenC ?_)
  refine SatC.cond rfl (fun h1 => ?_) (fun h1 => ?_)
  · (try simp only [cx, ne_eq] at h1)
    try (exfalso; (first | omega | exact h1 trivial | contradiction); done)
    all_goals
    refine SatC.seq ?_
    refine SatC.region ?_
    refine SatL.pu (RunV.assign rfl) rfl ?_
    refine SatL.pu (RunV.assign rfl) rfl ?_
    refine SatL.nil (SatE.thenC ?_)
    refine SatC.ret (SatE.then_ret ?_)
    refine SatE.ret2 rfl rfl rfl ?_
    rw [if_neg (by omega)]; exact ⟨rfl, hS.sb (by repeat constructor)⟩
  · (try simp only [cx, ne_eq] at h1)
    try (exfalso; (first | omega | exact h1 trivial | contradiction); done)
    all_goals
    refine SatC.skip (SatE.thenC ?_)
    refine SatC.seq ?_
    refine SatC.region ?_
    refine SatL.pu (RunV.move rfl) rfl ?_
    refine SatL.op rfl (OpW.makeMap (fun n : Int => Value.int .i64 n) hS rfl ?_)
    clear hS
    intro b14 o14 w4 _ ho14 hS
    refine SatL.pu (RunV.move rfl) rfl ?_
    refine SatL.pu (RunV.loadN hS rfl rfl (by repeat constructor) (by repeat constructor)) rfl ?_
    refine SatL.op rfl (OpW.insert (keyInt rfl) hS rfl rfl rfl rfl (by assumption) _ (fun o' => by repeat constructor) ?_)
    clear hS
    intro o5 w5 ho5 hS
    refine SatL.pu (RunV.move rfl) rfl ?_
    refine SatL.pu (RunV.build rfl (by simp [go_sem]; try rfl)) rfl ?_
    refine SatL.op rfl (OpW.box hS rfl rfl (by repeat constructor) ?_)
    clear hS
    intro b19 w6 _ hS
    refine SatL.pu (RunV.assign rfl) rfl ?_
    refine SatL.pu (RunV.assign rfl) rfl ?_
    refine SatL.nil (SatE.thenC ?_)
    refine SatC.ret ?_
    refine SatE.ret2 rfl rfl rfl ?_
    rw [if_pos (by omega)]; exact ⟨_, _, _, rfl, by assumption, hS.sb (by repeat constructor)⟩
end
end Go.Proofs.Ytpbfjadkimojeaa
