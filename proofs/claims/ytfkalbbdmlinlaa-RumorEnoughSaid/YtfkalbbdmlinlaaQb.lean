/- The queue, walked: new, none, limit, push, has. -/
import Derived.Test.YtfkalbbdmlinlaaQa
set_option linter.unusedSimpArgs false
set_option linter.unusedVariables false
set_option maxRecDepth 100000
set_option maxHeartbeats 4000000
namespace Go.Proofs.Ytfkalbbdmlinlaa
open Go.RowKit
@[reducible] def eI : Int → Value := fun n => Value.int .i64 n
/-- What the queue has, by nodes. -/
abbrev Tab := Int → Option It
def setT (t : Tab) (k : Int) (x : Option It) : Tab := fun j => if j = k then x else t j
/-- The map holds what is there. -/
def QM (o : Obj) (t : Tab) : Prop := ∃ kvs : List (Int × Value), IsMp eI o kvs ∧ Uniq kvs ∧ ∀ k, kget kvs k = (t k).map iv
def zi : It := ⟨0, 0, 0, 0, 0⟩
def at_ (t : Tab) (k : Int) : It := (t k).getD zi
theorem qm_nil {o : Obj} (h : IsMp eI o []) : QM o (fun _ => none) := ⟨_, h, uniq_nil, fun _ => rfl⟩
theorem qm_put {o : Obj} {kvs : List (Int × Value)} {t : Tab} {k : Int} {x : It} (ho : IsMp eI o (kput kvs k (iv x))) (hu : Uniq kvs) (hk : ∀ k, kget kvs k = (t k).map iv) : QM o (setT t k (some x)) :=
  ⟨_, ho, uniq_put hu k _, fun j => by rw [kget_put, hk]; unfold setT; split <;> rfl⟩
theorem qm_del {o : Obj} {kvs : List (Int × Value)} {t : Tab} {k : Int} (ho : IsMp eI o (kdel kvs k)) (hu : Uniq kvs) (hk : ∀ k, kget kvs k = (t k).map iv) : QM o (setT t k none) :=
  ⟨_, ho, uniq_del hu k, fun j => by rw [kget_del hu, hk]; unfold setT; split <;> rfl⟩
theorem kv_two {kvs : List (Int × Value)} {t : Tab} (hk : ∀ k, kget kvs k = (t k).map iv) (k : Int) : Value.tuple #[(kget kvs k).getD (iv zi), .bool (kget kvs k).isSome] = .tuple #[.agg #[.int .i64 (at_ t k).n, .int .u32 (at_ t k).i, .int .i64 (at_ t k).s, .int .i64 (at_ t k).c, .int .i64 (at_ t k).w], .bool (t k).isSome] := by
  rw [hk]
  unfold at_
  cases t k <;> rfl
@[reducible] def qc (mult wh : Int) (mb : Nat) : List Value := [.int .i64 mult, .int .i64 wh, .map (some mb)]
/-- What a queue has. -/
@[reducible] def QO (b mb : Nat) (mult wh : Int) (o : Obj) : List (Nat × Obj) := [(b, C 47 (qc mult wh mb)), (mb, o)]
theorem qnew_any (n : Int) (w : World) : Ret Try.prog 6 #[.int .i64 n] w fun u w' => ∃ b mb o, u = .pointer (some ⟨b, 0, none⟩) ∧ QM o (fun _ => none) ∧ St w [] (QO b mb (min (max n 1) 8) 0 o) w' := by
  have hS := St.init0 w
  refine Ret.enter Try.func6 Try.ntmps6 rfl rfl ?_
  simp only [argEnv, Nat.reduceAdd]
  refine SatC.seq ?_
  refine SatC.region ?_
  refine SatL.pu (RunV.assign rfl) rfl ?_
  refine SatL.nil (SatE.thenC ?_)
  refine SatC.seq ?_
  refine SatC.region ?_
  refine SatL.pu (RunV.move rfl) rfl ?_
  refine SatL.pu (RunV.max2 rfl rfl) rfl ?_
  refine SatL.pu (RunV.min2 rfl rfl) rfl ?_
  refine SatL.op rfl (OpW.makeMap (fun n : Int => Value.int .i64 n) hS rfl ?_)
  clear hS
  intro b6 o6 w1 _ ho6 hS
  refine SatL.pu (RunV.build rfl (by simp [go_sem]; try rfl)) rfl ?_
  refine SatL.op rfl (OpW.box hS rfl rfl (by repeat constructor) ?_)
  clear hS
  intro b8 w2 _ hS
  refine SatL.pu (RunV.assign rfl) rfl ?_
  refine SatL.nil (SatE.thenC ?_)
  refine SatC.ret ?_
  refine SatE.ret1 rfl rfl ?_
  exact ⟨_, _, _, rfl, qm_nil (by assumption), hS.sel (by repeat constructor)⟩
section
variable {b mb : Nat} {mult wh : Int} {o : Obj} {t : Tab} {w : World}
theorem qnone_any (hown : Own w (QO b mb mult wh o)) : Ret Try.prog 15 #[.pointer (some ⟨b, 0, none⟩)] w fun u w' => u = .bool false ∧ St w [] [] w' := by
  have hS := St.init hown
  simp only [List.map_cons, List.map_nil] at hS
  refine Ret.enter Try.func15 Try.ntmps15 rfl rfl ?_
  simp only [argEnv, Nat.reduceAdd]
  refine SatC.seq ?_
  refine SatC.region ?_
  refine SatL.pu (RunV.assign rfl) rfl ?_
  refine SatL.nil (SatE.thenC ?_)
  refine SatC.seq ?_
  refine SatC.region ?_
  refine SatL.pu (RunV.move rfl) rfl ?_
  refine SatL.pu (RunV.eqlPtrNil rfl rfl rfl) rfl ?_
  refine SatL.pu (RunV.move rfl) rfl ?_
  refine SatL.guard rfl rfl rfl (fun h1 => ?_) (fun h1 => ?_)
  · (try simp only [cx, ne_eq] at h1)
    try (exfalso; (first | omega | exact h1 trivial | contradiction); done)
    all_goals
    refine SatL.pu (RunV.move rfl) rfl ?_
    refine SatL.guard_y rfl rfl ?_
    first | refine SatL.pu (RunV.nil_ptr rfl) rfl ?_ | refine SatL.pu (RunV.nil_func rfl) rfl ?_ | refine SatL.pu (RunV.nil_yield rfl) rfl ?_
    refine SatL.guard_y rfl rfl ?_
    first | refine SatL.pu (RunV.fieldAddrL rfl rfl rfl) rfl ?_ | refine SatL.pu (RunV.fieldAddr rfl rfl rfl) rfl ?_
    refine SatL.guard_y rfl rfl ?_
    refine SatL.pu (RunV.load1 hS rfl rfl (by repeat constructor) rfl) rfl ?_
    refine SatL.guard_y rfl rfl ?_
    refine SatL.pu (RunV.eqlMapNil rfl rfl rfl) rfl ?_
    refine SatL.pu (RunV.pick_f rfl rfl) rfl ?_
    refine SatL.pu (RunV.assign rfl) rfl ?_
    refine SatL.nil (SatE.thenC ?_)
    refine SatC.ret ?_
    refine SatE.ret1 rfl rfl ?_
    exact ⟨rfl, St.ro hown hS (by repeat constructor)⟩
  · (try simp only [cx, ne_eq] at h1)
    try (exfalso; (first | omega | exact h1 trivial | contradiction); done)
    all_goals
    refine SatL.guard_n rfl rfl rfl rfl ?_
    refine SatL.guard_n rfl rfl rfl rfl ?_
    refine SatL.guard_n rfl rfl rfl rfl ?_
    refine SatL.guard_n rfl rfl rfl rfl ?_
    refine SatL.pu (RunV.pick_t rfl rfl) rfl ?_
    refine SatL.pu (RunV.assign rfl) rfl ?_
    refine SatL.nil (SatE.thenC ?_)
    refine SatC.ret ?_
    refine SatE.ret1 rfl rfl ?_
    exact ⟨rfl, St.ro hown hS (by repeat constructor)⟩
theorem limit_any (m : Int) (hmb : m ≤ 9223372036854775807) (hmu : 0 ≤ mult ∧ mult ≤ 8) (hown : Own w (QO b mb mult wh o)) : Ret Try.prog 13 #[.pointer (some ⟨b, 0, none⟩), .int .i64 m] w fun u w' => u = .int .i64 (mult * dg (max m 1)) ∧ St w [] [] w' := by
  have hS := St.init hown
  have hdb := dg_b (max m 1)
  have hml : mult * dg (max m 1) ≤ 504 := by
    have := Int.mul_le_mul hmu.2 hdb.2 hdb.1 (by decide)
    omega
  have hm0 : 0 ≤ mult * dg (max m 1) := Int.mul_nonneg hmu.1 hdb.1
  simp only [List.map_cons, List.map_nil] at hS
  refine Ret.enter Try.func13 Try.ntmps13 rfl rfl ?_
  simp only [argEnv, Nat.reduceAdd]
  refine SatC.seq ?_
  refine SatC.region ?_
  refine SatL.pu (RunV.assign rfl) rfl ?_
  refine SatL.nil (SatE.thenC ?_)
  refine SatC.seq ?_
  refine SatC.seq ?_
  refine SatC.region ?_
  refine SatL.pu (RunV.move rfl) rfl ?_
  refine SatL.op rfl (OpW.enter rfl rfl rfl (rfl) (qnone_any (hS.ownT (A := QO b mb mult wh o) (by repeat constructor))) ?_)
  rintro r1 w1 ⟨rfl, h⟩
  replace hS := St.callN hS h
  refine SatL.nil (SatE.thenC ?_)
  refine SatC.cond rfl (fun h1 => ?_) (fun h1 => ?_)
  · (try simp only [cx, ne_eq] at h1)
    try (exfalso; (first | omega | exact h1 trivial | contradiction); done)
    all_goals
    refine SatC.seq ?_
    refine SatC.region ?_
    refine SatL.pu (RunV.assign rfl) rfl ?_
    refine SatL.nil (SatE.thenC ?_)
    refine SatC.ret (SatE.then_ret ?_)
    refine SatE.ret1 rfl rfl ?_
    exact ⟨rfl, St.ro hown hS (by repeat constructor)⟩
  · (try simp only [cx, ne_eq] at h1)
    try (exfalso; (first | omega | exact h1 trivial | contradiction); done)
    all_goals
    refine SatC.skip (SatE.thenC ?_)
    refine SatC.seq ?_
    refine SatC.drawnT 9 hS (hS) (by kernel_rfl) ?_
    clear hS
    intro w2 hh hS hD
    refine SatD.tk 0 rfl hD (fun _ hw => RunV.move rfl) ?_
    first | refine SatD.tk 1 rfl hD (fun _ hw => RunV.nil_ptr rfl) ?_ | refine SatD.tk 1 rfl hD (fun _ hw => RunV.nil_func rfl) ?_ | refine SatD.tk 1 rfl hD (fun _ hw => RunV.nil_yield rfl) ?_
    first | refine SatD.tk 2 rfl hD (fun _ hw => RunV.fieldAddrL rfl rfl rfl) ?_ | refine SatD.tk 2 rfl hD (fun _ hw => RunV.fieldAddr rfl rfl rfl) ?_
    refine SatD.tk 3 rfl hD (fun _ hw => RunV.load1 hw rfl rfl (by repeat constructor) rfl) ?_
    refine SatD.tk 4 rfl hD (fun _ hw => RunV.move rfl) ?_
    refine SatD.tk 5 rfl hD (fun _ hw => RunV.max2 rfl rfl) ?_
    refine SatD.ef 6 rfl (OpW.enter rfl rfl rfl (rfl) (digits_any _ ⟨by omega, by omega⟩ _) ?_)
    rintro r3 w3 ⟨rfl, h⟩
    replace hS := St.callN hS h
    refine keepS (hS.sel (by repeat constructor)) (fun hD => ?_)
    refine SatD.tk 7 rfl hD (fun _ hw => RunV.mul rfl rfl (by rw [wrapI64 (by omega)])) ?_
    refine SatD.tk 8 rfl hD (fun _ hw => RunV.assign rfl) ?_
    refine SatD.done 0 (by kernel_rfl) (SatE.thenC ?_)
    clear hD
    refine SatC.ret ?_
    refine SatE.ret1 rfl rfl ?_
    exact ⟨rfl, St.ro hown hS (by repeat constructor)⟩
def pushQ (t : Tab) (wh : Int) (u : Upd) : Bool × Tab × Int :=
  if ¬ right u then (false, t, wh)
  else if (t u.n).isSome = true ∧ abv u (up (at_ t u.n)) = false then (false, t, wh)
  else (true, setT t u.n (some ⟨u.n, u.i, u.s, 0, wh + 1⟩), wh + 1)
theorem push_any (u : Upd) (ho : QM o t) (hwh : 0 ≤ wh ∧ wh ≤ 1000000) (hown : Own w (QO b mb mult wh o)) : Ret Try.prog 9 #[.pointer (some ⟨b, 0, none⟩), uv u] w fun v w' => v = .bool (pushQ t wh u).1 ∧ ∃ o', QM o' (pushQ t wh u).2.1 ∧ St w [b, mb] (QO b mb mult (pushQ t wh u).2.2 o') w' := by
  have hS := St.init hown
  have hq := ho
  obtain ⟨kvs, hm, hu, hk⟩ := ho
  simp only [List.map_cons, List.map_nil] at hS
  refine Ret.enter Try.func9 Try.ntmps9 rfl rfl ?_
  simp only [argEnv, Nat.reduceAdd]
  generalize hR : pushQ t wh u = R
  unfold pushQ at hR
  refine SatC.seq ?_
  refine SatC.region ?_
  refine SatL.op rfl (OpW.box hS rfl rfl (by repeat constructor) ?_)
  clear hS
  intro b3 w1 _ hS
  refine SatL.pu (RunV.assign rfl) rfl ?_
  refine SatL.nil (SatE.thenC ?_)
  refine SatC.seq ?_
  refine SatC.seq ?_
  refine SatC.region ?_
  refine SatL.pu (RunV.move rfl) rfl ?_
  refine SatL.op rfl (OpW.enter rfl rfl rfl (rfl) (qnone_any (hS.ownT (A := QO b mb mult wh o) (by repeat constructor))) ?_)
  rintro r2 w2 ⟨rfl, h⟩
  replace hS := St.callN hS h
  refine SatL.pu (RunV.move rfl) rfl ?_
  refine SatL.guard rfl rfl rfl (fun h1 => ?_) (fun h1 => ?_)
  · (try simp only [cx, ne_eq] at h1)
    try (exfalso; (first | omega | exact h1 trivial | contradiction); done)
    all_goals
    refine SatL.pu (RunV.loadN hS rfl rfl (by repeat constructor) (by repeat constructor)) rfl ?_
    refine SatL.guard_y rfl rfl ?_
    refine SatL.op rfl (OpW.enter rfl rfl rfl (rfl) (right_any _ _) ?_)
    rintro r3 w3 ⟨rfl, h⟩
    replace hS := St.callN hS h
    refine SatL.guard_y rfl rfl ?_
    refine SatL.pu (RunV.not rfl) rfl ?_
    refine SatL.pu (RunV.pick_f rfl rfl) rfl ?_
    refine SatL.nil (SatE.thenC ?_)
    refine SatC.cond rfl (fun h2 => ?_) (fun h2 => ?_)
    · (try simp only [cx, ne_eq] at h2)
      try (exfalso; (first | omega | exact h2 trivial | contradiction); done)
      all_goals
      refine SatC.seq ?_
      refine SatC.region ?_
      refine SatL.pu (RunV.assign rfl) rfl ?_
      refine SatL.nil (SatE.thenC ?_)
      refine SatC.ret (SatE.then_ret ?_)
      refine SatE.ret1 rfl rfl ?_
      rw [if_pos (by assumption)] at hR; subst hR; exact ⟨rfl, o, hq, hS.sel (by repeat constructor)⟩
    · (try simp only [cx, ne_eq] at h2)
      try (exfalso; (first | omega | exact h2 trivial | contradiction); done)
      all_goals
      refine SatC.skip (SatE.thenC ?_)
      refine SatC.seq ?_
      refine SatC.seq ?_
      refine SatC.drawnT 13 hS (hS) (by kernel_rfl) ?_
      clear hS
      intro w4 hh hS hD
      refine SatD.tk 0 rfl hD (fun _ hw => RunV.move rfl) ?_
      first | refine SatD.tk 1 rfl hD (fun _ hw => RunV.nil_ptr rfl) ?_ | refine SatD.tk 1 rfl hD (fun _ hw => RunV.nil_func rfl) ?_ | refine SatD.tk 1 rfl hD (fun _ hw => RunV.nil_yield rfl) ?_
      first | refine SatD.tk 2 rfl hD (fun _ hw => RunV.fieldAddrL rfl rfl rfl) ?_ | refine SatD.tk 2 rfl hD (fun _ hw => RunV.fieldAddr rfl rfl rfl) ?_
      refine SatD.tk 3 rfl hD (fun _ hw => RunV.load1 hw rfl rfl (by repeat constructor) rfl) ?_
      first | refine SatD.tk 4 rfl hD (fun _ hw => RunV.fieldAddrL rfl rfl rfl) ?_ | refine SatD.tk 4 rfl hD (fun _ hw => RunV.fieldAddr rfl rfl rfl) ?_
      refine SatD.tk 5 rfl hD (fun _ hw => RunV.load1 hw rfl rfl (by repeat constructor) rfl) ?_
      refine SatD.tk 6 rfl hD (fun _ hw => RunV.cast (RunV.lookup2 (keyInt rfl) hw rfl rfl rfl rfl (by repeat constructor) (by assumption)) (kv_two hk _)) ?_
      refine SatD.tk 7 rfl hD (fun _ hw => RunV.move rfl) ?_
      refine SatD.tk 8 rfl hD (fun _ hw => RunV.extract rfl rfl) ?_
      refine SatD.tk 9 rfl hD (fun _ hw => RunV.extract rfl rfl) ?_
      refine SatD.ef 10 rfl (OpW.alloc hS rfl rfl (by repeat constructor) ?_)
      clear hS
      intro b5 w5 _ hS
      refine keepS (hS.sel (by repeat constructor)) (fun hD => ?_)
      refine SatD.ef 11 rfl (OpW.store hS rfl rfl (by repeat constructor) (by repeat constructor) (by repeat constructor) rfl rfl ?_)
      clear hS
      intro w6 hS
      refine keepS (hS.sel (by repeat constructor)) (fun hD => ?_)
      refine SatD.tk 12 rfl hD (fun _ hw => RunV.assign rfl) ?_
      refine SatD.done 0 (by kernel_rfl) (SatE.thenC ?_)
      clear hD
      refine SatC.seq ?_
      refine SatC.weak (e' := [(0, _), (3, _), (4, _), (5, _), (6, _)]) (by repeat constructor) ?_
      refine SatC.region ?_
      refine SatL.pu (RunV.move rfl) rfl ?_
      refine SatL.pu (RunV.move rfl) rfl ?_
      refine SatL.guard rfl rfl rfl (fun h3 => ?_) (fun h3 => ?_)
      · (try simp only [cx, ne_eq] at h3)
        try (exfalso; (first | omega | exact h3 trivial | contradiction); done)
        all_goals
        refine SatL.pu (RunV.loadN hS rfl rfl (by repeat constructor) (by repeat constructor)) rfl ?_
        refine SatL.guard_y rfl rfl ?_
        first | refine SatL.pu (RunV.fieldAddrL rfl rfl rfl) rfl ?_ | refine SatL.pu (RunV.fieldAddr rfl rfl rfl) rfl ?_
        refine SatL.guard_y rfl rfl ?_
        refine SatL.pu (RunV.loadN hS rfl rfl (by repeat constructor) (by repeat constructor)) rfl ?_
        refine SatL.guard_y rfl rfl ?_
        refine SatL.op rfl (OpW.enter rfl rfl rfl (rfl) (above_any u (up (at_ t u.n)) _) ?_)
        rintro r7 w7 ⟨rfl, h⟩
        replace hS := St.callN hS h
        refine SatL.guard_y rfl rfl ?_
        refine SatL.pu (RunV.not rfl) rfl ?_
        refine SatL.pu (RunV.pick_t rfl rfl) rfl ?_
        refine SatL.nil (SatE.thenC ?_)
        refine SatC.cond rfl (fun h4 => ?_) (fun h4 => ?_)
        · (try simp only [cx, ne_eq] at h4)
          try (exfalso; (first | omega | exact h4 trivial | contradiction); done)
          all_goals
          refine SatC.seq ?_
          refine SatC.weak (e' := [(4, _)]) (by repeat constructor) ?_
          refine SatC.region ?_
          refine SatL.pu (RunV.assign rfl) rfl ?_
          refine SatL.nil (SatE.thenC ?_)
          refine SatC.ret (SatE.then_ret ?_)
          refine SatE.ret1 rfl rfl ?_
          first
          | (rw [if_neg (by simp_all), if_pos ⟨by assumption, by assumption⟩] at hR; subst hR; exact ⟨rfl, o, hq, hS.sel (by repeat constructor)⟩)
          | (rw [if_neg (by simp_all), if_neg (by simp_all)] at hR; subst hR; exact ⟨rfl, o10, qm_put (x := ⟨u.n, u.i, u.s, 0, wh + 1⟩) (by assumption) hu hk, hS.sel (by repeat constructor)⟩)
          | (rw [if_neg (by simp_all), if_neg (by simp_all)] at hR; subst hR; exact ⟨rfl, o9, qm_put (x := ⟨u.n, u.i, u.s, 0, wh + 1⟩) (by assumption) hu hk, hS.sel (by repeat constructor)⟩)
        · (try simp only [cx, ne_eq] at h4)
          try (exfalso; (first | omega | exact h4 trivial | contradiction); done)
          all_goals
          refine SatC.skip (SatE.thenC ?_)
          refine SatC.seq ?_
          refine SatC.region ?_
          refine SatL.pu (RunV.move rfl) rfl ?_
          first | refine SatL.pu (RunV.nil_ptr rfl) rfl ?_ | refine SatL.pu (RunV.nil_func rfl) rfl ?_ | refine SatL.pu (RunV.nil_yield rfl) rfl ?_
          first | refine SatL.pu (RunV.fieldAddrL rfl rfl rfl) rfl ?_ | refine SatL.pu (RunV.fieldAddr rfl rfl rfl) rfl ?_
          refine SatL.pu (RunV.load1 hS rfl rfl (by repeat constructor) rfl) rfl ?_
          refine SatL.pu (RunV.add rfl rfl (by first | exact wrapI64 (by omega) | rfl)) rfl ?_
          first | refine SatL.pu (RunV.nil_ptr rfl) rfl ?_ | refine SatL.pu (RunV.nil_func rfl) rfl ?_ | refine SatL.pu (RunV.nil_yield rfl) rfl ?_
          first | refine SatL.pu (RunV.fieldAddrL rfl rfl rfl) rfl ?_ | refine SatL.pu (RunV.fieldAddr rfl rfl rfl) rfl ?_
          refine SatL.op rfl (OpW.store hS rfl rfl (by repeat constructor) (by repeat constructor) (by repeat constructor) rfl rfl ?_)
          clear hS
          intro w8 hS
          refine SatL.nil (SatE.thenC ?_)
          refine SatC.seq ?_
          refine SatC.weak (e' := [(0, _), (3, _), (4, _)]) (by repeat constructor) ?_
          refine SatC.drawnT 12 hS (hS) (by kernel_rfl) ?_
          clear hS
          intro w9 hh hS hD
          refine SatD.tk 0 rfl hD (fun _ hw => RunV.move rfl) ?_
          first | refine SatD.tk 1 rfl hD (fun _ hw => RunV.nil_ptr rfl) ?_ | refine SatD.tk 1 rfl hD (fun _ hw => RunV.nil_func rfl) ?_ | refine SatD.tk 1 rfl hD (fun _ hw => RunV.nil_yield rfl) ?_
          first | refine SatD.tk 2 rfl hD (fun _ hw => RunV.fieldAddrL rfl rfl rfl) ?_ | refine SatD.tk 2 rfl hD (fun _ hw => RunV.fieldAddr rfl rfl rfl) ?_
          refine SatD.tk 3 rfl hD (fun _ hw => RunV.load1 hw rfl rfl (by repeat constructor) rfl) ?_
          first | refine SatD.tk 4 rfl hD (fun _ hw => RunV.fieldAddrL rfl rfl rfl) ?_ | refine SatD.tk 4 rfl hD (fun _ hw => RunV.fieldAddr rfl rfl rfl) ?_
          refine SatD.tk 5 rfl hD (fun _ hw => RunV.load1 hw rfl rfl (by repeat constructor) rfl) ?_
          refine SatD.tk 6 rfl hD (fun _ hw => RunV.loadN hw rfl rfl (by repeat constructor) (by repeat constructor)) ?_
          refine SatD.tk 7 rfl hD (fun _ hw => RunV.move rfl) ?_
          first | refine SatD.tk 8 rfl hD (fun _ hw => RunV.nil_ptr rfl) ?_ | refine SatD.tk 8 rfl hD (fun _ hw => RunV.nil_func rfl) ?_ | refine SatD.tk 8 rfl hD (fun _ hw => RunV.nil_yield rfl) ?_
          first | refine SatD.tk 9 rfl hD (fun _ hw => RunV.fieldAddrL rfl rfl rfl) ?_ | refine SatD.tk 9 rfl hD (fun _ hw => RunV.fieldAddr rfl rfl rfl) ?_
          refine SatD.tk 10 rfl hD (fun _ hw => RunV.load1 hw rfl rfl (by repeat constructor) rfl) ?_
          refine SatD.tk 11 rfl hD (fun _ hw => RunV.build rfl (by simp [go_sem]; try rfl)) ?_
          refine SatD.effF (by kernel_rfl) rfl rfl (OpW.mapUpdate (keyInt rfl) hS rfl rfl rfl rfl (by assumption) _ (fun o' => by repeat constructor) ?_)
          clear hS
          intro o10 w10 ho10 hS
          refine SatD.done 0 (by kernel_rfl) (SatE.thenC ?_)
          clear hD
          refine SatC.seq ?_
          refine SatC.weak (e' := [(4, _)]) (by repeat constructor) ?_
          refine SatC.region ?_
          refine SatL.pu (RunV.assign rfl) rfl ?_
          refine SatL.nil (SatE.thenC ?_)
          refine SatC.ret ?_
          refine SatE.ret1 rfl rfl ?_
          first
          | (rw [if_neg (by simp_all), if_pos ⟨by assumption, by assumption⟩] at hR; subst hR; exact ⟨rfl, o, hq, hS.sel (by repeat constructor)⟩)
          | (rw [if_neg (by simp_all), if_neg (by simp_all)] at hR; subst hR; exact ⟨rfl, o10, qm_put (x := ⟨u.n, u.i, u.s, 0, wh + 1⟩) (by assumption) hu hk, hS.sel (by repeat constructor)⟩)
          | (rw [if_neg (by simp_all), if_neg (by simp_all)] at hR; subst hR; exact ⟨rfl, o9, qm_put (x := ⟨u.n, u.i, u.s, 0, wh + 1⟩) (by assumption) hu hk, hS.sel (by repeat constructor)⟩)
      · (try simp only [cx, ne_eq] at h3)
        try (exfalso; (first | omega | exact h3 trivial | contradiction); done)
        all_goals
        refine SatL.guard_n rfl rfl rfl rfl ?_
        refine SatL.guard_n rfl rfl rfl rfl ?_
        refine SatL.guard_n rfl rfl rfl rfl ?_
        refine SatL.guard_n rfl rfl rfl rfl ?_
        refine SatL.pu (RunV.pick_f rfl rfl) rfl ?_
        refine SatL.nil (SatE.thenC ?_)
        refine SatC.cond_f rfl ?_
        refine SatC.skip (SatE.thenC ?_)
        refine SatC.seq ?_
        refine SatC.region ?_
        refine SatL.pu (RunV.move rfl) rfl ?_
        first | refine SatL.pu (RunV.nil_ptr rfl) rfl ?_ | refine SatL.pu (RunV.nil_func rfl) rfl ?_ | refine SatL.pu (RunV.nil_yield rfl) rfl ?_
        first | refine SatL.pu (RunV.fieldAddrL rfl rfl rfl) rfl ?_ | refine SatL.pu (RunV.fieldAddr rfl rfl rfl) rfl ?_
        refine SatL.pu (RunV.load1 hS rfl rfl (by repeat constructor) rfl) rfl ?_
        refine SatL.pu (RunV.add rfl rfl (by first | exact wrapI64 (by omega) | rfl)) rfl ?_
        first | refine SatL.pu (RunV.nil_ptr rfl) rfl ?_ | refine SatL.pu (RunV.nil_func rfl) rfl ?_ | refine SatL.pu (RunV.nil_yield rfl) rfl ?_
        first | refine SatL.pu (RunV.fieldAddrL rfl rfl rfl) rfl ?_ | refine SatL.pu (RunV.fieldAddr rfl rfl rfl) rfl ?_
        refine SatL.op rfl (OpW.store hS rfl rfl (by repeat constructor) (by repeat constructor) (by repeat constructor) rfl rfl ?_)
        clear hS
        intro w7 hS
        refine SatL.nil (SatE.thenC ?_)
        refine SatC.seq ?_
        refine SatC.weak (e' := [(0, _), (3, _), (4, _)]) (by repeat constructor) ?_
        refine SatC.drawnT 12 hS (hS) (by kernel_rfl) ?_
        clear hS
        intro w8 hh hS hD
        refine SatD.tk 0 rfl hD (fun _ hw => RunV.move rfl) ?_
        first | refine SatD.tk 1 rfl hD (fun _ hw => RunV.nil_ptr rfl) ?_ | refine SatD.tk 1 rfl hD (fun _ hw => RunV.nil_func rfl) ?_ | refine SatD.tk 1 rfl hD (fun _ hw => RunV.nil_yield rfl) ?_
        first | refine SatD.tk 2 rfl hD (fun _ hw => RunV.fieldAddrL rfl rfl rfl) ?_ | refine SatD.tk 2 rfl hD (fun _ hw => RunV.fieldAddr rfl rfl rfl) ?_
        refine SatD.tk 3 rfl hD (fun _ hw => RunV.load1 hw rfl rfl (by repeat constructor) rfl) ?_
        first | refine SatD.tk 4 rfl hD (fun _ hw => RunV.fieldAddrL rfl rfl rfl) ?_ | refine SatD.tk 4 rfl hD (fun _ hw => RunV.fieldAddr rfl rfl rfl) ?_
        refine SatD.tk 5 rfl hD (fun _ hw => RunV.load1 hw rfl rfl (by repeat constructor) rfl) ?_
        refine SatD.tk 6 rfl hD (fun _ hw => RunV.loadN hw rfl rfl (by repeat constructor) (by repeat constructor)) ?_
        refine SatD.tk 7 rfl hD (fun _ hw => RunV.move rfl) ?_
        first | refine SatD.tk 8 rfl hD (fun _ hw => RunV.nil_ptr rfl) ?_ | refine SatD.tk 8 rfl hD (fun _ hw => RunV.nil_func rfl) ?_ | refine SatD.tk 8 rfl hD (fun _ hw => RunV.nil_yield rfl) ?_
        first | refine SatD.tk 9 rfl hD (fun _ hw => RunV.fieldAddrL rfl rfl rfl) ?_ | refine SatD.tk 9 rfl hD (fun _ hw => RunV.fieldAddr rfl rfl rfl) ?_
        refine SatD.tk 10 rfl hD (fun _ hw => RunV.load1 hw rfl rfl (by repeat constructor) rfl) ?_
        refine SatD.tk 11 rfl hD (fun _ hw => RunV.build rfl (by simp [go_sem]; try rfl)) ?_
        refine SatD.effF (by kernel_rfl) rfl rfl (OpW.mapUpdate (keyInt rfl) hS rfl rfl rfl rfl (by assumption) _ (fun o' => by repeat constructor) ?_)
        clear hS
        intro o9 w9 ho9 hS
        refine SatD.done 0 (by kernel_rfl) (SatE.thenC ?_)
        clear hD
        refine SatC.seq ?_
        refine SatC.weak (e' := [(4, _)]) (by repeat constructor) ?_
        refine SatC.region ?_
        refine SatL.pu (RunV.assign rfl) rfl ?_
        refine SatL.nil (SatE.thenC ?_)
        refine SatC.ret ?_
        refine SatE.ret1 rfl rfl ?_
        first
        | (rw [if_neg (by simp_all), if_pos ⟨by assumption, by assumption⟩] at hR; subst hR; exact ⟨rfl, o, hq, hS.sel (by repeat constructor)⟩)
        | (rw [if_neg (by simp_all), if_neg (by simp_all)] at hR; subst hR; exact ⟨rfl, o10, qm_put (x := ⟨u.n, u.i, u.s, 0, wh + 1⟩) (by assumption) hu hk, hS.sel (by repeat constructor)⟩)
        | (rw [if_neg (by simp_all), if_neg (by simp_all)] at hR; subst hR; exact ⟨rfl, o9, qm_put (x := ⟨u.n, u.i, u.s, 0, wh + 1⟩) (by assumption) hu hk, hS.sel (by repeat constructor)⟩)
  · (try simp only [cx, ne_eq] at h1)
    try (exfalso; (first | omega | exact h1 trivial | contradiction); done)
    all_goals
    refine SatL.guard_n rfl rfl rfl rfl ?_
    refine SatL.guard_n rfl rfl rfl rfl ?_
    refine SatL.pu (RunV.pick_t rfl rfl) rfl ?_
    refine SatL.nil (SatE.thenC ?_)
    refine SatC.cond_t rfl ?_
    refine SatC.seq ?_
    refine SatC.region ?_
    refine SatL.pu (RunV.assign rfl) rfl ?_
    refine SatL.nil (SatE.thenC ?_)
    refine SatC.ret (SatE.then_ret ?_)
    refine SatE.ret1 rfl rfl ?_
    first
    | (rw [if_neg (by simp_all), if_pos ⟨by assumption, by assumption⟩] at hR; subst hR; exact ⟨rfl, o, hq, hS.sel (by repeat constructor)⟩)
    | (rw [if_neg (by simp_all), if_neg (by simp_all)] at hR; subst hR; exact ⟨rfl, o10, qm_put (x := ⟨u.n, u.i, u.s, 0, wh + 1⟩) (by assumption) hu hk, hS.sel (by repeat constructor)⟩)
    | (rw [if_neg (by simp_all), if_neg (by simp_all)] at hR; subst hR; exact ⟨rfl, o9, qm_put (x := ⟨u.n, u.i, u.s, 0, wh + 1⟩) (by assumption) hu hk, hS.sel (by repeat constructor)⟩)
def hasQ (t : Tab) (u : Upd) : Bool := (t u.n).isSome && decide (up (at_ t u.n) = u)
theorem has_any (u : Upd) (ho : QM o t) (hown : Own w (QO b mb mult wh o)) : Ret Try.prog 14 #[.pointer (some ⟨b, 0, none⟩), uv u] w fun v w' => v = .bool (hasQ t u) ∧ St w [] [] w' := by
  have hS := St.init hown
  obtain ⟨kvs, hm, hu, hk⟩ := ho
  simp only [List.map_cons, List.map_nil] at hS
  refine Ret.enter Try.func14 Try.ntmps14 rfl rfl ?_
  simp only [argEnv, Nat.reduceAdd]
  generalize hR : hasQ t u = R
  unfold hasQ at hR
  refine SatC.seq ?_
  refine SatC.region ?_
  refine SatL.op rfl (OpW.box hS rfl rfl (by repeat constructor) ?_)
  clear hS
  intro b3 w1 _ hS
  refine SatL.pu (RunV.assign rfl) rfl ?_
  refine SatL.nil (SatE.thenC ?_)
  refine SatC.seq ?_
  refine SatC.seq ?_
  refine SatC.region ?_
  refine SatL.pu (RunV.move rfl) rfl ?_
  refine SatL.op rfl (OpW.enter rfl rfl rfl (rfl) (qnone_any (hS.ownT (A := QO b mb mult wh o) (by repeat constructor))) ?_)
  rintro r2 w2 ⟨rfl, h⟩
  replace hS := St.callN hS h
  refine SatL.nil (SatE.thenC ?_)
  refine SatC.cond rfl (fun h1 => ?_) (fun h1 => ?_)
  · (try simp only [cx, ne_eq] at h1)
    try (exfalso; (first | omega | exact h1 trivial | contradiction); done)
    all_goals
    refine SatC.seq ?_
    refine SatC.region ?_
    refine SatL.pu (RunV.assign rfl) rfl ?_
    refine SatL.nil (SatE.thenC ?_)
    refine SatC.ret (SatE.then_ret ?_)
    refine SatE.ret1 rfl rfl ?_
    refine ⟨congrArg Value.bool ?_, St.ro hown (hS.sel (R := QO b mb mult wh o) (by repeat constructor)) (by repeat constructor)⟩
    rw [← hR]
    first | (simp_all; done) | (cases u; simp_all [up]; done)
  · (try simp only [cx, ne_eq] at h1)
    try (exfalso; (first | omega | exact h1 trivial | contradiction); done)
    all_goals
    refine SatC.skip (SatE.thenC ?_)
    refine SatC.seq ?_
    refine SatC.drawnT 13 hS (hS) (by kernel_rfl) ?_
    clear hS
    intro w3 hh hS hD
    refine SatD.tk 0 rfl hD (fun _ hw => RunV.move rfl) ?_
    first | refine SatD.tk 1 rfl hD (fun _ hw => RunV.nil_ptr rfl) ?_ | refine SatD.tk 1 rfl hD (fun _ hw => RunV.nil_func rfl) ?_ | refine SatD.tk 1 rfl hD (fun _ hw => RunV.nil_yield rfl) ?_
    first | refine SatD.tk 2 rfl hD (fun _ hw => RunV.fieldAddrL rfl rfl rfl) ?_ | refine SatD.tk 2 rfl hD (fun _ hw => RunV.fieldAddr rfl rfl rfl) ?_
    refine SatD.tk 3 rfl hD (fun _ hw => RunV.load1 hw rfl rfl (by repeat constructor) rfl) ?_
    first | refine SatD.tk 4 rfl hD (fun _ hw => RunV.fieldAddrL rfl rfl rfl) ?_ | refine SatD.tk 4 rfl hD (fun _ hw => RunV.fieldAddr rfl rfl rfl) ?_
    refine SatD.tk 5 rfl hD (fun _ hw => RunV.load1 hw rfl rfl (by repeat constructor) rfl) ?_
    refine SatD.tk 6 rfl hD (fun _ hw => RunV.cast (RunV.lookup2 (keyInt rfl) hw rfl rfl rfl rfl (by repeat constructor) (by assumption)) (kv_two hk _)) ?_
    refine SatD.tk 7 rfl hD (fun _ hw => RunV.move rfl) ?_
    refine SatD.tk 8 rfl hD (fun _ hw => RunV.extract rfl rfl) ?_
    refine SatD.tk 9 rfl hD (fun _ hw => RunV.extract rfl rfl) ?_
    refine SatD.ef 10 rfl (OpW.alloc hS rfl rfl (by repeat constructor) ?_)
    clear hS
    intro b5 w4 _ hS
    refine keepS (hS.sel (by repeat constructor)) (fun hD => ?_)
    refine SatD.ef 11 rfl (OpW.store hS rfl rfl (by repeat constructor) (by repeat constructor) (by repeat constructor) rfl rfl ?_)
    clear hS
    intro w5 hS
    refine keepS (hS.sel (by repeat constructor)) (fun hD => ?_)
    refine SatD.tk 12 rfl hD (fun _ hw => RunV.assign rfl) ?_
    refine SatD.done 0 (by kernel_rfl) (SatE.thenC ?_)
    clear hD
    refine SatC.seq ?_
    refine SatC.weak (e' := [(3, _), (4, _), (5, _), (6, _)]) (by repeat constructor) ?_
    refine SatC.region ?_
    refine SatL.pu (RunV.move rfl) rfl ?_
    refine SatL.pu (RunV.move rfl) rfl ?_
    refine SatL.guard rfl rfl rfl (fun h2 => ?_) (fun h2 => ?_)
    · (try simp only [cx, ne_eq] at h2)
      try (exfalso; (first | omega | exact h2 trivial | contradiction); done)
      all_goals
      first | refine SatL.pu (RunV.fieldAddrL rfl rfl rfl) rfl ?_ | refine SatL.pu (RunV.fieldAddr rfl rfl rfl) rfl ?_
      refine SatL.guard_y rfl rfl ?_
      refine SatL.pu (RunV.loadN hS rfl rfl (by repeat constructor) (by repeat constructor)) rfl ?_
      refine SatL.guard_y rfl rfl ?_
      refine SatL.pu (RunV.loadN hS rfl rfl (by repeat constructor) (by repeat constructor)) rfl ?_
      refine SatL.guard_y rfl rfl ?_
      refine SatL.pu (RunV.bin rfl rfl (guard29 _ _ _ _ _ _ _ _ _ _) (run_eql29 _ _ _ _ _ _ _)) rfl ?_
      refine SatL.pu (RunV.pick_t rfl rfl) rfl ?_
      refine SatL.pu (RunV.assign rfl) rfl ?_
      refine SatL.nil (SatE.thenC ?_)
      refine SatC.ret ?_
      refine SatE.ret1 rfl rfl ?_
      refine ⟨congrArg Value.bool ?_, St.ro hown (hS.sel (R := QO b mb mult wh o) (by repeat constructor)) (by repeat constructor)⟩
      rw [← hR]
      first | (simp_all; done) | (cases u; simp_all [up]; done)
    · (try simp only [cx, ne_eq] at h2)
      try (exfalso; (first | omega | exact h2 trivial | contradiction); done)
      all_goals
      refine SatL.guard_n rfl rfl rfl rfl ?_
      refine SatL.guard_n rfl rfl rfl rfl ?_
      refine SatL.guard_n rfl rfl rfl rfl ?_
      refine SatL.pu (RunV.pick_f rfl rfl) rfl ?_
      refine SatL.pu (RunV.assign rfl) rfl ?_
      refine SatL.nil (SatE.thenC ?_)
      refine SatC.ret ?_
      refine SatE.ret1 rfl rfl ?_
      refine ⟨congrArg Value.bool ?_, St.ro hown (hS.sel (R := QO b mb mult wh o) (by repeat constructor)) (by repeat constructor)⟩
      rw [← hR]
      first | (simp_all; done) | (cases u; simp_all [up]; done)
end
end Go.Proofs.Ytfkalbbdmlinlaa
