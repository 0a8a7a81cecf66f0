/- Contracts of health's checks: told, followed, ticked, made. -/
import Derived.Test.YtbnkcagcfbpiiaaHb
set_option linter.unusedSimpArgs false
set_option linter.unusedVariables false
set_option maxRecDepth 100000
set_option maxHeartbeats 1000000
namespace Go.Proofs.Ytbnkcagcfbpiiaa
open Go.RowKit
section
variable {c : Ck} {b : Nat} {f : Value} {w : World}
theorem told_any (s : Int) (hf : f = fv c) (hown : Own w [(b, C 108 (hc f c))]) (hk : ¬ c.p.kind = 0) (hb : Bd 1000000 c) : Ret Try.prog 61 #[.pointer (some ⟨b, 0, none⟩), .int .i64 s] w fun v w' => v = .int .i64 (toldA c s) ∧ St w [b] [(b, C 108 (hc f (toldC c s)))] w' := by
  have hS := St.init hown
  simp only [List.map_cons, List.map_nil] at hS
  by_cases h1k : c.p.kind = 1
  · obtain rfl : f = fn 74 := by rw [hf, fv, if_pos h1k]
    refine Ret.enter Try.func61 Try.ntmps61 rfl rfl ?_
    simp only [argEnv, Nat.reduceAdd]
    refine SatC.seq ?_
    refine SatC.region ?_
    refine SatL.pu (RunV.assign rfl) rfl ?_
    refine SatL.nil (SatE.thenC ?_)
    refine SatC.seq ?_
    refine SatC.block ?_
    refine SatC.seq ?_
    refine SatC.region ?_
    refine SatL.pu (RunV.move rfl) rfl ?_
    refine SatL.op rfl (OpW.enter rfl rfl rfl (rfl) (none_any (hS.ownOf (by repeat constructor)) hk) ?_)
    rintro r1 w1 ⟨rfl, h⟩
    replace hS := St.callN hS h
    refine SatL.pu (RunV.assign rfl) rfl ?_
    refine SatL.nil (SatE.thenC ?_)
    refine SatC.cond rfl (fun h1 => ?_) (fun h1 => ?_)
    · (try simp only [cx, ne_eq, not_and, Int.not_le] at h1)
      try (exfalso; (first | omega | exact h1 trivial | contradiction); done)
      all_goals
      refine SatC.seq ?_
      refine SatC.region ?_
      refine SatL.pu (RunV.assign rfl) rfl ?_
      refine SatL.nil (SatE.thenC ?_)
      refine SatC.ret (SatE.blk_ret (SatE.then_ret ?_))
      refine SatE.ret1 rfl rfl ?_
      first
      | (have hb1 : bad c s := by unfold bad; omega
         rw [toldA, toldC, if_pos hb1, if_pos hb1]
         exact ⟨rfl, hS⟩)
      | (have hb1 : ¬ bad c s := by unfold bad; omega
         rw [toldA, toldC, if_neg hb1, if_neg hb1, if_pos h1k]
         exact ⟨rfl, hS⟩)
    · (try simp only [cx, ne_eq, not_and, Int.not_le] at h1)
      try (exfalso; (first | omega | exact h1 trivial | contradiction); done)
      all_goals
      refine SatC.seq ?_
      refine SatC.region ?_
      refine SatL.pu (RunV.move rfl) rfl ?_
      first | refine SatL.pu (RunV.nil_ptr rfl) rfl ?_ | refine SatL.pu (RunV.nil_func rfl) rfl ?_ | refine SatL.pu (RunV.nil_yield rfl) rfl ?_
      first | refine SatL.pu (RunV.fieldAddrL rfl rfl rfl) rfl ?_ | refine SatL.pu (RunV.fieldAddr rfl rfl rfl) rfl ?_
      first | refine SatL.pu (RunV.fieldAddrL rfl rfl rfl) rfl ?_ | refine SatL.pu (RunV.fieldAddr rfl rfl rfl) rfl ?_
      refine SatL.pu (RunV.load1 hS rfl rfl (by repeat constructor) rfl) rfl ?_
      refine SatL.pu (RunV.eql rfl rfl) rfl ?_
      refine SatL.pu (RunV.move rfl) rfl ?_
      refine SatL.guard rfl rfl rfl (fun h2 => ?_) (fun h2 => ?_)
      · (try simp only [cx, ne_eq, not_and, Int.not_le] at h2)
        try (exfalso; (first | omega | exact h2 trivial | contradiction); done)
        all_goals
        refine SatL.pu (RunV.move rfl) rfl ?_
        refine SatL.guard_y rfl rfl ?_
        refine SatL.op rfl (OpW.enter rfl rfl rfl (rfl) (within_any _ _ _ _) ?_)
        rintro r2 w2 ⟨rfl, h⟩
        replace hS := St.callN hS h
        refine SatL.guard_y rfl rfl ?_
        refine SatL.pu (RunV.not rfl) rfl ?_
        refine SatL.pu (RunV.pick_f rfl rfl) rfl ?_
        refine SatL.pu (RunV.assign rfl) rfl ?_
        refine SatL.nil (SatE.thenC ?_)
        refine SatC.weak (e' := [(0, _), (1, _), (4, _), (8, _)]) (by repeat constructor) ?_
        refine SatC.cond rfl (fun h3 => ?_) (fun h3 => ?_)
        · (try simp only [cx, ne_eq, not_and, Int.not_le] at h3)
          try (exfalso; (first | omega | exact h3 trivial | contradiction); done)
          all_goals
          refine SatC.seq ?_
          refine SatC.region ?_
          refine SatL.pu (RunV.assign rfl) rfl ?_
          refine SatL.nil (SatE.thenC ?_)
          refine SatC.ret (SatE.blk_ret (SatE.then_ret ?_))
          refine SatE.ret1 rfl rfl ?_
          first
          | (have hb1 : bad c s := by unfold bad; omega
             rw [toldA, toldC, if_pos hb1, if_pos hb1]
             exact ⟨rfl, hS⟩)
          | (have hb1 : ¬ bad c s := by unfold bad; omega
             rw [toldA, toldC, if_neg hb1, if_neg hb1, if_pos h1k]
             exact ⟨rfl, hS⟩)
        · (try simp only [cx, ne_eq, not_and, Int.not_le] at h3)
          try (exfalso; (first | omega | exact h3 trivial | contradiction); done)
          all_goals
          refine SatC.skip (SatE.blk_normal (SatE.thenC ?_))
          refine SatC.seq ?_
          refine SatC.region ?_
          refine SatL.pu (RunV.move rfl) rfl ?_
          first | refine SatL.pu (RunV.nil_ptr rfl) rfl ?_ | refine SatL.pu (RunV.nil_func rfl) rfl ?_ | refine SatL.pu (RunV.nil_yield rfl) rfl ?_
          first | refine SatL.pu (RunV.fieldAddrL rfl rfl rfl) rfl ?_ | refine SatL.pu (RunV.fieldAddr rfl rfl rfl) rfl ?_
          refine SatL.pu (RunV.load1 hS rfl rfl (by repeat constructor) rfl) rfl ?_
          refine SatL.pu (RunV.move rfl) rfl ?_
          refine SatL.pu (RunV.move rfl) rfl ?_
          refine SatL.op rfl (OpW.enter rfl rfl rfl (rfl) (lasting_any _ (hS.ownOf (by repeat constructor))) ?_)
          rintro r3 w3 h
          replace hS := hS.callR (A := [(b, C 108 (hc (fn 74) c))]) (by repeat constructor) h
          refine SatL.nil (SatE.thenC ?_)
          refine SatC.seq ?_
          refine SatC.region ?_
          refine SatL.pu (RunV.assign rfl) rfl ?_
          refine SatL.nil (SatE.thenC ?_)
          refine SatC.ret ?_
          refine SatE.ret1 rfl rfl ?_
          first
          | (have hb1 : bad c s := by unfold bad; omega
             rw [toldA, toldC, if_pos hb1, if_pos hb1]
             exact ⟨rfl, hS⟩)
          | (have hb1 : ¬ bad c s := by unfold bad; omega
             rw [toldA, toldC, if_neg hb1, if_neg hb1, if_pos h1k]
             exact ⟨rfl, hS⟩)
      · (try simp only [cx, ne_eq, not_and, Int.not_le] at h2)
        try (exfalso; (first | omega | exact h2 trivial | contradiction); done)
        all_goals
        refine SatL.guard_n rfl rfl rfl rfl ?_
        refine SatL.guard_n rfl rfl rfl rfl ?_
        refine SatL.pu (RunV.pick_t rfl rfl) rfl ?_
        refine SatL.pu (RunV.assign rfl) rfl ?_
        refine SatL.nil (SatE.thenC ?_)
        refine SatC.weak (e' := [(0, _), (1, _), (4, _), (8, _)]) (by repeat constructor) ?_
        refine SatC.cond_t rfl ?_
        refine SatC.seq ?_
        refine SatC.region ?_
        refine SatL.pu (RunV.assign rfl) rfl ?_
        refine SatL.nil (SatE.thenC ?_)
        refine SatC.ret (SatE.blk_ret (SatE.then_ret ?_))
        refine SatE.ret1 rfl rfl ?_
        first
        | (have hb1 : bad c s := by unfold bad; omega
           rw [toldA, toldC, if_pos hb1, if_pos hb1]
           exact ⟨rfl, hS⟩)
        | (have hb1 : ¬ bad c s := by unfold bad; omega
           rw [toldA, toldC, if_neg hb1, if_neg hb1, if_pos h1k]
           exact ⟨rfl, hS⟩)
  · obtain rfl : f = fn 73 := by rw [hf, fv, if_neg h1k]
    refine Ret.enter Try.func61 Try.ntmps61 rfl rfl ?_
    simp only [argEnv, Nat.reduceAdd]
    refine SatC.seq ?_
    refine SatC.region ?_
    refine SatL.pu (RunV.assign rfl) rfl ?_
    refine SatL.nil (SatE.thenC ?_)
    refine SatC.seq ?_
    refine SatC.block ?_
    refine SatC.seq ?_
    refine SatC.region ?_
    refine SatL.pu (RunV.move rfl) rfl ?_
    refine SatL.op rfl (OpW.enter rfl rfl rfl (rfl) (none_any (hS.ownOf (by repeat constructor)) hk) ?_)
    rintro r1 w1 ⟨rfl, h⟩
    replace hS := St.callN hS h
    refine SatL.pu (RunV.assign rfl) rfl ?_
    refine SatL.nil (SatE.thenC ?_)
    refine SatC.cond rfl (fun h1 => ?_) (fun h1 => ?_)
    · (try simp only [cx, ne_eq, not_and, Int.not_le] at h1)
      try (exfalso; (first | omega | exact h1 trivial | contradiction); done)
      all_goals
      refine SatC.seq ?_
      refine SatC.region ?_
      refine SatL.pu (RunV.assign rfl) rfl ?_
      refine SatL.nil (SatE.thenC ?_)
      refine SatC.ret (SatE.blk_ret (SatE.then_ret ?_))
      refine SatE.ret1 rfl rfl ?_
      first
      | (have hb1 : bad c s := by unfold bad; omega
         rw [toldA, toldC, if_pos hb1, if_pos hb1]
         exact ⟨rfl, hS⟩)
      | (have hb1 : ¬ bad c s := by unfold bad; omega
         rw [toldA, toldC, if_neg hb1, if_neg hb1, if_neg h1k]
         exact ⟨rfl, hS⟩)
    · (try simp only [cx, ne_eq, not_and, Int.not_le] at h1)
      try (exfalso; (first | omega | exact h1 trivial | contradiction); done)
      all_goals
      refine SatC.seq ?_
      refine SatC.region ?_
      refine SatL.pu (RunV.move rfl) rfl ?_
      first | refine SatL.pu (RunV.nil_ptr rfl) rfl ?_ | refine SatL.pu (RunV.nil_func rfl) rfl ?_ | refine SatL.pu (RunV.nil_yield rfl) rfl ?_
      first | refine SatL.pu (RunV.fieldAddrL rfl rfl rfl) rfl ?_ | refine SatL.pu (RunV.fieldAddr rfl rfl rfl) rfl ?_
      first | refine SatL.pu (RunV.fieldAddrL rfl rfl rfl) rfl ?_ | refine SatL.pu (RunV.fieldAddr rfl rfl rfl) rfl ?_
      refine SatL.pu (RunV.load1 hS rfl rfl (by repeat constructor) rfl) rfl ?_
      refine SatL.pu (RunV.eql rfl rfl) rfl ?_
      refine SatL.pu (RunV.move rfl) rfl ?_
      refine SatL.guard rfl rfl rfl (fun h2 => ?_) (fun h2 => ?_)
      · (try simp only [cx, ne_eq, not_and, Int.not_le] at h2)
        try (exfalso; (first | omega | exact h2 trivial | contradiction); done)
        all_goals
        refine SatL.pu (RunV.move rfl) rfl ?_
        refine SatL.guard_y rfl rfl ?_
        refine SatL.op rfl (OpW.enter rfl rfl rfl (rfl) (within_any _ _ _ _) ?_)
        rintro r2 w2 ⟨rfl, h⟩
        replace hS := St.callN hS h
        refine SatL.guard_y rfl rfl ?_
        refine SatL.pu (RunV.not rfl) rfl ?_
        refine SatL.pu (RunV.pick_f rfl rfl) rfl ?_
        refine SatL.pu (RunV.assign rfl) rfl ?_
        refine SatL.nil (SatE.thenC ?_)
        refine SatC.weak (e' := [(0, _), (1, _), (4, _), (8, _)]) (by repeat constructor) ?_
        refine SatC.cond rfl (fun h3 => ?_) (fun h3 => ?_)
        · (try simp only [cx, ne_eq, not_and, Int.not_le] at h3)
          try (exfalso; (first | omega | exact h3 trivial | contradiction); done)
          all_goals
          refine SatC.seq ?_
          refine SatC.region ?_
          refine SatL.pu (RunV.assign rfl) rfl ?_
          refine SatL.nil (SatE.thenC ?_)
          refine SatC.ret (SatE.blk_ret (SatE.then_ret ?_))
          refine SatE.ret1 rfl rfl ?_
          first
          | (have hb1 : bad c s := by unfold bad; omega
             rw [toldA, toldC, if_pos hb1, if_pos hb1]
             exact ⟨rfl, hS⟩)
          | (have hb1 : ¬ bad c s := by unfold bad; omega
             rw [toldA, toldC, if_neg hb1, if_neg hb1, if_neg h1k]
             exact ⟨rfl, hS⟩)
        · (try simp only [cx, ne_eq, not_and, Int.not_le] at h3)
          try (exfalso; (first | omega | exact h3 trivial | contradiction); done)
          all_goals
          refine SatC.skip (SatE.blk_normal (SatE.thenC ?_))
          refine SatC.seq ?_
          refine SatC.region ?_
          refine SatL.pu (RunV.move rfl) rfl ?_
          first | refine SatL.pu (RunV.nil_ptr rfl) rfl ?_ | refine SatL.pu (RunV.nil_func rfl) rfl ?_ | refine SatL.pu (RunV.nil_yield rfl) rfl ?_
          first | refine SatL.pu (RunV.fieldAddrL rfl rfl rfl) rfl ?_ | refine SatL.pu (RunV.fieldAddr rfl rfl rfl) rfl ?_
          refine SatL.pu (RunV.load1 hS rfl rfl (by repeat constructor) rfl) rfl ?_
          refine SatL.pu (RunV.move rfl) rfl ?_
          refine SatL.pu (RunV.move rfl) rfl ?_
          refine SatL.op rfl (OpW.enter rfl rfl rfl (rfl) (counted_any _ (hS.ownOf (by repeat constructor)) hb) ?_)
          rintro r3 w3 h
          replace hS := hS.callR (A := [(b, C 108 (hc (fn 73) c))]) (by repeat constructor) h
          refine SatL.nil (SatE.thenC ?_)
          refine SatC.seq ?_
          refine SatC.region ?_
          refine SatL.pu (RunV.assign rfl) rfl ?_
          refine SatL.nil (SatE.thenC ?_)
          refine SatC.ret ?_
          refine SatE.ret1 rfl rfl ?_
          first
          | (have hb1 : bad c s := by unfold bad; omega
             rw [toldA, toldC, if_pos hb1, if_pos hb1]
             exact ⟨rfl, hS⟩)
          | (have hb1 : ¬ bad c s := by unfold bad; omega
             rw [toldA, toldC, if_neg hb1, if_neg hb1, if_neg h1k]
             exact ⟨rfl, hS⟩)
      · (try simp only [cx, ne_eq, not_and, Int.not_le] at h2)
        try (exfalso; (first | omega | exact h2 trivial | contradiction); done)
        all_goals
        refine SatL.guard_n rfl rfl rfl rfl ?_
        refine SatL.guard_n rfl rfl rfl rfl ?_
        refine SatL.pu (RunV.pick_t rfl rfl) rfl ?_
        refine SatL.pu (RunV.assign rfl) rfl ?_
        refine SatL.nil (SatE.thenC ?_)
        refine SatC.weak (e' := [(0, _), (1, _), (4, _), (8, _)]) (by repeat constructor) ?_
        refine SatC.cond_t rfl ?_
        refine SatC.seq ?_
        refine SatC.region ?_
        refine SatL.pu (RunV.assign rfl) rfl ?_
        refine SatL.nil (SatE.thenC ?_)
        refine SatC.ret (SatE.blk_ret (SatE.then_ret ?_))
        refine SatE.ret1 rfl rfl ?_
        first
        | (have hb1 : bad c s := by unfold bad; omega
           rw [toldA, toldC, if_pos hb1, if_pos hb1]
           exact ⟨rfl, hS⟩)
        | (have hb1 : ¬ bad c s := by unfold bad; omega
           rw [toldA, toldC, if_neg hb1, if_neg hb1, if_neg h1k]
           exact ⟨rfl, hS⟩)
theorem fol_any (s : Int) (hown : Own w [(b, C 108 (hc f c))]) (hk : ¬ c.p.kind = 0) : Ret Try.prog 33 #[.pointer (some ⟨b, 0, none⟩), .int .i64 s] w fun v w' => v = .int .i64 (folA c s) ∧ St w [b] [(b, C 108 (hc f (folC c s)))] w' := by
  have hS := St.init hown
  simp only [List.map_cons, List.map_nil] at hS
  refine Ret.enter Try.func33 Try.ntmps33 rfl rfl ?_
  simp only [argEnv, Nat.reduceAdd]
  refine SatC.seq ?_
  refine SatC.region ?_
  refine SatL.pu (RunV.assign rfl) rfl ?_
  refine SatL.nil (SatE.thenC ?_)
  refine SatC.seq ?_
  refine SatC.block ?_
  refine SatC.seq ?_
  refine SatC.region ?_
  refine SatL.pu (RunV.move rfl) rfl ?_
  refine SatL.op rfl (OpW.enter rfl rfl rfl (rfl) (none_any (hS.ownOf (by repeat constructor)) hk) ?_)
  rintro r1 w1 ⟨rfl, h⟩
  replace hS := St.callN hS h
  refine SatL.pu (RunV.assign rfl) rfl ?_
  refine SatL.nil (SatE.thenC ?_)
  refine SatC.cond rfl (fun h1 => ?_) (fun h1 => ?_)
  · (try simp only [cx, ne_eq, not_and, Int.not_le] at h1)
    try (exfalso; (first | omega | exact h1 trivial | contradiction); done)
    all_goals
    refine SatC.seq ?_
    refine SatC.region ?_
    refine SatL.pu (RunV.assign rfl) rfl ?_
    refine SatL.nil (SatE.thenC ?_)
    refine SatC.ret (SatE.blk_ret (SatE.then_ret ?_))
    refine SatE.ret1 rfl rfl ?_
    rw [folA, folC]
    first
    | (rw [if_pos (by omega), if_pos (by omega)]; exact ⟨rfl, hS⟩)
    | (rw [if_neg (by omega), if_neg (by omega)]; exact ⟨rfl, hS⟩)
  · (try simp only [cx, ne_eq, not_and, Int.not_le] at h1)
    try (exfalso; (first | omega | exact h1 trivial | contradiction); done)
    all_goals
    refine SatC.seq ?_
    refine SatC.region ?_
    refine SatL.pu (RunV.move rfl) rfl ?_
    first | refine SatL.pu (RunV.nil_ptr rfl) rfl ?_ | refine SatL.pu (RunV.nil_func rfl) rfl ?_ | refine SatL.pu (RunV.nil_yield rfl) rfl ?_
    first | refine SatL.pu (RunV.fieldAddrL rfl rfl rfl) rfl ?_ | refine SatL.pu (RunV.fieldAddr rfl rfl rfl) rfl ?_
    first | refine SatL.pu (RunV.fieldAddrL rfl rfl rfl) rfl ?_ | refine SatL.pu (RunV.fieldAddr rfl rfl rfl) rfl ?_
    refine SatL.pu (RunV.load1 hS rfl rfl (by repeat constructor) rfl) rfl ?_
    refine SatL.pu (RunV.neq rfl rfl) rfl ?_
    refine SatL.pu (RunV.move rfl) rfl ?_
    refine SatL.guard rfl rfl rfl (fun h2 => ?_) (fun h2 => ?_)
    · (try simp only [cx, ne_eq, not_and, Int.not_le] at h2)
      try (exfalso; (first | omega | exact h2 trivial | contradiction); done)
      all_goals
      refine SatL.pu (RunV.move rfl) rfl ?_
      refine SatL.guard_y rfl rfl ?_
      refine SatL.op rfl (OpW.enter rfl rfl rfl (rfl) (within_any _ _ _ _) ?_)
      rintro r2 w2 ⟨rfl, h⟩
      replace hS := St.callN hS h
      refine SatL.guard_y rfl rfl ?_
      refine SatL.pu (RunV.not rfl) rfl ?_
      refine SatL.pu (RunV.pick_f rfl rfl) rfl ?_
      refine SatL.pu (RunV.assign rfl) rfl ?_
      refine SatL.nil (SatE.thenC ?_)
      refine SatC.weak (e' := [(0, _), (1, _), (4, _), (8, _)]) (by repeat constructor) ?_
      refine SatC.cond rfl (fun h3 => ?_) (fun h3 => ?_)
      · (try simp only [cx, ne_eq, not_and, Int.not_le] at h3)
        try (exfalso; (first | omega | exact h3 trivial | contradiction); done)
        all_goals
        refine SatC.seq ?_
        refine SatC.region ?_
        refine SatL.pu (RunV.assign rfl) rfl ?_
        refine SatL.nil (SatE.thenC ?_)
        refine SatC.ret (SatE.blk_ret (SatE.then_ret ?_))
        refine SatE.ret1 rfl rfl ?_
        rw [folA, folC]
        first
        | (rw [if_pos (by omega), if_pos (by omega)]; exact ⟨rfl, hS⟩)
        | (rw [if_neg (by omega), if_neg (by omega)]; exact ⟨rfl, hS⟩)
      · (try simp only [cx, ne_eq, not_and, Int.not_le] at h3)
        try (exfalso; (first | omega | exact h3 trivial | contradiction); done)
        all_goals
        refine SatC.skip (SatE.blk_normal (SatE.thenC ?_))
        refine SatC.seq ?_
        refine SatC.region ?_
        refine SatL.pu (RunV.move rfl) rfl ?_
        refine SatL.pu (RunV.move rfl) rfl ?_
        first | refine SatL.pu (RunV.nil_ptr rfl) rfl ?_ | refine SatL.pu (RunV.nil_func rfl) rfl ?_ | refine SatL.pu (RunV.nil_yield rfl) rfl ?_
        first | refine SatL.pu (RunV.fieldAddrL rfl rfl rfl) rfl ?_ | refine SatL.pu (RunV.fieldAddr rfl rfl rfl) rfl ?_
        refine SatL.op rfl (OpW.store hS rfl rfl (by repeat constructor) (by repeat constructor) (by repeat constructor) rfl rfl ?_)
        clear hS
        intro w3 hS
        refine SatL.nil (SatE.thenC ?_)
        refine SatC.seq ?_
        refine SatC.region ?_
        refine SatL.pu (RunV.assign rfl) rfl ?_
        refine SatL.nil (SatE.thenC ?_)
        refine SatC.ret ?_
        refine SatE.ret1 rfl rfl ?_
        rw [folA, folC]
        first
        | (rw [if_pos (by omega), if_pos (by omega)]; exact ⟨rfl, hS⟩)
        | (rw [if_neg (by omega), if_neg (by omega)]; exact ⟨rfl, hS⟩)
    · (try simp only [cx, ne_eq, not_and, Int.not_le] at h2)
      try (exfalso; (first | omega | exact h2 trivial | contradiction); done)
      all_goals
      refine SatL.guard_n rfl rfl rfl rfl ?_
      refine SatL.guard_n rfl rfl rfl rfl ?_
      refine SatL.pu (RunV.pick_t rfl rfl) rfl ?_
      refine SatL.pu (RunV.assign rfl) rfl ?_
      refine SatL.nil (SatE.thenC ?_)
      refine SatC.weak (e' := [(0, _), (1, _), (4, _), (8, _)]) (by repeat constructor) ?_
      refine SatC.cond_t rfl ?_
      refine SatC.seq ?_
      refine SatC.region ?_
      refine SatL.pu (RunV.assign rfl) rfl ?_
      refine SatL.nil (SatE.thenC ?_)
      refine SatC.ret (SatE.blk_ret (SatE.then_ret ?_))
      refine SatE.ret1 rfl rfl ?_
      rw [folA, folC]
      first
      | (rw [if_pos (by omega), if_pos (by omega)]; exact ⟨rfl, hS⟩)
      | (rw [if_neg (by omega), if_neg (by omega)]; exact ⟨rfl, hS⟩)
theorem tick_of {c : Ck} {x : Ck} (h1 : tick1 c = x) : tickC c = { x with long := if stat x = 2 then c.long + 1 else 0 } := by rw [tickC, h1]
theorem tick1_a {c : Ck} (h : c.p.kind = 1) (hl : c.p.lasts ≤ c.age + 1) : tick1 c = { c with age := c.age + 1, bare := 2 } := by rw [tick1, if_pos h, if_pos hl]
theorem tick1_b {c : Ck} (h : c.p.kind = 1) (hl : c.age + 1 < c.p.lasts) : tick1 c = { c with age := c.age + 1 } := by rw [tick1, if_pos h, if_neg (by omega)]
theorem tick1_c {c : Ck} (h : ¬ c.p.kind = 1) : tick1 c = c := by rw [tick1, if_neg h]
theorem tick_any (hown : Own w [(b, C 108 (hc f c))]) (hk : ¬ c.p.kind = 0) (hb : Bd 1000000 c) : Ret Try.prog 31 #[.pointer (some ⟨b, 0, none⟩)] w fun v w' => v = .bool (tickA c) ∧ St w [b] [(b, C 108 (hc f (tickC c)))] w' := by
  have hS := St.init hown
  simp only [List.map_cons, List.map_nil] at hS
  unfold Bd at hb
  refine Ret.enter Try.func31 Try.ntmps31 rfl rfl ?_
  simp only [argEnv, Nat.reduceAdd]
  refine SatC.seq ?_
  refine SatC.region ?_
  refine SatL.pu (RunV.assign rfl) rfl ?_
  refine SatL.nil (SatE.thenC ?_)
  refine SatC.seq ?_
  refine SatC.seq ?_
  refine SatC.region ?_
  refine SatL.pu (RunV.move rfl) rfl ?_
  refine SatL.op rfl (OpW.enter rfl rfl rfl (rfl) (none_any (hS.ownOf (by repeat constructor)) hk) ?_)
  rintro r1 w1 ⟨rfl, h⟩
  replace hS := St.callN hS h
  refine SatL.nil (SatE.thenC ?_)
  refine SatC.cond rfl (fun h1 => ?_) (fun h1 => ?_)
  · (try simp only [cx, ne_eq, not_and, Int.not_le] at h1)
    try (exfalso; (first | omega | exact h1 trivial | contradiction); done)
    all_goals
    refine SatC.seq ?_
    refine SatC.region ?_
    refine SatL.pu (RunV.assign rfl) rfl ?_
    refine SatL.nil (SatE.thenC ?_)
    refine SatC.ret (SatE.then_ret ?_)
    refine SatE.ret1 rfl rfl ?_
    rw [tickA]
    first | rw [tick_of (tick1_a (by omega) (by omega))] | rw [tick_of (tick1_b (by omega) (by omega))] | rw [tick_of (tick1_c (by omega))]
    first
    | (rw [if_pos (by assumption)]; exact ⟨rfl, hS⟩)
    | (rw [if_neg (by assumption)]; exact ⟨rfl, hS⟩)
  · (try simp only [cx, ne_eq, not_and, Int.not_le] at h1)
    try (exfalso; (first | omega | exact h1 trivial | contradiction); done)
    all_goals
    refine SatC.skip (SatE.thenC ?_)
    refine SatC.seq ?_
    refine SatC.region ?_
    refine SatL.pu (RunV.move rfl) rfl ?_
    refine SatL.op rfl (OpW.enter rfl rfl rfl (rfl) (stat_any (c := c) (hS.ownOf (by repeat constructor)) hk) ?_)
    rintro r2 w2 ⟨rfl, h⟩
    replace hS := St.callN hS h
    refine SatL.pu (RunV.assign rfl) rfl ?_
    refine SatL.nil (SatE.thenC ?_)
    refine SatC.seq ?_
    refine SatC.seq ?_
    refine SatC.region ?_
    refine SatL.pu (RunV.move rfl) rfl ?_
    first | refine SatL.pu (RunV.nil_ptr rfl) rfl ?_ | refine SatL.pu (RunV.nil_func rfl) rfl ?_ | refine SatL.pu (RunV.nil_yield rfl) rfl ?_
    first | refine SatL.pu (RunV.fieldAddrL rfl rfl rfl) rfl ?_ | refine SatL.pu (RunV.fieldAddr rfl rfl rfl) rfl ?_
    first | refine SatL.pu (RunV.fieldAddrL rfl rfl rfl) rfl ?_ | refine SatL.pu (RunV.fieldAddr rfl rfl rfl) rfl ?_
    refine SatL.pu (RunV.load1 hS rfl rfl (by repeat constructor) rfl) rfl ?_
    refine SatL.pu (RunV.eql rfl rfl) rfl ?_
    refine SatL.nil (SatE.thenC ?_)
    refine SatC.cond rfl (fun h2 => ?_) (fun h2 => ?_)
    · (try simp only [cx, ne_eq, not_and, Int.not_le] at h2)
      try (exfalso; (first | omega | exact h2 trivial | contradiction); done)
      all_goals
      refine SatC.seq ?_
      refine SatC.region ?_
      refine SatL.pu (RunV.move rfl) rfl ?_
      first | refine SatL.pu (RunV.nil_ptr rfl) rfl ?_ | refine SatL.pu (RunV.nil_func rfl) rfl ?_ | refine SatL.pu (RunV.nil_yield rfl) rfl ?_
      first | refine SatL.pu (RunV.fieldAddrL rfl rfl rfl) rfl ?_ | refine SatL.pu (RunV.fieldAddr rfl rfl rfl) rfl ?_
      refine SatL.pu (RunV.load1 hS rfl rfl (by repeat constructor) rfl) rfl ?_
      refine SatL.pu (RunV.add rfl rfl (by first | exact wrapI64 (by omega) | rfl)) rfl ?_
      first | refine SatL.pu (RunV.nil_ptr rfl) rfl ?_ | refine SatL.pu (RunV.nil_func rfl) rfl ?_ | refine SatL.pu (RunV.nil_yield rfl) rfl ?_
      first | refine SatL.pu (RunV.fieldAddrL rfl rfl rfl) rfl ?_ | refine SatL.pu (RunV.fieldAddr rfl rfl rfl) rfl ?_
      refine SatL.op rfl (OpW.store hS rfl rfl (by repeat constructor) (by repeat constructor) (by repeat constructor) rfl rfl ?_)
      clear hS
      intro w3 hS
      refine SatL.nil (SatE.thenC ?_)
      refine SatC.seq ?_
      refine SatC.weak (e' := [(0, _), (2, _), (3, _)]) (by repeat constructor) ?_
      refine SatC.drawnT 10 hS (hS) (by kernel_rfl) ?_
      clear hS
      intro w4 hh hS hD
      refine SatD.tk 0 rfl hD (fun _ hw => RunV.move rfl) ?_
      first | refine SatD.tk 1 rfl hD (fun _ hw => RunV.nil_ptr rfl) ?_ | refine SatD.tk 1 rfl hD (fun _ hw => RunV.nil_func rfl) ?_ | refine SatD.tk 1 rfl hD (fun _ hw => RunV.nil_yield rfl) ?_
      first | refine SatD.tk 2 rfl hD (fun _ hw => RunV.fieldAddrL rfl rfl rfl) ?_ | refine SatD.tk 2 rfl hD (fun _ hw => RunV.fieldAddr rfl rfl rfl) ?_
      refine SatD.tk 3 rfl hD (fun _ hw => RunV.load1 hw rfl rfl (by repeat constructor) rfl) ?_
      refine SatD.tk 4 rfl hD (fun _ hw => RunV.move rfl) ?_
      first | refine SatD.tk 5 rfl hD (fun _ hw => RunV.nil_ptr rfl) ?_ | refine SatD.tk 5 rfl hD (fun _ hw => RunV.nil_func rfl) ?_ | refine SatD.tk 5 rfl hD (fun _ hw => RunV.nil_yield rfl) ?_
      first | refine SatD.tk 6 rfl hD (fun _ hw => RunV.fieldAddrL rfl rfl rfl) ?_ | refine SatD.tk 6 rfl hD (fun _ hw => RunV.fieldAddr rfl rfl rfl) ?_
      first | refine SatD.tk 7 rfl hD (fun _ hw => RunV.fieldAddrL rfl rfl rfl) ?_ | refine SatD.tk 7 rfl hD (fun _ hw => RunV.fieldAddr rfl rfl rfl) ?_
      refine SatD.tk 8 rfl hD (fun _ hw => RunV.load1 hw rfl rfl (by repeat constructor) rfl) ?_
      refine SatD.tk 9 rfl hD (fun _ hw => RunV.geq rfl rfl) ?_
      refine SatD.done 0 (by kernel_rfl) (SatE.thenC ?_)
      clear hD
      refine SatC.cond rfl (fun h3 => ?_) (fun h3 => ?_)
      · (try simp only [cx, ne_eq, not_and, Int.not_le] at h3)
        try (exfalso; (first | omega | exact h3 trivial | contradiction); done)
        all_goals
        refine SatC.region ?_
        refine SatL.pu (RunV.move rfl) rfl ?_
        first | refine SatL.pu (RunV.nil_ptr rfl) rfl ?_ | refine SatL.pu (RunV.nil_func rfl) rfl ?_ | refine SatL.pu (RunV.nil_yield rfl) rfl ?_
        first | refine SatL.pu (RunV.fieldAddrL rfl rfl rfl) rfl ?_ | refine SatL.pu (RunV.fieldAddr rfl rfl rfl) rfl ?_
        refine SatL.op rfl (OpW.store hS rfl rfl (by repeat constructor) (by repeat constructor) (by repeat constructor) rfl rfl ?_)
        clear hS
        intro w5 hS
        refine SatL.nil (SatE.thenC ?_)
        refine SatC.seq ?_
        refine SatC.seq ?_
        refine SatC.weak (e' := [(0, _), (2, _), (3, _)]) (by repeat constructor) ?_
        refine SatC.region ?_
        refine SatL.pu (RunV.move rfl) rfl ?_
        refine SatL.op rfl (OpW.enter rfl rfl rfl (rfl) (stat_any (c := { c with age := c.age + 1, bare := 2 }) (hS.ownOf (by repeat constructor)) hk) ?_)
        rintro r6 w6 ⟨rfl, h⟩
        replace hS := St.callN hS h
        refine SatL.pu (RunV.eql rfl rfl) rfl ?_
        refine SatL.nil (SatE.thenC ?_)
        refine SatC.cond rfl (fun h4 => ?_) (fun h4 => ?_)
        · (try simp only [cx, ne_eq, not_and, Int.not_le] at h4)
          try (exfalso; (first | omega | exact h4 trivial | contradiction); done)
          all_goals
          refine SatC.region ?_
          refine SatL.pu (RunV.move rfl) rfl ?_
          first | refine SatL.pu (RunV.nil_ptr rfl) rfl ?_ | refine SatL.pu (RunV.nil_func rfl) rfl ?_ | refine SatL.pu (RunV.nil_yield rfl) rfl ?_
          first | refine SatL.pu (RunV.fieldAddrL rfl rfl rfl) rfl ?_ | refine SatL.pu (RunV.fieldAddr rfl rfl rfl) rfl ?_
          refine SatL.pu (RunV.load1 hS rfl rfl (by repeat constructor) rfl) rfl ?_
          refine SatL.pu (RunV.add rfl rfl (by first | exact wrapI64 (by omega) | rfl)) rfl ?_
          first | refine SatL.pu (RunV.nil_ptr rfl) rfl ?_ | refine SatL.pu (RunV.nil_func rfl) rfl ?_ | refine SatL.pu (RunV.nil_yield rfl) rfl ?_
          first | refine SatL.pu (RunV.fieldAddrL rfl rfl rfl) rfl ?_ | refine SatL.pu (RunV.fieldAddr rfl rfl rfl) rfl ?_
          refine SatL.op rfl (OpW.store hS rfl rfl (by repeat constructor) (by repeat constructor) (by repeat constructor) rfl rfl ?_)
          clear hS
          intro w7 hS
          refine SatL.nil (SatE.thenC ?_)
          refine SatC.seq ?_
          refine SatC.region ?_
          refine SatL.pu (RunV.move rfl) rfl ?_
          refine SatL.op rfl (OpW.enter rfl rfl rfl (rfl) (stat_any (c := { c with age := c.age + 1, bare := 2, long := c.long + 1 }) (hS.ownOf (by repeat constructor)) hk) ?_)
          rintro r8 w8 ⟨rfl, h⟩
          replace hS := St.callN hS h
          refine SatL.pu (RunV.move rfl) rfl ?_
          refine SatL.pu (RunV.neq rfl rfl) rfl ?_
          refine SatL.pu (RunV.assign rfl) rfl ?_
          refine SatL.nil (SatE.thenC ?_)
          refine SatC.ret ?_
          refine SatE.ret1 rfl rfl ?_
          rw [tickA]
          first | rw [tick_of (tick1_a (by omega) (by omega))] | rw [tick_of (tick1_b (by omega) (by omega))] | rw [tick_of (tick1_c (by omega))]
          first
          | (rw [if_pos (by assumption)]; exact ⟨rfl, hS⟩)
          | (rw [if_neg (by assumption)]; exact ⟨rfl, hS⟩)
        · (try simp only [cx, ne_eq, not_and, Int.not_le] at h4)
          try (exfalso; (first | omega | exact h4 trivial | contradiction); done)
          all_goals
          refine SatC.region ?_
          refine SatL.pu (RunV.move rfl) rfl ?_
          first | refine SatL.pu (RunV.nil_ptr rfl) rfl ?_ | refine SatL.pu (RunV.nil_func rfl) rfl ?_ | refine SatL.pu (RunV.nil_yield rfl) rfl ?_
          first | refine SatL.pu (RunV.fieldAddrL rfl rfl rfl) rfl ?_ | refine SatL.pu (RunV.fieldAddr rfl rfl rfl) rfl ?_
          refine SatL.op rfl (OpW.store hS rfl rfl (by repeat constructor) (by repeat constructor) (by repeat constructor) rfl rfl ?_)
          clear hS
          intro w7 hS
          refine SatL.nil (SatE.thenC ?_)
          refine SatC.seq ?_
          refine SatC.region ?_
          refine SatL.pu (RunV.move rfl) rfl ?_
          refine SatL.op rfl (OpW.enter rfl rfl rfl (rfl) (stat_any (c := { c with age := c.age + 1, bare := 2, long := 0 }) (hS.ownOf (by repeat constructor)) hk) ?_)
          rintro r8 w8 ⟨rfl, h⟩
          replace hS := St.callN hS h
          refine SatL.pu (RunV.move rfl) rfl ?_
          refine SatL.pu (RunV.neq rfl rfl) rfl ?_
          refine SatL.pu (RunV.assign rfl) rfl ?_
          refine SatL.nil (SatE.thenC ?_)
          refine SatC.ret ?_
          refine SatE.ret1 rfl rfl ?_
          rw [tickA]
          first | rw [tick_of (tick1_a (by omega) (by omega))] | rw [tick_of (tick1_b (by omega) (by omega))] | rw [tick_of (tick1_c (by omega))]
          first
          | (rw [if_pos (by assumption)]; exact ⟨rfl, hS⟩)
          | (rw [if_neg (by assumption)]; exact ⟨rfl, hS⟩)
      · (try simp only [cx, ne_eq, not_and, Int.not_le] at h3)
        try (exfalso; (first | omega | exact h3 trivial | contradiction); done)
        all_goals
        refine SatC.skip (SatE.thenC ?_)
        refine SatC.seq ?_
        refine SatC.seq ?_
        refine SatC.region ?_
        refine SatL.pu (RunV.move rfl) rfl ?_
        refine SatL.op rfl (OpW.enter rfl rfl rfl (rfl) (stat_any (c := { c with age := c.age + 1 }) (hS.ownOf (by repeat constructor)) hk) ?_)
        rintro r5 w5 ⟨rfl, h⟩
        replace hS := St.callN hS h
        refine SatL.pu (RunV.eql rfl rfl) rfl ?_
        refine SatL.nil (SatE.thenC ?_)
        refine SatC.weak (e' := [(0, _), (2, _), (3, _), (36, _)]) (by repeat constructor) ?_
        refine SatC.cond rfl (fun h4 => ?_) (fun h4 => ?_)
        · (try simp only [cx, ne_eq, not_and, Int.not_le] at h4)
          try (exfalso; (first | omega | exact h4 trivial | contradiction); done)
          all_goals
          refine SatC.region ?_
          refine SatL.pu (RunV.move rfl) rfl ?_
          first | refine SatL.pu (RunV.nil_ptr rfl) rfl ?_ | refine SatL.pu (RunV.nil_func rfl) rfl ?_ | refine SatL.pu (RunV.nil_yield rfl) rfl ?_
          first | refine SatL.pu (RunV.fieldAddrL rfl rfl rfl) rfl ?_ | refine SatL.pu (RunV.fieldAddr rfl rfl rfl) rfl ?_
          refine SatL.pu (RunV.load1 hS rfl rfl (by repeat constructor) rfl) rfl ?_
          refine SatL.pu (RunV.add rfl rfl (by first | exact wrapI64 (by omega) | rfl)) rfl ?_
          first | refine SatL.pu (RunV.nil_ptr rfl) rfl ?_ | refine SatL.pu (RunV.nil_func rfl) rfl ?_ | refine SatL.pu (RunV.nil_yield rfl) rfl ?_
          first | refine SatL.pu (RunV.fieldAddrL rfl rfl rfl) rfl ?_ | refine SatL.pu (RunV.fieldAddr rfl rfl rfl) rfl ?_
          refine SatL.op rfl (OpW.store hS rfl rfl (by repeat constructor) (by repeat constructor) (by repeat constructor) rfl rfl ?_)
          clear hS
          intro w6 hS
          refine SatL.nil (SatE.thenC ?_)
          refine SatC.seq ?_
          refine SatC.region ?_
          refine SatL.pu (RunV.move rfl) rfl ?_
          refine SatL.op rfl (OpW.enter rfl rfl rfl (rfl) (stat_any (c := { c with age := c.age + 1, long := c.long + 1 }) (hS.ownOf (by repeat constructor)) hk) ?_)
          rintro r7 w7 ⟨rfl, h⟩
          replace hS := St.callN hS h
          refine SatL.pu (RunV.move rfl) rfl ?_
          refine SatL.pu (RunV.neq rfl rfl) rfl ?_
          refine SatL.pu (RunV.assign rfl) rfl ?_
          refine SatL.nil (SatE.thenC ?_)
          refine SatC.ret ?_
          refine SatE.ret1 rfl rfl ?_
          rw [tickA]
          first | rw [tick_of (tick1_a (by omega) (by omega))] | rw [tick_of (tick1_b (by omega) (by omega))] | rw [tick_of (tick1_c (by omega))]
          first
          | (rw [if_pos (by assumption)]; exact ⟨rfl, hS⟩)
          | (rw [if_neg (by assumption)]; exact ⟨rfl, hS⟩)
        · (try simp only [cx, ne_eq, not_and, Int.not_le] at h4)
          try (exfalso; (first | omega | exact h4 trivial | contradiction); done)
          all_goals
          refine SatC.region ?_
          refine SatL.pu (RunV.move rfl) rfl ?_
          first | refine SatL.pu (RunV.nil_ptr rfl) rfl ?_ | refine SatL.pu (RunV.nil_func rfl) rfl ?_ | refine SatL.pu (RunV.nil_yield rfl) rfl ?_
          first | refine SatL.pu (RunV.fieldAddrL rfl rfl rfl) rfl ?_ | refine SatL.pu (RunV.fieldAddr rfl rfl rfl) rfl ?_
          refine SatL.op rfl (OpW.store hS rfl rfl (by repeat constructor) (by repeat constructor) (by repeat constructor) rfl rfl ?_)
          clear hS
          intro w6 hS
          refine SatL.nil (SatE.thenC ?_)
          refine SatC.seq ?_
          refine SatC.region ?_
          refine SatL.pu (RunV.move rfl) rfl ?_
          refine SatL.op rfl (OpW.enter rfl rfl rfl (rfl) (stat_any (c := { c with age := c.age + 1, long := 0 }) (hS.ownOf (by repeat constructor)) hk) ?_)
          rintro r7 w7 ⟨rfl, h⟩
          replace hS := St.callN hS h
          refine SatL.pu (RunV.move rfl) rfl ?_
          refine SatL.pu (RunV.neq rfl rfl) rfl ?_
          refine SatL.pu (RunV.assign rfl) rfl ?_
          refine SatL.nil (SatE.thenC ?_)
          refine SatC.ret ?_
          refine SatE.ret1 rfl rfl ?_
          rw [tickA]
          first | rw [tick_of (tick1_a (by omega) (by omega))] | rw [tick_of (tick1_b (by omega) (by omega))] | rw [tick_of (tick1_c (by omega))]
          first
          | (rw [if_pos (by assumption)]; exact ⟨rfl, hS⟩)
          | (rw [if_neg (by assumption)]; exact ⟨rfl, hS⟩)
    · (try simp only [cx, ne_eq, not_and, Int.not_le] at h2)
      try (exfalso; (first | omega | exact h2 trivial | contradiction); done)
      all_goals
      refine SatC.skip (SatE.thenC ?_)
      refine SatC.seq ?_
      refine SatC.seq ?_
      refine SatC.region ?_
      refine SatL.pu (RunV.move rfl) rfl ?_
      refine SatL.op rfl (OpW.enter rfl rfl rfl (rfl) (stat_any (c := c) (hS.ownOf (by repeat constructor)) hk) ?_)
      rintro r3 w3 ⟨rfl, h⟩
      replace hS := St.callN hS h
      refine SatL.pu (RunV.eql rfl rfl) rfl ?_
      refine SatL.nil (SatE.thenC ?_)
      refine SatC.weak (e' := [(0, _), (2, _), (3, _), (36, _)]) (by repeat constructor) ?_
      refine SatC.cond rfl (fun h3 => ?_) (fun h3 => ?_)
      · (try simp only [cx, ne_eq, not_and, Int.not_le] at h3)
        try (exfalso; (first | omega | exact h3 trivial | contradiction); done)
        all_goals
        refine SatC.region ?_
        refine SatL.pu (RunV.move rfl) rfl ?_
        first | refine SatL.pu (RunV.nil_ptr rfl) rfl ?_ | refine SatL.pu (RunV.nil_func rfl) rfl ?_ | refine SatL.pu (RunV.nil_yield rfl) rfl ?_
        first | refine SatL.pu (RunV.fieldAddrL rfl rfl rfl) rfl ?_ | refine SatL.pu (RunV.fieldAddr rfl rfl rfl) rfl ?_
        refine SatL.pu (RunV.load1 hS rfl rfl (by repeat constructor) rfl) rfl ?_
        refine SatL.pu (RunV.add rfl rfl (by first | exact wrapI64 (by omega) | rfl)) rfl ?_
        first | refine SatL.pu (RunV.nil_ptr rfl) rfl ?_ | refine SatL.pu (RunV.nil_func rfl) rfl ?_ | refine SatL.pu (RunV.nil_yield rfl) rfl ?_
        first | refine SatL.pu (RunV.fieldAddrL rfl rfl rfl) rfl ?_ | refine SatL.pu (RunV.fieldAddr rfl rfl rfl) rfl ?_
        refine SatL.op rfl (OpW.store hS rfl rfl (by repeat constructor) (by repeat constructor) (by repeat constructor) rfl rfl ?_)
        clear hS
        intro w4 hS
        refine SatL.nil (SatE.thenC ?_)
        refine SatC.seq ?_
        refine SatC.region ?_
        refine SatL.pu (RunV.move rfl) rfl ?_
        refine SatL.op rfl (OpW.enter rfl rfl rfl (rfl) (stat_any (c := { c with long := c.long + 1 }) (hS.ownOf (by repeat constructor)) hk) ?_)
        rintro r5 w5 ⟨rfl, h⟩
        replace hS := St.callN hS h
        refine SatL.pu (RunV.move rfl) rfl ?_
        refine SatL.pu (RunV.neq rfl rfl) rfl ?_
        refine SatL.pu (RunV.assign rfl) rfl ?_
        refine SatL.nil (SatE.thenC ?_)
        refine SatC.ret ?_
        refine SatE.ret1 rfl rfl ?_
        rw [tickA]
        first | rw [tick_of (tick1_a (by omega) (by omega))] | rw [tick_of (tick1_b (by omega) (by omega))] | rw [tick_of (tick1_c (by omega))]
        first
        | (rw [if_pos (by assumption)]; exact ⟨rfl, hS⟩)
        | (rw [if_neg (by assumption)]; exact ⟨rfl, hS⟩)
      · (try simp only [cx, ne_eq, not_and, Int.not_le] at h3)
        try (exfalso; (first | omega | exact h3 trivial | contradiction); done)
        all_goals
        refine SatC.region ?_
        refine SatL.pu (RunV.move rfl) rfl ?_
        first | refine SatL.pu (RunV.nil_ptr rfl) rfl ?_ | refine SatL.pu (RunV.nil_func rfl) rfl ?_ | refine SatL.pu (RunV.nil_yield rfl) rfl ?_
        first | refine SatL.pu (RunV.fieldAddrL rfl rfl rfl) rfl ?_ | refine SatL.pu (RunV.fieldAddr rfl rfl rfl) rfl ?_
        refine SatL.op rfl (OpW.store hS rfl rfl (by repeat constructor) (by repeat constructor) (by repeat constructor) rfl rfl ?_)
        clear hS
        intro w4 hS
        refine SatL.nil (SatE.thenC ?_)
        refine SatC.seq ?_
        refine SatC.region ?_
        refine SatL.pu (RunV.move rfl) rfl ?_
        refine SatL.op rfl (OpW.enter rfl rfl rfl (rfl) (stat_any (c := { c with long := 0 }) (hS.ownOf (by repeat constructor)) hk) ?_)
        rintro r5 w5 ⟨rfl, h⟩
        replace hS := St.callN hS h
        refine SatL.pu (RunV.move rfl) rfl ?_
        refine SatL.pu (RunV.neq rfl rfl) rfl ?_
        refine SatL.pu (RunV.assign rfl) rfl ?_
        refine SatL.nil (SatE.thenC ?_)
        refine SatC.ret ?_
        refine SatE.ret1 rfl rfl ?_
        rw [tickA]
        first | rw [tick_of (tick1_a (by omega) (by omega))] | rw [tick_of (tick1_b (by omega) (by omega))] | rw [tick_of (tick1_c (by omega))]
        first
        | (rw [if_pos (by assumption)]; exact ⟨rfl, hS⟩)
        | (rw [if_neg (by assumption)]; exact ⟨rfl, hS⟩)
end
theorem new_any (p : Pl) (w : World) (hp : Pok p) : Ret Try.prog 47 #[.agg (plc p).toArray] w fun v w' => ∃ b, v = .tuple #[.pointer (some ⟨b, 0, none⟩), .int .i64 0] ∧ St w [] [(b, C 108 (hc (fv ⟨p, 2, 0, 0, 0, 0, false⟩) ⟨p, 2, 0, 0, 0, 0, false⟩))] w' := by
  have hS := St.init0 w
  refine Ret.enter Try.func47 Try.ntmps47 rfl rfl ?_
  simp only [argEnv, Nat.reduceAdd]
  refine SatC.seq ?_
  refine SatC.region ?_
  refine SatL.op rfl (OpW.box hS rfl rfl (by repeat constructor) ?_)
  clear hS
  intro b1 w1 _ hS
  refine SatL.pu (RunV.assign rfl) rfl ?_
  refine SatL.pu (RunV.assign rfl) rfl ?_
  refine SatL.nil (SatE.thenC ?_)
  refine SatC.seq ?_
  refine SatC.seq ?_
  refine SatC.region ?_
  refine SatL.pu (RunV.loadN hS rfl rfl (by repeat constructor) (by repeat constructor)) rfl ?_
  refine SatL.op rfl (OpW.enter rfl rfl rfl (rfl) (pright_any _ _) ?_)
  rintro r2 w2 ⟨rfl, h⟩
  replace hS := St.callN hS h
  refine SatL.pu (RunV.not rfl) rfl ?_
  refine SatL.nil (SatE.thenC ?_)
  refine SatC.cond rfl (fun h1 => ?_) (fun h1 => ?_)
  · (try simp only [cx, ne_eq, not_and, Int.not_le] at h1)
    try (exfalso; (first | omega | exact h1 trivial | contradiction | exact h1 hp); done)
    all_goals
    refine SatC.seq ?_
    refine SatC.region ?_
    refine SatL.pu (RunV.assign rfl) rfl ?_
    refine SatL.pu (RunV.assign rfl) rfl ?_
    refine SatL.nil (SatE.thenC ?_)
    refine SatC.ret (SatE.then_ret ?_)
    refine SatE.ret2 rfl rfl rfl ?_
    exact absurd hp h1
  · (try simp only [cx, ne_eq, not_and, Int.not_le] at h1)
    try (exfalso; (first | omega | exact h1 trivial | contradiction | exact h1 hp); done)
    all_goals
    refine SatC.skip (SatE.thenC ?_)
    refine SatC.seq ?_
    refine SatC.region ?_
    refine SatL.pu (RunV.loadN hS rfl rfl (by repeat constructor) (by repeat constructor)) rfl ?_
    refine SatL.pu (RunV.build rfl (by simp [go_sem]; try rfl)) rfl ?_
    refine SatL.op rfl (OpW.box hS rfl rfl (by repeat constructor) ?_)
    clear hS
    intro b10 w3 _ hS
    refine SatL.pu (RunV.assign rfl) rfl ?_
    refine SatL.nil (SatE.thenC ?_)
    refine SatC.seq ?_
    refine SatC.seq ?_
    refine SatC.region ?_
    first | refine SatL.pu (RunV.fieldAddrL rfl rfl rfl) rfl ?_ | refine SatL.pu (RunV.fieldAddr rfl rfl rfl) rfl ?_
    refine SatL.pu (RunV.load1 hS rfl rfl (by repeat constructor) rfl) rfl ?_
    refine SatL.pu (RunV.eql rfl rfl) rfl ?_
    refine SatL.nil (SatE.thenC ?_)
    refine SatC.cond rfl (fun h2 => ?_) (fun h2 => ?_)
    · (try simp only [cx, ne_eq, not_and, Int.not_le] at h2)
      try (exfalso; (first | omega | exact h2 trivial | contradiction | exact h2 hp); done)
      all_goals
      refine SatC.region ?_
      refine SatL.pu (RunV.move rfl) rfl ?_
      first | refine SatL.pu (RunV.nil_ptr rfl) rfl ?_ | refine SatL.pu (RunV.nil_func rfl) rfl ?_ | refine SatL.pu (RunV.nil_yield rfl) rfl ?_
      first | refine SatL.pu (RunV.fieldAddrL rfl rfl rfl) rfl ?_ | refine SatL.pu (RunV.fieldAddr rfl rfl rfl) rfl ?_
      refine SatL.op rfl (OpW.store hS rfl rfl (by repeat constructor) (by repeat constructor) (by repeat constructor) rfl rfl ?_)
      clear hS
      intro w4 hS
      refine SatL.nil (SatE.thenC ?_)
      refine SatC.seq ?_
      refine SatC.weak (e' := [(2, _), (3, _), (4, _)]) (by repeat constructor) ?_
      refine SatC.region ?_
      refine SatL.pu (RunV.move rfl) rfl ?_
      refine SatL.pu (RunV.assign rfl) rfl ?_
      refine SatL.pu (RunV.assign rfl) rfl ?_
      refine SatL.nil (SatE.thenC ?_)
      refine SatC.ret ?_
      refine SatE.ret2 rfl rfl rfl ?_
      refine ⟨b10, rfl, ?_⟩
      rw [fv, if_pos h2]
      exact hS.sub (by simp)
    · (try simp only [cx, ne_eq, not_and, Int.not_le] at h2)
      try (exfalso; (first | omega | exact h2 trivial | contradiction | exact h2 hp); done)
      all_goals
      refine SatC.skip (SatE.thenC ?_)
      refine SatC.seq ?_
      refine SatC.region ?_
      refine SatL.pu (RunV.move rfl) rfl ?_
      refine SatL.pu (RunV.assign rfl) rfl ?_
      refine SatL.pu (RunV.assign rfl) rfl ?_
      refine SatL.nil (SatE.thenC ?_)
      refine SatC.ret ?_
      refine SatE.ret2 rfl rfl rfl ?_
      refine ⟨b10, rfl, ?_⟩
      rw [fv, if_neg h2]
      exact hS.sub (by simp)
theorem new_no (p : Pl) (w : World) (hp : ¬ Pok p) : Ret Try.prog 47 #[.agg (plc p).toArray] w fun v w' => v = .tuple #[.pointer none, .int .i64 2] ∧ St w [] [] w' := by
  have hS := St.init0 w
  refine Ret.enter Try.func47 Try.ntmps47 rfl rfl ?_
  simp only [argEnv, Nat.reduceAdd]
  refine SatC.seq ?_
  refine SatC.region ?_
  refine SatL.op rfl (OpW.box hS rfl rfl (by repeat constructor) ?_)
  clear hS
  intro b1 w1 _ hS
  refine SatL.pu (RunV.assign rfl) rfl ?_
  refine SatL.pu (RunV.assign rfl) rfl ?_
  refine SatL.nil (SatE.thenC ?_)
  refine SatC.seq ?_
  refine SatC.seq ?_
  refine SatC.region ?_
  refine SatL.pu (RunV.loadN hS rfl rfl (by repeat constructor) (by repeat constructor)) rfl ?_
  refine SatL.op rfl (OpW.enter rfl rfl rfl (rfl) (pright_any _ _) ?_)
  rintro r2 w2 ⟨rfl, h⟩
  replace hS := St.callN hS h
  refine SatL.pu (RunV.not rfl) rfl ?_
  refine SatL.nil (SatE.thenC ?_)
  refine SatC.cond rfl (fun h1 => ?_) (fun h1 => ?_)
  · (try simp only [cx, ne_eq, not_and, Int.not_le] at h1)
    try (exfalso; (first | omega | exact h1 trivial | contradiction | exact hp h1); done)
    all_goals
    refine SatC.seq ?_
    refine SatC.region ?_
    refine SatL.pu (RunV.assign rfl) rfl ?_
    refine SatL.pu (RunV.assign rfl) rfl ?_
    refine SatL.nil (SatE.thenC ?_)
    refine SatC.ret (SatE.then_ret ?_)
    refine SatE.ret2 rfl rfl rfl ?_
    exact ⟨rfl, hS.sub (List.nil_sublist _)⟩
  · (try simp only [cx, ne_eq, not_and, Int.not_le] at h1)
    try (exfalso; (first | omega | exact h1 trivial | contradiction | exact hp h1); done)
    all_goals
    refine SatC.skip (SatE.thenC ?_)
    refine SatC.seq ?_
    refine SatC.region ?_
    refine SatL.pu (RunV.loadN hS rfl rfl (by repeat constructor) (by repeat constructor)) rfl ?_
    refine SatL.pu (RunV.build rfl (by simp [go_sem]; try rfl)) rfl ?_
    refine SatL.op rfl (OpW.box hS rfl rfl (by repeat constructor) ?_)
    clear hS
    intro b10 w3 _ hS
    refine SatL.pu (RunV.assign rfl) rfl ?_
    refine SatL.nil (SatE.thenC ?_)
    refine SatC.seq ?_
    refine SatC.seq ?_
    refine SatC.region ?_
    first | refine SatL.pu (RunV.fieldAddrL rfl rfl rfl) rfl ?_ | refine SatL.pu (RunV.fieldAddr rfl rfl rfl) rfl ?_
    refine SatL.pu (RunV.load1 hS rfl rfl (by repeat constructor) rfl) rfl ?_
    refine SatL.pu (RunV.eql rfl rfl) rfl ?_
    refine SatL.nil (SatE.thenC ?_)
    refine SatC.cond rfl (fun h2 => ?_) (fun h2 => ?_)
    · (try simp only [cx, ne_eq, not_and, Int.not_le] at h2)
      try (exfalso; (first | omega | exact h2 trivial | contradiction | exact hp h2); done)
      all_goals
      refine SatC.region ?_
      refine SatL.pu (RunV.move rfl) rfl ?_
      first | refine SatL.pu (RunV.nil_ptr rfl) rfl ?_ | refine SatL.pu (RunV.nil_func rfl) rfl ?_ | refine SatL.pu (RunV.nil_yield rfl) rfl ?_
      first | refine SatL.pu (RunV.fieldAddrL rfl rfl rfl) rfl ?_ | refine SatL.pu (RunV.fieldAddr rfl rfl rfl) rfl ?_
      refine SatL.op rfl (OpW.store hS rfl rfl (by repeat constructor) (by repeat constructor) (by repeat constructor) rfl rfl ?_)
      clear hS
      intro w4 hS
      refine SatL.nil (SatE.thenC ?_)
      refine SatC.seq ?_
      refine SatC.weak (e' := [(2, _), (3, _), (4, _)]) (by repeat constructor) ?_
      refine SatC.region ?_
      refine SatL.pu (RunV.move rfl) rfl ?_
      refine SatL.pu (RunV.assign rfl) rfl ?_
      refine SatL.pu (RunV.assign rfl) rfl ?_
      refine SatL.nil (SatE.thenC ?_)
      refine SatC.ret ?_
      refine SatE.ret2 rfl rfl rfl ?_
      exact ⟨rfl, hS.sub (List.nil_sublist _)⟩
    · (try simp only [cx, ne_eq, not_and, Int.not_le] at h2)
      try (exfalso; (first | omega | exact h2 trivial | contradiction | exact hp h2); done)
      all_goals
      refine SatC.skip (SatE.thenC ?_)
      refine SatC.seq ?_
      refine SatC.region ?_
      refine SatL.pu (RunV.move rfl) rfl ?_
      refine SatL.pu (RunV.assign rfl) rfl ?_
      refine SatL.pu (RunV.assign rfl) rfl ?_
      refine SatL.nil (SatE.thenC ?_)
      refine SatC.ret ?_
      refine SatE.ret2 rfl rfl rfl ?_
      exact ⟨rfl, hS.sub (List.nil_sublist _)⟩
end Go.Proofs.Ytbnkcagcfbpiiaa
