/- The document's checks, inside the rows of an agent. The document's agent: its words; has, find, Error, Told, Maintain. The document's agent: Checks, Health, RemoveCheck, Remove. The document's agent: RemoveCheck, Remove, AddCheck, Add. -/
import Derived.Test.YtbnkcagcfbpiiaaMc
set_option linter.unusedSimpArgs false
set_option linter.unusedVariables false
set_option maxRecDepth 100000
set_option maxHeartbeats 4000000
namespace Go.Proofs.Ytbnkcagcfbpiiaa
open Go Go.Proofs Go.RowKit
theorem midget {pre mid post : List Value} {q o : Nat} {v : Value} (j : Nat) (ho : o = q + j) (hq : pre.length = q) (hv : mid[j]? = some v) : (pre ++ (mid ++ post))[o]? = some v := by
  subst ho hq
  rw [List.getElem?_append_right (by omega), show pre.length + j - pre.length = j from by omega, List.getElem?_append_left (List.getElem?_eq_some_iff.1 hv).1]
  exact hv
section
variable {P : Program} {N d : Nat} {env : Env} {w0 w : World} {X : List Nat} {L L' : List (Nat × Obj)} {K : Env → World → Prop} {ty : TypeId} {pos : String} {af : Array Edge} {g : Option (Nat × Bool)}
theorem OpW.storeMid {t T : TypeId} {x y : Operand} {b o q : Nat} {pre mid mid' post : List Value} {v : Value} (hS : St w0 X L w) (hx : evO env x = some (.pointer (some ⟨b, o, none⟩))) (hy : evO env y = some v) (hq : pre.length = q)
    (hm : Repl L b (C T (pre ++ (mid ++ post))) (C T (pre ++ (mid' ++ post))) L') (hset : ∃ j, o = q + j ∧ IsSet mid j [v] mid') (hsz : (P.info? t).map (·.size) = some 1) (h1 : v.oneCell' = true)
    (h : ∀ w', St w0 X L' w' → K env w') : OpW P N ⟨none, .store t x y, ty, pos, af, g⟩ env w K := by
  obtain ⟨j, rfl, hs⟩ := hset
  obtain ⟨h2, h3⟩ := hs.spec
  simp only [List.length_singleton] at h2 h3
  refine OpW.storeG (vs := [v]) hS hx hy (IsCells.one h1) (by simpa using hsz) (by simp [h1]) ?_ ?_ hm h
  · simp only [List.length_append, List.length_singleton]; omega
  · subst hq
    rw [h3, List.length_singleton, List.take_append, List.drop_append, List.take_of_length_le (by omega), List.drop_of_length_le (by omega : pre.length ≤ pre.length + j + 1), show pre.length + j - pre.length = j from by omega, show pre.length + j + 1 - pre.length = j + 1 from by omega, List.take_append_of_le_length (by omega), List.drop_append_of_le_length (by omega)]
    simp [List.append_assoc]
end
section
variable {c : Ck} {b q : Nat} {pre post : List Value} {w : World}
theorem stat_ref (hq : pre.length = q) (hown : Own w [(b, C 87 (pre ++ (rc c ++ post)))]) : Ret Try.prog 53 #[.pointer (some ⟨b, q, none⟩)] w fun v w' => v = .int .i64 (stat c) ∧ St w [] [] w' := by
  have hS := St.init hown
  simp only [List.map_cons, List.map_nil] at hS
  refine Ret.enter Try.func53 Try.ntmps53 rfl rfl ?_
  simp only [argEnv, Nat.reduceAdd]
  refine SatC.seq ?_
  refine SatC.region ?_
  refine SatL.pu (RunV.assign rfl) rfl ?_
  refine SatL.nil (SatE.thenC ?_)
  refine SatC.seq ?_
  refine SatC.seq ?_
  refine SatC.region ?_
  refine SatL.pu (RunV.move rfl) rfl ?_
  first | refine SatL.pu (RunV.nil_ptr rfl) rfl ?_ | refine SatL.pu (RunV.nil_func rfl) rfl ?_ | refine SatL.pu (RunV.nil_yield rfl) rfl ?_
  first | refine SatL.pu (RunV.fieldAddrL rfl rfl rfl) rfl ?_ | refine SatL.pu (RunV.fieldAddr rfl rfl rfl) rfl ?_
  refine SatL.pu (RunV.load1 hS rfl rfl (by repeat constructor) (by first | exact midget 0 (by omega) hq rfl | exact midget 6 (by omega) hq rfl | exact midget 7 (by omega) hq rfl | exact midget 8 (by omega) hq rfl | exact midget 11 (by omega) hq rfl | exact midget 1 (by omega) hq rfl | exact midget 2 (by omega) hq rfl | exact midget 3 (by omega) hq rfl | exact midget 5 (by omega) hq rfl | exact midget 9 (by omega) hq rfl | exact midget 10 (by omega) hq rfl)) rfl ?_
  refine SatL.nil (SatE.thenC ?_)
  refine SatC.cond rfl (fun h1 => ?_) (fun h1 => ?_)
  · (try simp only [cx, ne_eq, not_and, Int.not_le] at h1)
    try (exfalso; (first | omega | exact h1 trivial | contradiction); done)
    all_goals
    refine SatC.seq ?_
    refine SatC.region ?_
    refine SatL.pu (RunV.assign rfl) rfl ?_
    refine SatL.nil (SatE.thenC ?_)
    refine SatC.ret (SatE.then_ret ?_)
    refine SatE.ret1 rfl rfl ?_
    exact ⟨by simp_all [stat], St.ro hown hS (by repeat constructor)⟩
  · (try simp only [cx, ne_eq, not_and, Int.not_le] at h1)
    try (exfalso; (first | omega | exact h1 trivial | contradiction); done)
    all_goals
    refine SatC.skip (SatE.thenC ?_)
    refine SatC.seq ?_
    refine SatC.region ?_
    refine SatL.pu (RunV.move rfl) rfl ?_
    first | refine SatL.pu (RunV.nil_ptr rfl) rfl ?_ | refine SatL.pu (RunV.nil_func rfl) rfl ?_ | refine SatL.pu (RunV.nil_yield rfl) rfl ?_
    first | refine SatL.pu (RunV.fieldAddrL rfl rfl rfl) rfl ?_ | refine SatL.pu (RunV.fieldAddr rfl rfl rfl) rfl ?_
    refine SatL.pu (RunV.load1 hS rfl rfl (by repeat constructor) (by first | exact midget 0 (by omega) hq rfl | exact midget 6 (by omega) hq rfl | exact midget 7 (by omega) hq rfl | exact midget 8 (by omega) hq rfl | exact midget 11 (by omega) hq rfl | exact midget 1 (by omega) hq rfl | exact midget 2 (by omega) hq rfl | exact midget 3 (by omega) hq rfl | exact midget 5 (by omega) hq rfl | exact midget 9 (by omega) hq rfl | exact midget 10 (by omega) hq rfl)) rfl ?_
    refine SatL.pu (RunV.assign rfl) rfl ?_
    refine SatL.nil (SatE.thenC ?_)
    refine SatC.ret ?_
    refine SatE.ret1 rfl rfl ?_
    exact ⟨by simp_all [stat], St.ro hown hS (by repeat constructor)⟩
theorem over_ref (hq : pre.length = q) (hown : Own w [(b, C 87 (pre ++ (rc c ++ post)))]) : Ret Try.prog 52 #[.pointer (some ⟨b, q, none⟩)] w fun v w' => v = .bool (over c) ∧ St w [] [] w' := by
  have hS := St.init hown
  simp only [List.map_cons, List.map_nil] at hS
  refine Ret.enter Try.func52 Try.ntmps52 rfl rfl ?_
  simp only [argEnv, Nat.reduceAdd]
  refine SatC.seq ?_
  refine SatC.region ?_
  refine SatL.pu (RunV.assign rfl) rfl ?_
  refine SatL.nil (SatE.thenC ?_)
  refine SatC.seq ?_
  refine SatC.drawnT 19 hS (hS) (by kernel_rfl) ?_
  clear hS
  intro w1 hh hS hD
  refine SatD.tk 0 rfl hD (fun _ hw => RunV.move rfl) ?_
  first | refine SatD.tk 1 rfl hD (fun _ hw => RunV.nil_ptr rfl) ?_ | refine SatD.tk 1 rfl hD (fun _ hw => RunV.nil_func rfl) ?_ | refine SatD.tk 1 rfl hD (fun _ hw => RunV.nil_yield rfl) ?_
  first | refine SatD.tk 2 rfl hD (fun _ hw => RunV.fieldAddrL rfl rfl rfl) ?_ | refine SatD.tk 2 rfl hD (fun _ hw => RunV.fieldAddr rfl rfl rfl) ?_
  first | refine SatD.tk 3 rfl hD (fun _ hw => RunV.fieldAddrL rfl rfl rfl) ?_ | refine SatD.tk 3 rfl hD (fun _ hw => RunV.fieldAddr rfl rfl rfl) ?_
  refine SatD.tk 4 rfl hD (fun _ hw => RunV.load1 hw rfl rfl (by repeat constructor) (by first | exact midget 0 (by omega) hq rfl | exact midget 6 (by omega) hq rfl | exact midget 7 (by omega) hq rfl | exact midget 8 (by omega) hq rfl | exact midget 11 (by omega) hq rfl | exact midget 1 (by omega) hq rfl | exact midget 2 (by omega) hq rfl | exact midget 3 (by omega) hq rfl | exact midget 5 (by omega) hq rfl | exact midget 9 (by omega) hq rfl | exact midget 10 (by omega) hq rfl)) ?_
  refine SatD.tk 5 rfl hD (fun _ hw => RunV.gtr rfl rfl) ?_
  refine SatD.tk 6 rfl hD (fun _ hw => RunV.move rfl) ?_
  refine SatD.ways 9 rfl (fun h1 => ?_) (fun h1 => ?_)
  · (try simp only [cx, ne_eq, not_and, Int.not_le] at h1)
    try (exfalso; (first | omega | exact h1 trivial | contradiction); done)
    all_goals
    refine SatD.tk 7 rfl hD (fun _ hw => RunV.move rfl) ?_
    first | refine SatD.tk 8 rfl hD (fun _ hw => RunV.nil_ptr rfl) ?_ | refine SatD.tk 8 rfl hD (fun _ hw => RunV.nil_func rfl) ?_ | refine SatD.tk 8 rfl hD (fun _ hw => RunV.nil_yield rfl) ?_
    first | refine SatD.tk 9 rfl hD (fun _ hw => RunV.fieldAddrL rfl rfl rfl) ?_ | refine SatD.tk 9 rfl hD (fun _ hw => RunV.fieldAddr rfl rfl rfl) ?_
    refine SatD.tk 10 rfl hD (fun _ hw => RunV.load1 hw rfl rfl (by repeat constructor) (by first | exact midget 0 (by omega) hq rfl | exact midget 6 (by omega) hq rfl | exact midget 7 (by omega) hq rfl | exact midget 8 (by omega) hq rfl | exact midget 11 (by omega) hq rfl | exact midget 1 (by omega) hq rfl | exact midget 2 (by omega) hq rfl | exact midget 3 (by omega) hq rfl | exact midget 5 (by omega) hq rfl | exact midget 9 (by omega) hq rfl | exact midget 10 (by omega) hq rfl)) ?_
    refine SatD.tk 11 rfl hD (fun _ hw => RunV.move rfl) ?_
    first | refine SatD.tk 12 rfl hD (fun _ hw => RunV.nil_ptr rfl) ?_ | refine SatD.tk 12 rfl hD (fun _ hw => RunV.nil_func rfl) ?_ | refine SatD.tk 12 rfl hD (fun _ hw => RunV.nil_yield rfl) ?_
    first | refine SatD.tk 13 rfl hD (fun _ hw => RunV.fieldAddrL rfl rfl rfl) ?_ | refine SatD.tk 13 rfl hD (fun _ hw => RunV.fieldAddr rfl rfl rfl) ?_
    first | refine SatD.tk 14 rfl hD (fun _ hw => RunV.fieldAddrL rfl rfl rfl) ?_ | refine SatD.tk 14 rfl hD (fun _ hw => RunV.fieldAddr rfl rfl rfl) ?_
    refine SatD.tk 15 rfl hD (fun _ hw => RunV.load1 hw rfl rfl (by repeat constructor) (by first | exact midget 0 (by omega) hq rfl | exact midget 6 (by omega) hq rfl | exact midget 7 (by omega) hq rfl | exact midget 8 (by omega) hq rfl | exact midget 11 (by omega) hq rfl | exact midget 1 (by omega) hq rfl | exact midget 2 (by omega) hq rfl | exact midget 3 (by omega) hq rfl | exact midget 5 (by omega) hq rfl | exact midget 9 (by omega) hq rfl | exact midget 10 (by omega) hq rfl)) ?_
    refine SatD.tk 16 rfl hD (fun _ hw => RunV.geq rfl rfl) ?_
    refine SatD.tk 17 rfl hD (fun _ hw => RunV.pick_t rfl rfl) ?_
    refine SatD.tk 18 rfl hD (fun _ hw => RunV.assign rfl) ?_
    refine SatD.done 0 (by kernel_rfl) (SatE.thenC ?_)
    clear hD
    refine SatC.ret ?_
    refine SatE.ret1 rfl rfl ?_
    refine ⟨congrArg Value.bool ?_, St.ro hown hS (by repeat constructor)⟩
    rw [Bool.eq_iff_iff]
    simp only [decide_eq_true_eq, Bool.false_eq_true, false_iff, over]
    omega
  · (try simp only [cx, ne_eq, not_and, Int.not_le] at h1)
    try (exfalso; (first | omega | exact h1 trivial | contradiction); done)
    all_goals
    refine SatD.sk 7 rfl [] hD ?_
    refine SatD.sk 8 rfl [] hD ?_
    refine SatD.sk 9 rfl [] hD ?_
    refine SatD.sk 10 rfl [] hD ?_
    refine SatD.sk 11 rfl [] hD ?_
    refine SatD.sk 12 rfl [] hD ?_
    refine SatD.sk 13 rfl [] hD ?_
    refine SatD.sk 14 rfl [] hD ?_
    refine SatD.sk 15 rfl [] hD ?_
    refine SatD.sk 16 rfl [] hD ?_
    refine SatD.tk 17 rfl hD (fun _ hw => RunV.pick_f rfl rfl) ?_
    refine SatD.tk 18 rfl hD (fun _ hw => RunV.assign rfl) ?_
    refine SatD.done 0 (by kernel_rfl) (SatE.thenC ?_)
    clear hD
    refine SatC.ret ?_
    refine SatE.ret1 rfl rfl ?_
    refine ⟨congrArg Value.bool ?_, St.ro hown hS (by repeat constructor)⟩
    rw [Bool.eq_iff_iff]
    simp only [decide_eq_true_eq, Bool.false_eq_true, false_iff, over]
    omega
theorem told_ref (s : Int) (hq : pre.length = q) (hown : Own w [(b, C 87 (pre ++ (rc c ++ post)))]) (hb : Bd 1000000 c) : Ret Try.prog 71 #[.pointer (some ⟨b, q, none⟩), .int .i64 s] w fun v w' => v = .int .i64 (toldA c s) ∧ St w [b] [(b, C 87 (pre ++ (rc (toldC c s) ++ post)))] w' := by
  have hS := St.init hown
  simp only [List.map_cons, List.map_nil] at hS
  unfold Bd at hb
  refine Ret.enter Try.func71 Try.ntmps71 rfl rfl ?_
  simp only [argEnv, Nat.reduceAdd]
  refine SatC.seq ?_
  refine SatC.region ?_
  refine SatL.pu (RunV.assign rfl) rfl ?_
  refine SatL.nil (SatE.thenC ?_)
  refine SatC.seq ?_
  refine SatC.seq ?_
  refine SatC.region ?_
  refine SatL.pu (RunV.move rfl) rfl ?_
  first | refine SatL.pu (RunV.nil_ptr rfl) rfl ?_ | refine SatL.pu (RunV.nil_func rfl) rfl ?_ | refine SatL.pu (RunV.nil_yield rfl) rfl ?_
  first | refine SatL.pu (RunV.fieldAddrL rfl rfl rfl) rfl ?_ | refine SatL.pu (RunV.fieldAddr rfl rfl rfl) rfl ?_
  first | refine SatL.pu (RunV.fieldAddrL rfl rfl rfl) rfl ?_ | refine SatL.pu (RunV.fieldAddr rfl rfl rfl) rfl ?_
  refine SatL.pu (RunV.load1 hS rfl rfl (by repeat constructor) (by first | exact midget 0 (by omega) hq rfl | exact midget 6 (by omega) hq rfl | exact midget 7 (by omega) hq rfl | exact midget 8 (by omega) hq rfl | exact midget 11 (by omega) hq rfl | exact midget 1 (by omega) hq rfl | exact midget 2 (by omega) hq rfl | exact midget 3 (by omega) hq rfl | exact midget 5 (by omega) hq rfl | exact midget 9 (by omega) hq rfl | exact midget 10 (by omega) hq rfl)) rfl ?_
  refine SatL.pu (RunV.eql rfl rfl) rfl ?_
  refine SatL.pu (RunV.move rfl) rfl ?_
  refine SatL.guard rfl rfl rfl (fun h1 => ?_) (fun h1 => ?_)
  · (try simp only [cx, ne_eq, not_and, Int.not_le] at h1)
    try (exfalso; (first | omega | exact h1 trivial | contradiction); done)
    all_goals
    refine SatL.pu (RunV.move rfl) rfl ?_
    refine SatL.guard_y rfl rfl ?_
    refine SatL.pu (RunV.lss rfl rfl) rfl ?_
    refine SatL.pu (RunV.pick_f rfl rfl) rfl ?_
    refine SatL.pu (RunV.move rfl) rfl ?_
    refine SatL.guard rfl rfl rfl (fun h2 => ?_) (fun h2 => ?_)
    · (try simp only [cx, ne_eq, not_and, Int.not_le] at h2)
      try (exfalso; (first | omega | exact h2 trivial | contradiction); done)
      all_goals
      refine SatL.pu (RunV.move rfl) rfl ?_
      refine SatL.guard_y rfl rfl ?_
      refine SatL.pu (RunV.gtr rfl rfl) rfl ?_
      refine SatL.pu (RunV.pick_f rfl rfl) rfl ?_
      refine SatL.nil (SatE.thenC ?_)
      refine SatC.weak (e' := [(0, _), (1, _), (4, _), (18, _)]) (by repeat constructor) ?_
      refine SatC.cond rfl (fun h3 => ?_) (fun h3 => ?_)
      · (try simp only [cx, ne_eq, not_and, Int.not_le] at h3)
        try (exfalso; (first | omega | exact h3 trivial | contradiction); done)
        all_goals
        refine SatC.seq ?_
        refine SatC.region ?_
        refine SatL.pu (RunV.assign rfl) rfl ?_
        refine SatL.nil (SatE.thenC ?_)
        refine SatC.ret (SatE.then_ret ?_)
        refine SatE.ret1 rfl rfl ?_
        first
        | (have hb1 : bad c s := by unfold bad; omega
           rw [toldA, toldC, if_pos hb1, if_pos hb1]
           exact ⟨rfl, hS⟩)
        | (have hb1 : ¬ bad c s := by unfold bad; omega
           rw [toldA, toldC, if_neg hb1, if_neg hb1]
           first
           | (rw [if_pos (by omega)]; exact ⟨rfl, hS⟩)
           | (rw [if_neg (by omega), cntC]
              first
              | (rw [if_pos (by omega)]
                 first
                 | (rw [if_pos (by omega)]; exact ⟨rfl, hS⟩)
                 | (rw [if_neg (by omega)]; exact ⟨rfl, hS⟩))
              | (rw [if_neg (by omega)]
                 first
                 | (rw [if_pos (by omega)]; exact ⟨rfl, hS⟩)
                 | (rw [if_neg (by omega)]; exact ⟨rfl, hS⟩))))
      · (try simp only [cx, ne_eq, not_and, Int.not_le] at h3)
        try (exfalso; (first | omega | exact h3 trivial | contradiction); done)
        all_goals
        refine SatC.skip (SatE.thenC ?_)
        refine SatC.seq ?_
        refine SatC.seq ?_
        refine SatC.region ?_
        refine SatL.pu (RunV.move rfl) rfl ?_
        first | refine SatL.pu (RunV.nil_ptr rfl) rfl ?_ | refine SatL.pu (RunV.nil_func rfl) rfl ?_ | refine SatL.pu (RunV.nil_yield rfl) rfl ?_
        first | refine SatL.pu (RunV.fieldAddrL rfl rfl rfl) rfl ?_ | refine SatL.pu (RunV.fieldAddr rfl rfl rfl) rfl ?_
        first | refine SatL.pu (RunV.fieldAddrL rfl rfl rfl) rfl ?_ | refine SatL.pu (RunV.fieldAddr rfl rfl rfl) rfl ?_
        refine SatL.pu (RunV.load1 hS rfl rfl (by repeat constructor) (by first | exact midget 0 (by omega) hq rfl | exact midget 6 (by omega) hq rfl | exact midget 7 (by omega) hq rfl | exact midget 8 (by omega) hq rfl | exact midget 11 (by omega) hq rfl | exact midget 1 (by omega) hq rfl | exact midget 2 (by omega) hq rfl | exact midget 3 (by omega) hq rfl | exact midget 5 (by omega) hq rfl | exact midget 9 (by omega) hq rfl | exact midget 10 (by omega) hq rfl)) rfl ?_
        refine SatL.pu (RunV.eql rfl rfl) rfl ?_
        refine SatL.nil (SatE.thenC ?_)
        refine SatC.cond rfl (fun h4 => ?_) (fun h4 => ?_)
        · (try simp only [cx, ne_eq, not_and, Int.not_le] at h4)
          try (exfalso; (first | omega | exact h4 trivial | contradiction); done)
          all_goals
          refine SatC.seq ?_
          refine SatC.region ?_
          refine SatL.pu (RunV.move rfl) rfl ?_
          refine SatL.pu (RunV.move rfl) rfl ?_
          first | refine SatL.pu (RunV.nil_ptr rfl) rfl ?_ | refine SatL.pu (RunV.nil_func rfl) rfl ?_ | refine SatL.pu (RunV.nil_yield rfl) rfl ?_
          first | refine SatL.pu (RunV.fieldAddrL rfl rfl rfl) rfl ?_ | refine SatL.pu (RunV.fieldAddr rfl rfl rfl) rfl ?_
          refine SatL.op rfl (OpW.storeMid hS rfl rfl hq (by repeat constructor) (by first | exact ⟨6, by omega, by repeat constructor⟩ | exact ⟨7, by omega, by repeat constructor⟩ | exact ⟨8, by omega, by repeat constructor⟩ | exact ⟨9, by omega, by repeat constructor⟩ | exact ⟨10, by omega, by repeat constructor⟩) rfl rfl ?_)
          clear hS
          intro w1 hS
          refine SatL.nil (SatE.thenC ?_)
          refine SatC.seq ?_
          refine SatC.weak (e' := [(0, _), (4, _)]) (by repeat constructor) ?_
          refine SatC.region ?_
          refine SatL.pu (RunV.move rfl) rfl ?_
          first | refine SatL.pu (RunV.nil_ptr rfl) rfl ?_ | refine SatL.pu (RunV.nil_func rfl) rfl ?_ | refine SatL.pu (RunV.nil_yield rfl) rfl ?_
          first | refine SatL.pu (RunV.fieldAddrL rfl rfl rfl) rfl ?_ | refine SatL.pu (RunV.fieldAddr rfl rfl rfl) rfl ?_
          refine SatL.op rfl (OpW.storeMid hS rfl rfl hq (by repeat constructor) (by first | exact ⟨6, by omega, by repeat constructor⟩ | exact ⟨7, by omega, by repeat constructor⟩ | exact ⟨8, by omega, by repeat constructor⟩ | exact ⟨9, by omega, by repeat constructor⟩ | exact ⟨10, by omega, by repeat constructor⟩) rfl rfl ?_)
          clear hS
          intro w2 hS
          refine SatL.nil (SatE.thenC ?_)
          refine SatC.seq ?_
          refine SatC.region ?_
          refine SatL.pu (RunV.assign rfl) rfl ?_
          refine SatL.nil (SatE.thenC ?_)
          refine SatC.ret (SatE.then_ret ?_)
          refine SatE.ret1 rfl rfl ?_
          first
          | (have hb1 : bad c s := by unfold bad; omega
             rw [toldA, toldC, if_pos hb1, if_pos hb1]
             exact ⟨rfl, hS⟩)
          | (have hb1 : ¬ bad c s := by unfold bad; omega
             rw [toldA, toldC, if_neg hb1, if_neg hb1]
             first
             | (rw [if_pos (by omega)]; exact ⟨rfl, hS⟩)
             | (rw [if_neg (by omega), cntC]
                first
                | (rw [if_pos (by omega)]
                   first
                   | (rw [if_pos (by omega)]; exact ⟨rfl, hS⟩)
                   | (rw [if_neg (by omega)]; exact ⟨rfl, hS⟩))
                | (rw [if_neg (by omega)]
                   first
                   | (rw [if_pos (by omega)]; exact ⟨rfl, hS⟩)
                   | (rw [if_neg (by omega)]; exact ⟨rfl, hS⟩))))
        · (try simp only [cx, ne_eq, not_and, Int.not_le] at h4)
          try (exfalso; (first | omega | exact h4 trivial | contradiction); done)
          all_goals
          refine SatC.skip (SatE.thenC ?_)
          refine SatC.seq ?_
          refine SatC.seq ?_
          refine SatC.region ?_
          refine SatL.pu (RunV.move rfl) rfl ?_
          refine SatL.pu (RunV.eql rfl rfl) rfl ?_
          refine SatL.nil (SatE.thenC ?_)
          refine SatC.cond rfl (fun h5 => ?_) (fun h5 => ?_)
          · (try simp only [cx, ne_eq, not_and, Int.not_le] at h5)
            try (exfalso; (first | omega | exact h5 trivial | contradiction); done)
            all_goals
            refine SatC.seq ?_
            refine SatC.region ?_
            refine SatL.pu (RunV.move rfl) rfl ?_
            refine SatL.pu (RunV.move rfl) rfl ?_
            first | refine SatL.pu (RunV.nil_ptr rfl) rfl ?_ | refine SatL.pu (RunV.nil_func rfl) rfl ?_ | refine SatL.pu (RunV.nil_yield rfl) rfl ?_
            first | refine SatL.pu (RunV.fieldAddrL rfl rfl rfl) rfl ?_ | refine SatL.pu (RunV.fieldAddr rfl rfl rfl) rfl ?_
            refine SatL.pu (RunV.load1 hS rfl rfl (by repeat constructor) (by first | exact midget 0 (by omega) hq rfl | exact midget 6 (by omega) hq rfl | exact midget 7 (by omega) hq rfl | exact midget 8 (by omega) hq rfl | exact midget 11 (by omega) hq rfl | exact midget 1 (by omega) hq rfl | exact midget 2 (by omega) hq rfl | exact midget 3 (by omega) hq rfl | exact midget 5 (by omega) hq rfl | exact midget 9 (by omega) hq rfl | exact midget 10 (by omega) hq rfl)) rfl ?_
            refine SatL.pu (RunV.add rfl rfl (by first | exact wrapI64 (by omega) | rfl)) rfl ?_
            first | refine SatL.pu (RunV.nil_ptr rfl) rfl ?_ | refine SatL.pu (RunV.nil_func rfl) rfl ?_ | refine SatL.pu (RunV.nil_yield rfl) rfl ?_
            first | refine SatL.pu (RunV.fieldAddrL rfl rfl rfl) rfl ?_ | refine SatL.pu (RunV.fieldAddr rfl rfl rfl) rfl ?_
            refine SatL.op rfl (OpW.storeMid hS rfl rfl hq (by repeat constructor) (by first | exact ⟨6, by omega, by repeat constructor⟩ | exact ⟨7, by omega, by repeat constructor⟩ | exact ⟨8, by omega, by repeat constructor⟩ | exact ⟨9, by omega, by repeat constructor⟩ | exact ⟨10, by omega, by repeat constructor⟩) rfl rfl ?_)
            clear hS
            intro w1 hS
            refine SatL.nil (SatE.thenC ?_)
            refine SatC.seq ?_
            refine SatC.weak (e' := [(0, _), (4, _)]) (by repeat constructor) ?_
            refine SatC.region ?_
            refine SatL.pu (RunV.move rfl) rfl ?_
            first | refine SatL.pu (RunV.nil_ptr rfl) rfl ?_ | refine SatL.pu (RunV.nil_func rfl) rfl ?_ | refine SatL.pu (RunV.nil_yield rfl) rfl ?_
            first | refine SatL.pu (RunV.fieldAddrL rfl rfl rfl) rfl ?_ | refine SatL.pu (RunV.fieldAddr rfl rfl rfl) rfl ?_
            refine SatL.op rfl (OpW.storeMid hS rfl rfl hq (by repeat constructor) (by first | exact ⟨6, by omega, by repeat constructor⟩ | exact ⟨7, by omega, by repeat constructor⟩ | exact ⟨8, by omega, by repeat constructor⟩ | exact ⟨9, by omega, by repeat constructor⟩ | exact ⟨10, by omega, by repeat constructor⟩) rfl rfl ?_)
            clear hS
            intro w2 hS
            refine SatL.nil (SatE.thenC ?_)
            refine SatC.seq ?_
            refine SatC.seq ?_
            refine SatC.drawnT 10 hS (hS) (by kernel_rfl) ?_
            clear hS
            intro w3 hh hS hD
            refine SatD.tk 0 rfl hD (fun _ hw => RunV.move rfl) ?_
            first | refine SatD.tk 1 rfl hD (fun _ hw => RunV.nil_ptr rfl) ?_ | refine SatD.tk 1 rfl hD (fun _ hw => RunV.nil_func rfl) ?_ | refine SatD.tk 1 rfl hD (fun _ hw => RunV.nil_yield rfl) ?_
            first | refine SatD.tk 2 rfl hD (fun _ hw => RunV.fieldAddrL rfl rfl rfl) ?_ | refine SatD.tk 2 rfl hD (fun _ hw => RunV.fieldAddr rfl rfl rfl) ?_
            refine SatD.tk 3 rfl hD (fun _ hw => RunV.load1 hw rfl rfl (by repeat constructor) (by first | exact midget 0 (by omega) hq rfl | exact midget 6 (by omega) hq rfl | exact midget 7 (by omega) hq rfl | exact midget 8 (by omega) hq rfl | exact midget 11 (by omega) hq rfl | exact midget 1 (by omega) hq rfl | exact midget 2 (by omega) hq rfl | exact midget 3 (by omega) hq rfl | exact midget 5 (by omega) hq rfl | exact midget 9 (by omega) hq rfl | exact midget 10 (by omega) hq rfl)) ?_
            refine SatD.tk 4 rfl hD (fun _ hw => RunV.move rfl) ?_
            first | refine SatD.tk 5 rfl hD (fun _ hw => RunV.nil_ptr rfl) ?_ | refine SatD.tk 5 rfl hD (fun _ hw => RunV.nil_func rfl) ?_ | refine SatD.tk 5 rfl hD (fun _ hw => RunV.nil_yield rfl) ?_
            first | refine SatD.tk 6 rfl hD (fun _ hw => RunV.fieldAddrL rfl rfl rfl) ?_ | refine SatD.tk 6 rfl hD (fun _ hw => RunV.fieldAddr rfl rfl rfl) ?_
            first | refine SatD.tk 7 rfl hD (fun _ hw => RunV.fieldAddrL rfl rfl rfl) ?_ | refine SatD.tk 7 rfl hD (fun _ hw => RunV.fieldAddr rfl rfl rfl) ?_
            refine SatD.tk 8 rfl hD (fun _ hw => RunV.load1 hw rfl rfl (by repeat constructor) (by first | exact midget 0 (by omega) hq rfl | exact midget 6 (by omega) hq rfl | exact midget 7 (by omega) hq rfl | exact midget 8 (by omega) hq rfl | exact midget 11 (by omega) hq rfl | exact midget 1 (by omega) hq rfl | exact midget 2 (by omega) hq rfl | exact midget 3 (by omega) hq rfl | exact midget 5 (by omega) hq rfl | exact midget 9 (by omega) hq rfl | exact midget 10 (by omega) hq rfl)) ?_
            refine SatD.tk 9 rfl hD (fun _ hw => RunV.geq rfl rfl) ?_
            refine SatD.done 0 (by kernel_rfl) (SatE.thenC ?_)
            clear hD
            refine SatC.weak (e' := [(0, _), (4, _), (54, _)]) (by repeat constructor) ?_
            refine SatC.cond rfl (fun h6 => ?_) (fun h6 => ?_)
            · (try simp only [cx, ne_eq, not_and, Int.not_le] at h6)
              try (exfalso; (first | omega | exact h6 trivial | contradiction); done)
              all_goals
              refine SatC.region ?_
              refine SatL.pu (RunV.move rfl) rfl ?_
              first | refine SatL.pu (RunV.nil_ptr rfl) rfl ?_ | refine SatL.pu (RunV.nil_func rfl) rfl ?_ | refine SatL.pu (RunV.nil_yield rfl) rfl ?_
              first | refine SatL.pu (RunV.fieldAddrL rfl rfl rfl) rfl ?_ | refine SatL.pu (RunV.fieldAddr rfl rfl rfl) rfl ?_
              refine SatL.op rfl (OpW.storeMid hS rfl rfl hq (by repeat constructor) (by first | exact ⟨6, by omega, by repeat constructor⟩ | exact ⟨7, by omega, by repeat constructor⟩ | exact ⟨8, by omega, by repeat constructor⟩ | exact ⟨9, by omega, by repeat constructor⟩ | exact ⟨10, by omega, by repeat constructor⟩) rfl rfl ?_)
              clear hS
              intro w4 hS
              refine SatL.nil (SatE.thenC ?_)
              refine SatC.seq ?_
              refine SatC.region ?_
              refine SatL.pu (RunV.assign rfl) rfl ?_
              refine SatL.nil (SatE.thenC ?_)
              refine SatC.ret (SatE.then_ret ?_)
              refine SatE.ret1 rfl rfl ?_
              first
              | (have hb1 : bad c s := by unfold bad; omega
                 rw [toldA, toldC, if_pos hb1, if_pos hb1]
                 exact ⟨rfl, hS⟩)
              | (have hb1 : ¬ bad c s := by unfold bad; omega
                 rw [toldA, toldC, if_neg hb1, if_neg hb1]
                 first
                 | (rw [if_pos (by omega)]; exact ⟨rfl, hS⟩)
                 | (rw [if_neg (by omega), cntC]
                    first
                    | (rw [if_pos (by omega)]
                       first
                       | (rw [if_pos (by omega)]; exact ⟨rfl, hS⟩)
                       | (rw [if_neg (by omega)]; exact ⟨rfl, hS⟩))
                    | (rw [if_neg (by omega)]
                       first
                       | (rw [if_pos (by omega)]; exact ⟨rfl, hS⟩)
                       | (rw [if_neg (by omega)]; exact ⟨rfl, hS⟩))))
            · (try simp only [cx, ne_eq, not_and, Int.not_le] at h6)
              try (exfalso; (first | omega | exact h6 trivial | contradiction); done)
              all_goals
              refine SatC.skip (SatE.thenC ?_)
              refine SatC.seq ?_
              refine SatC.region ?_
              refine SatL.pu (RunV.assign rfl) rfl ?_
              refine SatL.nil (SatE.thenC ?_)
              refine SatC.ret (SatE.then_ret ?_)
              refine SatE.ret1 rfl rfl ?_
              first
              | (have hb1 : bad c s := by unfold bad; omega
                 rw [toldA, toldC, if_pos hb1, if_pos hb1]
                 exact ⟨rfl, hS⟩)
              | (have hb1 : ¬ bad c s := by unfold bad; omega
                 rw [toldA, toldC, if_neg hb1, if_neg hb1]
                 first
                 | (rw [if_pos (by omega)]; exact ⟨rfl, hS⟩)
                 | (rw [if_neg (by omega), cntC]
                    first
                    | (rw [if_pos (by omega)]
                       first
                       | (rw [if_pos (by omega)]; exact ⟨rfl, hS⟩)
                       | (rw [if_neg (by omega)]; exact ⟨rfl, hS⟩))
                    | (rw [if_neg (by omega)]
                       first
                       | (rw [if_pos (by omega)]; exact ⟨rfl, hS⟩)
                       | (rw [if_neg (by omega)]; exact ⟨rfl, hS⟩))))
          · (try simp only [cx, ne_eq, not_and, Int.not_le] at h5)
            try (exfalso; (first | omega | exact h5 trivial | contradiction); done)
            all_goals
            refine SatC.skip (SatE.thenC ?_)
            refine SatC.seq ?_
            refine SatC.region ?_
            refine SatL.pu (RunV.move rfl) rfl ?_
            first | refine SatL.pu (RunV.nil_ptr rfl) rfl ?_ | refine SatL.pu (RunV.nil_func rfl) rfl ?_ | refine SatL.pu (RunV.nil_yield rfl) rfl ?_
            first | refine SatL.pu (RunV.fieldAddrL rfl rfl rfl) rfl ?_ | refine SatL.pu (RunV.fieldAddr rfl rfl rfl) rfl ?_
            refine SatL.op rfl (OpW.storeMid hS rfl rfl hq (by repeat constructor) (by first | exact ⟨6, by omega, by repeat constructor⟩ | exact ⟨7, by omega, by repeat constructor⟩ | exact ⟨8, by omega, by repeat constructor⟩ | exact ⟨9, by omega, by repeat constructor⟩ | exact ⟨10, by omega, by repeat constructor⟩) rfl rfl ?_)
            clear hS
            intro w1 hS
            refine SatL.nil (SatE.thenC ?_)
            refine SatC.seq ?_
            refine SatC.weak (e' := [(0, _), (1, _), (4, _)]) (by repeat constructor) ?_
            refine SatC.region ?_
            refine SatL.pu (RunV.move rfl) rfl ?_
            refine SatL.pu (RunV.move rfl) rfl ?_
            first | refine SatL.pu (RunV.nil_ptr rfl) rfl ?_ | refine SatL.pu (RunV.nil_func rfl) rfl ?_ | refine SatL.pu (RunV.nil_yield rfl) rfl ?_
            first | refine SatL.pu (RunV.fieldAddrL rfl rfl rfl) rfl ?_ | refine SatL.pu (RunV.fieldAddr rfl rfl rfl) rfl ?_
            refine SatL.pu (RunV.load1 hS rfl rfl (by repeat constructor) (by first | exact midget 0 (by omega) hq rfl | exact midget 6 (by omega) hq rfl | exact midget 7 (by omega) hq rfl | exact midget 8 (by omega) hq rfl | exact midget 11 (by omega) hq rfl | exact midget 1 (by omega) hq rfl | exact midget 2 (by omega) hq rfl | exact midget 3 (by omega) hq rfl | exact midget 5 (by omega) hq rfl | exact midget 9 (by omega) hq rfl | exact midget 10 (by omega) hq rfl)) rfl ?_
            refine SatL.pu (RunV.add rfl rfl (by first | exact wrapI64 (by omega) | rfl)) rfl ?_
            first | refine SatL.pu (RunV.nil_ptr rfl) rfl ?_ | refine SatL.pu (RunV.nil_func rfl) rfl ?_ | refine SatL.pu (RunV.nil_yield rfl) rfl ?_
            first | refine SatL.pu (RunV.fieldAddrL rfl rfl rfl) rfl ?_ | refine SatL.pu (RunV.fieldAddr rfl rfl rfl) rfl ?_
            refine SatL.op rfl (OpW.storeMid hS rfl rfl hq (by repeat constructor) (by first | exact ⟨6, by omega, by repeat constructor⟩ | exact ⟨7, by omega, by repeat constructor⟩ | exact ⟨8, by omega, by repeat constructor⟩ | exact ⟨9, by omega, by repeat constructor⟩ | exact ⟨10, by omega, by repeat constructor⟩) rfl rfl ?_)
            clear hS
            intro w2 hS
            refine SatL.nil (SatE.thenC ?_)
            refine SatC.seq ?_
            refine SatC.seq ?_
            refine SatC.drawnT 10 hS (hS) (by kernel_rfl) ?_
            clear hS
            intro w3 hh hS hD
            refine SatD.tk 0 rfl hD (fun _ hw => RunV.move rfl) ?_
            first | refine SatD.tk 1 rfl hD (fun _ hw => RunV.nil_ptr rfl) ?_ | refine SatD.tk 1 rfl hD (fun _ hw => RunV.nil_func rfl) ?_ | refine SatD.tk 1 rfl hD (fun _ hw => RunV.nil_yield rfl) ?_
            first | refine SatD.tk 2 rfl hD (fun _ hw => RunV.fieldAddrL rfl rfl rfl) ?_ | refine SatD.tk 2 rfl hD (fun _ hw => RunV.fieldAddr rfl rfl rfl) ?_
            refine SatD.tk 3 rfl hD (fun _ hw => RunV.load1 hw rfl rfl (by repeat constructor) (by first | exact midget 0 (by omega) hq rfl | exact midget 6 (by omega) hq rfl | exact midget 7 (by omega) hq rfl | exact midget 8 (by omega) hq rfl | exact midget 11 (by omega) hq rfl | exact midget 1 (by omega) hq rfl | exact midget 2 (by omega) hq rfl | exact midget 3 (by omega) hq rfl | exact midget 5 (by omega) hq rfl | exact midget 9 (by omega) hq rfl | exact midget 10 (by omega) hq rfl)) ?_
            refine SatD.tk 4 rfl hD (fun _ hw => RunV.move rfl) ?_
            first | refine SatD.tk 5 rfl hD (fun _ hw => RunV.nil_ptr rfl) ?_ | refine SatD.tk 5 rfl hD (fun _ hw => RunV.nil_func rfl) ?_ | refine SatD.tk 5 rfl hD (fun _ hw => RunV.nil_yield rfl) ?_
            first | refine SatD.tk 6 rfl hD (fun _ hw => RunV.fieldAddrL rfl rfl rfl) ?_ | refine SatD.tk 6 rfl hD (fun _ hw => RunV.fieldAddr rfl rfl rfl) ?_
            first | refine SatD.tk 7 rfl hD (fun _ hw => RunV.fieldAddrL rfl rfl rfl) ?_ | refine SatD.tk 7 rfl hD (fun _ hw => RunV.fieldAddr rfl rfl rfl) ?_
            refine SatD.tk 8 rfl hD (fun _ hw => RunV.load1 hw rfl rfl (by repeat constructor) (by first | exact midget 0 (by omega) hq rfl | exact midget 6 (by omega) hq rfl | exact midget 7 (by omega) hq rfl | exact midget 8 (by omega) hq rfl | exact midget 11 (by omega) hq rfl | exact midget 1 (by omega) hq rfl | exact midget 2 (by omega) hq rfl | exact midget 3 (by omega) hq rfl | exact midget 5 (by omega) hq rfl | exact midget 9 (by omega) hq rfl | exact midget 10 (by omega) hq rfl)) ?_
            refine SatD.tk 9 rfl hD (fun _ hw => RunV.geq rfl rfl) ?_
            refine SatD.done 0 (by kernel_rfl) (SatE.thenC ?_)
            clear hD
            refine SatC.weak (e' := [(0, _), (1, _), (4, _), (78, _)]) (by repeat constructor) ?_
            refine SatC.cond rfl (fun h6 => ?_) (fun h6 => ?_)
            · (try simp only [cx, ne_eq, not_and, Int.not_le] at h6)
              try (exfalso; (first | omega | exact h6 trivial | contradiction); done)
              all_goals
              refine SatC.region ?_
              refine SatL.pu (RunV.move rfl) rfl ?_
              refine SatL.pu (RunV.move rfl) rfl ?_
              first | refine SatL.pu (RunV.nil_ptr rfl) rfl ?_ | refine SatL.pu (RunV.nil_func rfl) rfl ?_ | refine SatL.pu (RunV.nil_yield rfl) rfl ?_
              first | refine SatL.pu (RunV.fieldAddrL rfl rfl rfl) rfl ?_ | refine SatL.pu (RunV.fieldAddr rfl rfl rfl) rfl ?_
              refine SatL.op rfl (OpW.storeMid hS rfl rfl hq (by repeat constructor) (by first | exact ⟨6, by omega, by repeat constructor⟩ | exact ⟨7, by omega, by repeat constructor⟩ | exact ⟨8, by omega, by repeat constructor⟩ | exact ⟨9, by omega, by repeat constructor⟩ | exact ⟨10, by omega, by repeat constructor⟩) rfl rfl ?_)
              clear hS
              intro w4 hS
              refine SatL.nil (SatE.thenC ?_)
              refine SatC.seq ?_
              refine SatC.region ?_
              refine SatL.pu (RunV.assign rfl) rfl ?_
              refine SatL.nil (SatE.thenC ?_)
              refine SatC.ret ?_
              refine SatE.ret1 rfl rfl ?_
              first
              | (have hb1 : bad c s := by unfold bad; omega
                 rw [toldA, toldC, if_pos hb1, if_pos hb1]
                 exact ⟨rfl, hS⟩)
              | (have hb1 : ¬ bad c s := by unfold bad; omega
                 rw [toldA, toldC, if_neg hb1, if_neg hb1]
                 first
                 | (rw [if_pos (by omega)]; exact ⟨rfl, hS⟩)
                 | (rw [if_neg (by omega), cntC]
                    first
                    | (rw [if_pos (by omega)]
                       first
                       | (rw [if_pos (by omega)]; exact ⟨rfl, hS⟩)
                       | (rw [if_neg (by omega)]; exact ⟨rfl, hS⟩))
                    | (rw [if_neg (by omega)]
                       first
                       | (rw [if_pos (by omega)]; exact ⟨rfl, hS⟩)
                       | (rw [if_neg (by omega)]; exact ⟨rfl, hS⟩))))
            · (try simp only [cx, ne_eq, not_and, Int.not_le] at h6)
              try (exfalso; (first | omega | exact h6 trivial | contradiction); done)
              all_goals
              refine SatC.skip (SatE.thenC ?_)
              refine SatC.seq ?_
              refine SatC.region ?_
              refine SatL.pu (RunV.assign rfl) rfl ?_
              refine SatL.nil (SatE.thenC ?_)
              refine SatC.ret ?_
              refine SatE.ret1 rfl rfl ?_
              first
              | (have hb1 : bad c s := by unfold bad; omega
                 rw [toldA, toldC, if_pos hb1, if_pos hb1]
                 exact ⟨rfl, hS⟩)
              | (have hb1 : ¬ bad c s := by unfold bad; omega
                 rw [toldA, toldC, if_neg hb1, if_neg hb1]
                 first
                 | (rw [if_pos (by omega)]; exact ⟨rfl, hS⟩)
                 | (rw [if_neg (by omega), cntC]
                    first
                    | (rw [if_pos (by omega)]
                       first
                       | (rw [if_pos (by omega)]; exact ⟨rfl, hS⟩)
                       | (rw [if_neg (by omega)]; exact ⟨rfl, hS⟩))
                    | (rw [if_neg (by omega)]
                       first
                       | (rw [if_pos (by omega)]; exact ⟨rfl, hS⟩)
                       | (rw [if_neg (by omega)]; exact ⟨rfl, hS⟩))))
    · (try simp only [cx, ne_eq, not_and, Int.not_le] at h2)
      try (exfalso; (first | omega | exact h2 trivial | contradiction); done)
      all_goals
      refine SatL.guard_n rfl rfl rfl rfl ?_
      refine SatL.pu (RunV.pick_t rfl rfl) rfl ?_
      refine SatL.nil (SatE.thenC ?_)
      refine SatC.weak (e' := [(0, _), (1, _), (4, _), (18, _)]) (by repeat constructor) ?_
      refine SatC.cond_t rfl ?_
      refine SatC.seq ?_
      refine SatC.region ?_
      refine SatL.pu (RunV.assign rfl) rfl ?_
      refine SatL.nil (SatE.thenC ?_)
      refine SatC.ret (SatE.then_ret ?_)
      refine SatE.ret1 rfl rfl ?_
      first
      | (have hb1 : bad c s := by unfold bad; omega
         rw [toldA, toldC, if_pos hb1, if_pos hb1]
         exact ⟨rfl, hS⟩)
      | (have hb1 : ¬ bad c s := by unfold bad; omega
         rw [toldA, toldC, if_neg hb1, if_neg hb1]
         first
         | (rw [if_pos (by omega)]; exact ⟨rfl, hS⟩)
         | (rw [if_neg (by omega), cntC]
            first
            | (rw [if_pos (by omega)]
               first
               | (rw [if_pos (by omega)]; exact ⟨rfl, hS⟩)
               | (rw [if_neg (by omega)]; exact ⟨rfl, hS⟩))
            | (rw [if_neg (by omega)]
               first
               | (rw [if_pos (by omega)]; exact ⟨rfl, hS⟩)
               | (rw [if_neg (by omega)]; exact ⟨rfl, hS⟩))))
  · (try simp only [cx, ne_eq, not_and, Int.not_le] at h1)
    try (exfalso; (first | omega | exact h1 trivial | contradiction); done)
    all_goals
    refine SatL.guard_n rfl rfl rfl rfl ?_
    refine SatL.pu (RunV.pick_t rfl rfl) rfl ?_
    refine SatL.pu (RunV.move rfl) rfl ?_
    refine SatL.guard_n rfl rfl rfl rfl ?_
    refine SatL.guard_n rfl rfl rfl rfl ?_
    refine SatL.pu (RunV.pick_t rfl rfl) rfl ?_
    refine SatL.nil (SatE.thenC ?_)
    refine SatC.weak (e' := [(0, _), (1, _), (4, _), (18, _)]) (by repeat constructor) ?_
    refine SatC.cond_t rfl ?_
    refine SatC.seq ?_
    refine SatC.region ?_
    refine SatL.pu (RunV.assign rfl) rfl ?_
    refine SatL.nil (SatE.thenC ?_)
    refine SatC.ret (SatE.then_ret ?_)
    refine SatE.ret1 rfl rfl ?_
    first
    | (have hb1 : bad c s := by unfold bad; omega
       rw [toldA, toldC, if_pos hb1, if_pos hb1]
       exact ⟨rfl, hS⟩)
    | (have hb1 : ¬ bad c s := by unfold bad; omega
       rw [toldA, toldC, if_neg hb1, if_neg hb1]
       first
       | (rw [if_pos (by omega)]; exact ⟨rfl, hS⟩)
       | (rw [if_neg (by omega), cntC]
          first
          | (rw [if_pos (by omega)]
             first
             | (rw [if_pos (by omega)]; exact ⟨rfl, hS⟩)
             | (rw [if_neg (by omega)]; exact ⟨rfl, hS⟩))
          | (rw [if_neg (by omega)]
             first
             | (rw [if_pos (by omega)]; exact ⟨rfl, hS⟩)
             | (rw [if_neg (by omega)]; exact ⟨rfl, hS⟩))))
theorem fol_ref (s : Int) (hq : pre.length = q) (hown : Own w [(b, C 87 (pre ++ (rc c ++ post)))]) : Ret Try.prog 51 #[.pointer (some ⟨b, q, none⟩), .int .i64 s] w fun v w' => v = .int .i64 (folA c s) ∧ St w [b] [(b, C 87 (pre ++ (rc (folC c s) ++ post)))] w' := by
  have hS := St.init hown
  simp only [List.map_cons, List.map_nil] at hS
  refine Ret.enter Try.func51 Try.ntmps51 rfl rfl ?_
  simp only [argEnv, Nat.reduceAdd]
  refine SatC.seq ?_
  refine SatC.region ?_
  refine SatL.pu (RunV.assign rfl) rfl ?_
  refine SatL.nil (SatE.thenC ?_)
  refine SatC.seq ?_
  refine SatC.seq ?_
  refine SatC.region ?_
  refine SatL.pu (RunV.move rfl) rfl ?_
  first | refine SatL.pu (RunV.nil_ptr rfl) rfl ?_ | refine SatL.pu (RunV.nil_func rfl) rfl ?_ | refine SatL.pu (RunV.nil_yield rfl) rfl ?_
  first | refine SatL.pu (RunV.fieldAddrL rfl rfl rfl) rfl ?_ | refine SatL.pu (RunV.fieldAddr rfl rfl rfl) rfl ?_
  first | refine SatL.pu (RunV.fieldAddrL rfl rfl rfl) rfl ?_ | refine SatL.pu (RunV.fieldAddr rfl rfl rfl) rfl ?_
  refine SatL.pu (RunV.load1 hS rfl rfl (by repeat constructor) (by first | exact midget 0 (by omega) hq rfl | exact midget 6 (by omega) hq rfl | exact midget 7 (by omega) hq rfl | exact midget 8 (by omega) hq rfl | exact midget 11 (by omega) hq rfl | exact midget 1 (by omega) hq rfl | exact midget 2 (by omega) hq rfl | exact midget 3 (by omega) hq rfl | exact midget 5 (by omega) hq rfl | exact midget 9 (by omega) hq rfl | exact midget 10 (by omega) hq rfl)) rfl ?_
  refine SatL.pu (RunV.neq rfl rfl) rfl ?_
  refine SatL.pu (RunV.move rfl) rfl ?_
  refine SatL.guard rfl rfl rfl (fun h1 => ?_) (fun h1 => ?_)
  · (try simp only [cx, ne_eq, not_and, Int.not_le] at h1)
    try (exfalso; (first | omega | exact h1 trivial | contradiction); done)
    all_goals
    refine SatL.pu (RunV.move rfl) rfl ?_
    refine SatL.guard_y rfl rfl ?_
    refine SatL.pu (RunV.lss rfl rfl) rfl ?_
    refine SatL.pu (RunV.pick_f rfl rfl) rfl ?_
    refine SatL.pu (RunV.move rfl) rfl ?_
    refine SatL.guard rfl rfl rfl (fun h2 => ?_) (fun h2 => ?_)
    · (try simp only [cx, ne_eq, not_and, Int.not_le] at h2)
      try (exfalso; (first | omega | exact h2 trivial | contradiction); done)
      all_goals
      refine SatL.pu (RunV.move rfl) rfl ?_
      refine SatL.guard_y rfl rfl ?_
      refine SatL.pu (RunV.gtr rfl rfl) rfl ?_
      refine SatL.pu (RunV.pick_f rfl rfl) rfl ?_
      refine SatL.nil (SatE.thenC ?_)
      refine SatC.weak (e' := [(0, _), (1, _), (4, _), (18, _)]) (by repeat constructor) ?_
      refine SatC.cond rfl (fun h3 => ?_) (fun h3 => ?_)
      · (try simp only [cx, ne_eq, not_and, Int.not_le] at h3)
        try (exfalso; (first | omega | exact h3 trivial | contradiction); done)
        all_goals
        refine SatC.seq ?_
        refine SatC.region ?_
        refine SatL.pu (RunV.assign rfl) rfl ?_
        refine SatL.nil (SatE.thenC ?_)
        refine SatC.ret (SatE.then_ret ?_)
        refine SatE.ret1 rfl rfl ?_
        rw [folA, folC]
        first
        | (rw [if_pos (by omega), if_pos (by omega)]; exact ⟨rfl, hS⟩)
        | (rw [if_neg (by omega), if_neg (by omega)]; exact ⟨rfl, hS⟩)
      · (try simp only [cx, ne_eq, not_and, Int.not_le] at h3)
        try (exfalso; (first | omega | exact h3 trivial | contradiction); done)
        all_goals
        refine SatC.skip (SatE.thenC ?_)
        refine SatC.seq ?_
        refine SatC.region ?_
        refine SatL.pu (RunV.move rfl) rfl ?_
        refine SatL.pu (RunV.move rfl) rfl ?_
        first | refine SatL.pu (RunV.nil_ptr rfl) rfl ?_ | refine SatL.pu (RunV.nil_func rfl) rfl ?_ | refine SatL.pu (RunV.nil_yield rfl) rfl ?_
        first | refine SatL.pu (RunV.fieldAddrL rfl rfl rfl) rfl ?_ | refine SatL.pu (RunV.fieldAddr rfl rfl rfl) rfl ?_
        refine SatL.op rfl (OpW.storeMid hS rfl rfl hq (by repeat constructor) (by first | exact ⟨6, by omega, by repeat constructor⟩ | exact ⟨7, by omega, by repeat constructor⟩ | exact ⟨8, by omega, by repeat constructor⟩ | exact ⟨9, by omega, by repeat constructor⟩ | exact ⟨10, by omega, by repeat constructor⟩) rfl rfl ?_)
        clear hS
        intro w1 hS
        refine SatL.nil (SatE.thenC ?_)
        refine SatC.seq ?_
        refine SatC.region ?_
        refine SatL.pu (RunV.assign rfl) rfl ?_
        refine SatL.nil (SatE.thenC ?_)
        refine SatC.ret ?_
        refine SatE.ret1 rfl rfl ?_
        rw [folA, folC]
        first
        | (rw [if_pos (by omega), if_pos (by omega)]; exact ⟨rfl, hS⟩)
        | (rw [if_neg (by omega), if_neg (by omega)]; exact ⟨rfl, hS⟩)
    · (try simp only [cx, ne_eq, not_and, Int.not_le] at h2)
      try (exfalso; (first | omega | exact h2 trivial | contradiction); done)
      all_goals
      refine SatL.guard_n rfl rfl rfl rfl ?_
      refine SatL.pu (RunV.pick_t rfl rfl) rfl ?_
      refine SatL.nil (SatE.thenC ?_)
      refine SatC.weak (e' := [(0, _), (1, _), (4, _), (18, _)]) (by repeat constructor) ?_
      refine SatC.cond_t rfl ?_
      refine SatC.seq ?_
      refine SatC.region ?_
      refine SatL.pu (RunV.assign rfl) rfl ?_
      refine SatL.nil (SatE.thenC ?_)
      refine SatC.ret (SatE.then_ret ?_)
      refine SatE.ret1 rfl rfl ?_
      rw [folA, folC]
      first
      | (rw [if_pos (by omega), if_pos (by omega)]; exact ⟨rfl, hS⟩)
      | (rw [if_neg (by omega), if_neg (by omega)]; exact ⟨rfl, hS⟩)
  · (try simp only [cx, ne_eq, not_and, Int.not_le] at h1)
    try (exfalso; (first | omega | exact h1 trivial | contradiction); done)
    all_goals
    refine SatL.guard_n rfl rfl rfl rfl ?_
    refine SatL.pu (RunV.pick_t rfl rfl) rfl ?_
    refine SatL.pu (RunV.move rfl) rfl ?_
    refine SatL.guard_n rfl rfl rfl rfl ?_
    refine SatL.guard_n rfl rfl rfl rfl ?_
    refine SatL.pu (RunV.pick_t rfl rfl) rfl ?_
    refine SatL.nil (SatE.thenC ?_)
    refine SatC.weak (e' := [(0, _), (1, _), (4, _), (18, _)]) (by repeat constructor) ?_
    refine SatC.cond_t rfl ?_
    refine SatC.seq ?_
    refine SatC.region ?_
    refine SatL.pu (RunV.assign rfl) rfl ?_
    refine SatL.nil (SatE.thenC ?_)
    refine SatC.ret (SatE.then_ret ?_)
    refine SatE.ret1 rfl rfl ?_
    rw [folA, folC]
    first
    | (rw [if_pos (by omega), if_pos (by omega)]; exact ⟨rfl, hS⟩)
    | (rw [if_neg (by omega), if_neg (by omega)]; exact ⟨rfl, hS⟩)
theorem tick_ref (hq : pre.length = q) (hown : Own w [(b, C 87 (pre ++ (rc c ++ post)))]) (hb : Bd 1000000 c) : Ret Try.prog 50 #[.pointer (some ⟨b, q, none⟩)] w fun v w' => v = .bool (tickA c) ∧ St w [b] [(b, C 87 (pre ++ (rc (tickC c) ++ post)))] w' := by
  have hS := St.init hown
  simp only [List.map_cons, List.map_nil] at hS
  unfold Bd at hb
  refine Ret.enter Try.func50 Try.ntmps50 rfl rfl ?_
  simp only [argEnv, Nat.reduceAdd]
  refine SatC.seq ?_
  refine SatC.region ?_
  refine SatL.pu (RunV.assign rfl) rfl ?_
  refine SatL.nil (SatE.thenC ?_)
  refine SatC.seq ?_
  refine SatC.region ?_
  refine SatL.pu (RunV.move rfl) rfl ?_
  refine SatL.op rfl (OpW.enter rfl rfl rfl (rfl) (stat_ref (c := c) hq (hS.ownOf (by repeat constructor))) ?_)
  rintro r1 w1 ⟨rfl, h⟩
  replace hS := St.callN hS h
  refine SatL.pu (RunV.assign rfl) rfl ?_
  refine SatL.nil (SatE.thenC ?_)
  refine SatC.seq ?_
  refine SatC.seq ?_
  refine SatC.region ?_
  refine SatL.pu (RunV.move rfl) rfl ?_
  first | refine SatL.pu (RunV.nil_ptr rfl) rfl ?_ | refine SatL.pu (RunV.nil_func rfl) rfl ?_ | refine SatL.pu (RunV.nil_yield rfl) rfl ?_
  first | refine SatL.pu (RunV.fieldAddrL rfl rfl rfl) rfl ?_ | refine SatL.pu (RunV.fieldAddr rfl rfl rfl) rfl ?_
  first | refine SatL.pu (RunV.fieldAddrL rfl rfl rfl) rfl ?_ | refine SatL.pu (RunV.fieldAddr rfl rfl rfl) rfl ?_
  refine SatL.pu (RunV.load1 hS rfl rfl (by repeat constructor) (by first | exact midget 0 (by omega) hq rfl | exact midget 6 (by omega) hq rfl | exact midget 7 (by omega) hq rfl | exact midget 8 (by omega) hq rfl | exact midget 11 (by omega) hq rfl | exact midget 1 (by omega) hq rfl | exact midget 2 (by omega) hq rfl | exact midget 3 (by omega) hq rfl | exact midget 5 (by omega) hq rfl | exact midget 9 (by omega) hq rfl | exact midget 10 (by omega) hq rfl)) rfl ?_
  refine SatL.pu (RunV.eql rfl rfl) rfl ?_
  refine SatL.nil (SatE.thenC ?_)
  refine SatC.cond rfl (fun h1 => ?_) (fun h1 => ?_)
  · (try simp only [cx, ne_eq, not_and, Int.not_le] at h1)
    try (exfalso; (first | omega | exact h1 trivial | contradiction); done)
    all_goals
    refine SatC.seq ?_
    refine SatC.region ?_
    refine SatL.pu (RunV.move rfl) rfl ?_
    refine SatL.pu (RunV.move rfl) rfl ?_
    first | refine SatL.pu (RunV.nil_ptr rfl) rfl ?_ | refine SatL.pu (RunV.nil_func rfl) rfl ?_ | refine SatL.pu (RunV.nil_yield rfl) rfl ?_
    first | refine SatL.pu (RunV.fieldAddrL rfl rfl rfl) rfl ?_ | refine SatL.pu (RunV.fieldAddr rfl rfl rfl) rfl ?_
    refine SatL.pu (RunV.load1 hS rfl rfl (by repeat constructor) (by first | exact midget 0 (by omega) hq rfl | exact midget 6 (by omega) hq rfl | exact midget 7 (by omega) hq rfl | exact midget 8 (by omega) hq rfl | exact midget 11 (by omega) hq rfl | exact midget 1 (by omega) hq rfl | exact midget 2 (by omega) hq rfl | exact midget 3 (by omega) hq rfl | exact midget 5 (by omega) hq rfl | exact midget 9 (by omega) hq rfl | exact midget 10 (by omega) hq rfl)) rfl ?_
    refine SatL.pu (RunV.add rfl rfl (by first | exact wrapI64 (by omega) | rfl)) rfl ?_
    first | refine SatL.pu (RunV.nil_ptr rfl) rfl ?_ | refine SatL.pu (RunV.nil_func rfl) rfl ?_ | refine SatL.pu (RunV.nil_yield rfl) rfl ?_
    first | refine SatL.pu (RunV.fieldAddrL rfl rfl rfl) rfl ?_ | refine SatL.pu (RunV.fieldAddr rfl rfl rfl) rfl ?_
    refine SatL.op rfl (OpW.storeMid hS rfl rfl hq (by repeat constructor) (by first | exact ⟨6, by omega, by repeat constructor⟩ | exact ⟨7, by omega, by repeat constructor⟩ | exact ⟨8, by omega, by repeat constructor⟩ | exact ⟨9, by omega, by repeat constructor⟩ | exact ⟨10, by omega, by repeat constructor⟩) rfl rfl ?_)
    clear hS
    intro w2 hS
    refine SatL.nil (SatE.thenC ?_)
    refine SatC.seq ?_
    refine SatC.weak (e' := [(0, _), (2, _), (3, _)]) (by repeat constructor) ?_
    refine SatC.drawnT 10 hS (hS) (by kernel_rfl) ?_
    clear hS
    intro w3 hh hS hD
    refine SatD.tk 0 rfl hD (fun _ hw => RunV.move rfl) ?_
    first | refine SatD.tk 1 rfl hD (fun _ hw => RunV.nil_ptr rfl) ?_ | refine SatD.tk 1 rfl hD (fun _ hw => RunV.nil_func rfl) ?_ | refine SatD.tk 1 rfl hD (fun _ hw => RunV.nil_yield rfl) ?_
    first | refine SatD.tk 2 rfl hD (fun _ hw => RunV.fieldAddrL rfl rfl rfl) ?_ | refine SatD.tk 2 rfl hD (fun _ hw => RunV.fieldAddr rfl rfl rfl) ?_
    refine SatD.tk 3 rfl hD (fun _ hw => RunV.load1 hw rfl rfl (by repeat constructor) (by first | exact midget 0 (by omega) hq rfl | exact midget 6 (by omega) hq rfl | exact midget 7 (by omega) hq rfl | exact midget 8 (by omega) hq rfl | exact midget 11 (by omega) hq rfl | exact midget 1 (by omega) hq rfl | exact midget 2 (by omega) hq rfl | exact midget 3 (by omega) hq rfl | exact midget 5 (by omega) hq rfl | exact midget 9 (by omega) hq rfl | exact midget 10 (by omega) hq rfl)) ?_
    refine SatD.tk 4 rfl hD (fun _ hw => RunV.move rfl) ?_
    first | refine SatD.tk 5 rfl hD (fun _ hw => RunV.nil_ptr rfl) ?_ | refine SatD.tk 5 rfl hD (fun _ hw => RunV.nil_func rfl) ?_ | refine SatD.tk 5 rfl hD (fun _ hw => RunV.nil_yield rfl) ?_
    first | refine SatD.tk 6 rfl hD (fun _ hw => RunV.fieldAddrL rfl rfl rfl) ?_ | refine SatD.tk 6 rfl hD (fun _ hw => RunV.fieldAddr rfl rfl rfl) ?_
    first | refine SatD.tk 7 rfl hD (fun _ hw => RunV.fieldAddrL rfl rfl rfl) ?_ | refine SatD.tk 7 rfl hD (fun _ hw => RunV.fieldAddr rfl rfl rfl) ?_
    refine SatD.tk 8 rfl hD (fun _ hw => RunV.load1 hw rfl rfl (by repeat constructor) (by first | exact midget 0 (by omega) hq rfl | exact midget 6 (by omega) hq rfl | exact midget 7 (by omega) hq rfl | exact midget 8 (by omega) hq rfl | exact midget 11 (by omega) hq rfl | exact midget 1 (by omega) hq rfl | exact midget 2 (by omega) hq rfl | exact midget 3 (by omega) hq rfl | exact midget 5 (by omega) hq rfl | exact midget 9 (by omega) hq rfl | exact midget 10 (by omega) hq rfl)) ?_
    refine SatD.tk 9 rfl hD (fun _ hw => RunV.geq rfl rfl) ?_
    refine SatD.done 0 (by kernel_rfl) (SatE.thenC ?_)
    clear hD
    refine SatC.cond rfl (fun h2 => ?_) (fun h2 => ?_)
    · (try simp only [cx, ne_eq, not_and, Int.not_le] at h2)
      try (exfalso; (first | omega | exact h2 trivial | contradiction); done)
      all_goals
      refine SatC.region ?_
      refine SatL.pu (RunV.move rfl) rfl ?_
      first | refine SatL.pu (RunV.nil_ptr rfl) rfl ?_ | refine SatL.pu (RunV.nil_func rfl) rfl ?_ | refine SatL.pu (RunV.nil_yield rfl) rfl ?_
      first | refine SatL.pu (RunV.fieldAddrL rfl rfl rfl) rfl ?_ | refine SatL.pu (RunV.fieldAddr rfl rfl rfl) rfl ?_
      refine SatL.op rfl (OpW.storeMid hS rfl rfl hq (by repeat constructor) (by first | exact ⟨6, by omega, by repeat constructor⟩ | exact ⟨7, by omega, by repeat constructor⟩ | exact ⟨8, by omega, by repeat constructor⟩ | exact ⟨9, by omega, by repeat constructor⟩ | exact ⟨10, by omega, by repeat constructor⟩) rfl rfl ?_)
      clear hS
      intro w4 hS
      refine SatL.nil (SatE.thenC ?_)
      refine SatC.seq ?_
      refine SatC.weak (e' := [(0, _), (2, _), (3, _)]) (by repeat constructor) ?_
      refine SatC.region ?_
      refine SatL.pu (RunV.move rfl) rfl ?_
      refine SatL.pu (RunV.move rfl) rfl ?_
      first | refine SatL.pu (RunV.nil_ptr rfl) rfl ?_ | refine SatL.pu (RunV.nil_func rfl) rfl ?_ | refine SatL.pu (RunV.nil_yield rfl) rfl ?_
      first | refine SatL.pu (RunV.fieldAddrL rfl rfl rfl) rfl ?_ | refine SatL.pu (RunV.fieldAddr rfl rfl rfl) rfl ?_
      refine SatL.pu (RunV.load1 hS rfl rfl (by repeat constructor) (by first | exact midget 0 (by omega) hq rfl | exact midget 6 (by omega) hq rfl | exact midget 7 (by omega) hq rfl | exact midget 8 (by omega) hq rfl | exact midget 11 (by omega) hq rfl | exact midget 1 (by omega) hq rfl | exact midget 2 (by omega) hq rfl | exact midget 3 (by omega) hq rfl | exact midget 5 (by omega) hq rfl | exact midget 9 (by omega) hq rfl | exact midget 10 (by omega) hq rfl)) rfl ?_
      refine SatL.pu (RunV.add rfl rfl (by first | exact wrapI64 (by omega) | rfl)) rfl ?_
      first | refine SatL.pu (RunV.nil_ptr rfl) rfl ?_ | refine SatL.pu (RunV.nil_func rfl) rfl ?_ | refine SatL.pu (RunV.nil_yield rfl) rfl ?_
      first | refine SatL.pu (RunV.fieldAddrL rfl rfl rfl) rfl ?_ | refine SatL.pu (RunV.fieldAddr rfl rfl rfl) rfl ?_
      refine SatL.op rfl (OpW.storeMid hS rfl rfl hq (by repeat constructor) (by first | exact ⟨6, by omega, by repeat constructor⟩ | exact ⟨7, by omega, by repeat constructor⟩ | exact ⟨8, by omega, by repeat constructor⟩ | exact ⟨9, by omega, by repeat constructor⟩ | exact ⟨10, by omega, by repeat constructor⟩) rfl rfl ?_)
      clear hS
      intro w5 hS
      refine SatL.nil (SatE.thenC ?_)
      refine SatC.seq ?_
      refine SatC.seq ?_
      refine SatC.region ?_
      refine SatL.pu (RunV.move rfl) rfl ?_
      refine SatL.op rfl (OpW.enter rfl rfl rfl (rfl) (stat_ref (c := { c with age := c.age + 1, bare := 2, long := c.long + 1 }) hq (hS.ownOf (by repeat constructor))) ?_)
      rintro r6 w6 ⟨rfl, h⟩
      replace hS := St.callN hS h
      refine SatL.pu (RunV.neq rfl rfl) rfl ?_
      refine SatL.nil (SatE.thenC ?_)
      refine SatC.cond rfl (fun h3 => ?_) (fun h3 => ?_)
      · (try simp only [cx, ne_eq, not_and, Int.not_le] at h3)
        try (exfalso; (first | omega | exact h3 trivial | contradiction); done)
        all_goals
        refine SatC.region ?_
        refine SatL.pu (RunV.move rfl) rfl ?_
        first | refine SatL.pu (RunV.nil_ptr rfl) rfl ?_ | refine SatL.pu (RunV.nil_func rfl) rfl ?_ | refine SatL.pu (RunV.nil_yield rfl) rfl ?_
        first | refine SatL.pu (RunV.fieldAddrL rfl rfl rfl) rfl ?_ | refine SatL.pu (RunV.fieldAddr rfl rfl rfl) rfl ?_
        refine SatL.op rfl (OpW.storeMid hS rfl rfl hq (by repeat constructor) (by first | exact ⟨6, by omega, by repeat constructor⟩ | exact ⟨7, by omega, by repeat constructor⟩ | exact ⟨8, by omega, by repeat constructor⟩ | exact ⟨9, by omega, by repeat constructor⟩ | exact ⟨10, by omega, by repeat constructor⟩) rfl rfl ?_)
        clear hS
        intro w7 hS
        refine SatL.nil (SatE.thenC ?_)
        refine SatC.seq ?_
        refine SatC.weak (e' := [(0, _), (2, _), (3, _)]) (by repeat constructor) ?_
        refine SatC.region ?_
        refine SatL.pu (RunV.move rfl) rfl ?_
        refine SatL.op rfl (OpW.enter rfl rfl rfl (rfl) (stat_ref (c := { c with age := c.age + 1, bare := 2, long := 0 }) hq (hS.ownOf (by repeat constructor))) ?_)
        rintro r8 w8 ⟨rfl, h⟩
        replace hS := St.callN hS h
        refine SatL.pu (RunV.move rfl) rfl ?_
        refine SatL.pu (RunV.neq rfl rfl) rfl ?_
        refine SatL.pu (RunV.assign rfl) rfl ?_
        refine SatL.nil (SatE.thenC ?_)
        refine SatC.ret ?_
        refine SatE.ret1 rfl rfl ?_
        rw [tickA]
        first | rw [tick_of (tick1_a (by omega) (by omega))] | rw [tick_of (tick1_b (by omega) (by omega))] | rw [tick_of (tick1_c (by omega))]
        first
        | (rw [if_pos (by first | assumption | exact h3 | exact h2)]; exact ⟨rfl, hS⟩)
        | (rw [if_neg (by first | assumption | exact h3 | exact h2)]; exact ⟨rfl, hS⟩)
      · (try simp only [cx, ne_eq, not_and, Int.not_le] at h3)
        try (exfalso; (first | omega | exact h3 trivial | contradiction); done)
        all_goals
        refine SatC.skip (SatE.thenC ?_)
        refine SatC.seq ?_
        refine SatC.region ?_
        refine SatL.pu (RunV.move rfl) rfl ?_
        refine SatL.op rfl (OpW.enter rfl rfl rfl (rfl) (stat_ref (c := { c with age := c.age + 1, bare := 2, long := c.long + 1 }) hq (hS.ownOf (by repeat constructor))) ?_)
        rintro r7 w7 ⟨rfl, h⟩
        replace hS := St.callN hS h
        refine SatL.pu (RunV.move rfl) rfl ?_
        refine SatL.pu (RunV.neq rfl rfl) rfl ?_
        refine SatL.pu (RunV.assign rfl) rfl ?_
        refine SatL.nil (SatE.thenC ?_)
        refine SatC.ret ?_
        refine SatE.ret1 rfl rfl ?_
        rw [tickA]
        first | rw [tick_of (tick1_a (by omega) (by omega))] | rw [tick_of (tick1_b (by omega) (by omega))] | rw [tick_of (tick1_c (by omega))]
        first
        | (rw [if_pos (by first | assumption | exact h3 | exact h2)]; exact ⟨rfl, hS⟩)
        | (rw [if_neg (by first | assumption | exact h3 | exact h2)]; exact ⟨rfl, hS⟩)
    · (try simp only [cx, ne_eq, not_and, Int.not_le] at h2)
      try (exfalso; (first | omega | exact h2 trivial | contradiction); done)
      all_goals
      refine SatC.skip (SatE.thenC ?_)
      refine SatC.seq ?_
      refine SatC.region ?_
      refine SatL.pu (RunV.move rfl) rfl ?_
      refine SatL.pu (RunV.move rfl) rfl ?_
      first | refine SatL.pu (RunV.nil_ptr rfl) rfl ?_ | refine SatL.pu (RunV.nil_func rfl) rfl ?_ | refine SatL.pu (RunV.nil_yield rfl) rfl ?_
      first | refine SatL.pu (RunV.fieldAddrL rfl rfl rfl) rfl ?_ | refine SatL.pu (RunV.fieldAddr rfl rfl rfl) rfl ?_
      refine SatL.pu (RunV.load1 hS rfl rfl (by repeat constructor) (by first | exact midget 0 (by omega) hq rfl | exact midget 6 (by omega) hq rfl | exact midget 7 (by omega) hq rfl | exact midget 8 (by omega) hq rfl | exact midget 11 (by omega) hq rfl | exact midget 1 (by omega) hq rfl | exact midget 2 (by omega) hq rfl | exact midget 3 (by omega) hq rfl | exact midget 5 (by omega) hq rfl | exact midget 9 (by omega) hq rfl | exact midget 10 (by omega) hq rfl)) rfl ?_
      refine SatL.pu (RunV.add rfl rfl (by first | exact wrapI64 (by omega) | rfl)) rfl ?_
      first | refine SatL.pu (RunV.nil_ptr rfl) rfl ?_ | refine SatL.pu (RunV.nil_func rfl) rfl ?_ | refine SatL.pu (RunV.nil_yield rfl) rfl ?_
      first | refine SatL.pu (RunV.fieldAddrL rfl rfl rfl) rfl ?_ | refine SatL.pu (RunV.fieldAddr rfl rfl rfl) rfl ?_
      refine SatL.op rfl (OpW.storeMid hS rfl rfl hq (by repeat constructor) (by first | exact ⟨6, by omega, by repeat constructor⟩ | exact ⟨7, by omega, by repeat constructor⟩ | exact ⟨8, by omega, by repeat constructor⟩ | exact ⟨9, by omega, by repeat constructor⟩ | exact ⟨10, by omega, by repeat constructor⟩) rfl rfl ?_)
      clear hS
      intro w4 hS
      refine SatL.nil (SatE.thenC ?_)
      refine SatC.seq ?_
      refine SatC.seq ?_
      refine SatC.weak (e' := [(0, _), (2, _), (3, _)]) (by repeat constructor) ?_
      refine SatC.region ?_
      refine SatL.pu (RunV.move rfl) rfl ?_
      refine SatL.op rfl (OpW.enter rfl rfl rfl (rfl) (stat_ref (c := { c with age := c.age + 1, long := c.long + 1 }) hq (hS.ownOf (by repeat constructor))) ?_)
      rintro r5 w5 ⟨rfl, h⟩
      replace hS := St.callN hS h
      refine SatL.pu (RunV.neq rfl rfl) rfl ?_
      refine SatL.nil (SatE.thenC ?_)
      refine SatC.cond rfl (fun h3 => ?_) (fun h3 => ?_)
      · (try simp only [cx, ne_eq, not_and, Int.not_le] at h3)
        try (exfalso; (first | omega | exact h3 trivial | contradiction); done)
        all_goals
        refine SatC.region ?_
        refine SatL.pu (RunV.move rfl) rfl ?_
        first | refine SatL.pu (RunV.nil_ptr rfl) rfl ?_ | refine SatL.pu (RunV.nil_func rfl) rfl ?_ | refine SatL.pu (RunV.nil_yield rfl) rfl ?_
        first | refine SatL.pu (RunV.fieldAddrL rfl rfl rfl) rfl ?_ | refine SatL.pu (RunV.fieldAddr rfl rfl rfl) rfl ?_
        refine SatL.op rfl (OpW.storeMid hS rfl rfl hq (by repeat constructor) (by first | exact ⟨6, by omega, by repeat constructor⟩ | exact ⟨7, by omega, by repeat constructor⟩ | exact ⟨8, by omega, by repeat constructor⟩ | exact ⟨9, by omega, by repeat constructor⟩ | exact ⟨10, by omega, by repeat constructor⟩) rfl rfl ?_)
        clear hS
        intro w6 hS
        refine SatL.nil (SatE.thenC ?_)
        refine SatC.seq ?_
        refine SatC.region ?_
        refine SatL.pu (RunV.move rfl) rfl ?_
        refine SatL.op rfl (OpW.enter rfl rfl rfl (rfl) (stat_ref (c := { c with age := c.age + 1, long := 0 }) hq (hS.ownOf (by repeat constructor))) ?_)
        rintro r7 w7 ⟨rfl, h⟩
        replace hS := St.callN hS h
        refine SatL.pu (RunV.move rfl) rfl ?_
        refine SatL.pu (RunV.neq rfl rfl) rfl ?_
        refine SatL.pu (RunV.assign rfl) rfl ?_
        refine SatL.nil (SatE.thenC ?_)
        refine SatC.ret ?_
        refine SatE.ret1 rfl rfl ?_
        rw [tickA]
        first | rw [tick_of (tick1_a (by omega) (by omega))] | rw [tick_of (tick1_b (by omega) (by omega))] | rw [tick_of (tick1_c (by omega))]
        first
        | (rw [if_pos (by first | assumption | exact h3 | exact h2)]; exact ⟨rfl, hS⟩)
        | (rw [if_neg (by first | assumption | exact h3 | exact h2)]; exact ⟨rfl, hS⟩)
      · (try simp only [cx, ne_eq, not_and, Int.not_le] at h3)
        try (exfalso; (first | omega | exact h3 trivial | contradiction); done)
        all_goals
        refine SatC.skip (SatE.thenC ?_)
        refine SatC.seq ?_
        refine SatC.region ?_
        refine SatL.pu (RunV.move rfl) rfl ?_
        refine SatL.op rfl (OpW.enter rfl rfl rfl (rfl) (stat_ref (c := { c with age := c.age + 1, long := c.long + 1 }) hq (hS.ownOf (by repeat constructor))) ?_)
        rintro r6 w6 ⟨rfl, h⟩
        replace hS := St.callN hS h
        refine SatL.pu (RunV.move rfl) rfl ?_
        refine SatL.pu (RunV.neq rfl rfl) rfl ?_
        refine SatL.pu (RunV.assign rfl) rfl ?_
        refine SatL.nil (SatE.thenC ?_)
        refine SatC.ret ?_
        refine SatE.ret1 rfl rfl ?_
        rw [tickA]
        first | rw [tick_of (tick1_a (by omega) (by omega))] | rw [tick_of (tick1_b (by omega) (by omega))] | rw [tick_of (tick1_c (by omega))]
        first
        | (rw [if_pos (by first | assumption | exact h3 | exact h2)]; exact ⟨rfl, hS⟩)
        | (rw [if_neg (by first | assumption | exact h3 | exact h2)]; exact ⟨rfl, hS⟩)
  · (try simp only [cx, ne_eq, not_and, Int.not_le] at h1)
    try (exfalso; (first | omega | exact h1 trivial | contradiction); done)
    all_goals
    refine SatC.skip (SatE.thenC ?_)
    refine SatC.seq ?_
    refine SatC.region ?_
    refine SatL.pu (RunV.move rfl) rfl ?_
    refine SatL.pu (RunV.move rfl) rfl ?_
    first | refine SatL.pu (RunV.nil_ptr rfl) rfl ?_ | refine SatL.pu (RunV.nil_func rfl) rfl ?_ | refine SatL.pu (RunV.nil_yield rfl) rfl ?_
    first | refine SatL.pu (RunV.fieldAddrL rfl rfl rfl) rfl ?_ | refine SatL.pu (RunV.fieldAddr rfl rfl rfl) rfl ?_
    refine SatL.pu (RunV.load1 hS rfl rfl (by repeat constructor) (by first | exact midget 0 (by omega) hq rfl | exact midget 6 (by omega) hq rfl | exact midget 7 (by omega) hq rfl | exact midget 8 (by omega) hq rfl | exact midget 11 (by omega) hq rfl | exact midget 1 (by omega) hq rfl | exact midget 2 (by omega) hq rfl | exact midget 3 (by omega) hq rfl | exact midget 5 (by omega) hq rfl | exact midget 9 (by omega) hq rfl | exact midget 10 (by omega) hq rfl)) rfl ?_
    refine SatL.pu (RunV.add rfl rfl (by first | exact wrapI64 (by omega) | rfl)) rfl ?_
    first | refine SatL.pu (RunV.nil_ptr rfl) rfl ?_ | refine SatL.pu (RunV.nil_func rfl) rfl ?_ | refine SatL.pu (RunV.nil_yield rfl) rfl ?_
    first | refine SatL.pu (RunV.fieldAddrL rfl rfl rfl) rfl ?_ | refine SatL.pu (RunV.fieldAddr rfl rfl rfl) rfl ?_
    refine SatL.op rfl (OpW.storeMid hS rfl rfl hq (by repeat constructor) (by first | exact ⟨6, by omega, by repeat constructor⟩ | exact ⟨7, by omega, by repeat constructor⟩ | exact ⟨8, by omega, by repeat constructor⟩ | exact ⟨9, by omega, by repeat constructor⟩ | exact ⟨10, by omega, by repeat constructor⟩) rfl rfl ?_)
    clear hS
    intro w2 hS
    refine SatL.nil (SatE.thenC ?_)
    refine SatC.seq ?_
    refine SatC.seq ?_
    refine SatC.weak (e' := [(0, _), (2, _), (3, _)]) (by repeat constructor) ?_
    refine SatC.region ?_
    refine SatL.pu (RunV.move rfl) rfl ?_
    refine SatL.op rfl (OpW.enter rfl rfl rfl (rfl) (stat_ref (c := { c with long := c.long + 1 }) hq (hS.ownOf (by repeat constructor))) ?_)
    rintro r3 w3 ⟨rfl, h⟩
    replace hS := St.callN hS h
    refine SatL.pu (RunV.neq rfl rfl) rfl ?_
    refine SatL.nil (SatE.thenC ?_)
    refine SatC.cond rfl (fun h2 => ?_) (fun h2 => ?_)
    · (try simp only [cx, ne_eq, not_and, Int.not_le] at h2)
      try (exfalso; (first | omega | exact h2 trivial | contradiction); done)
      all_goals
      refine SatC.region ?_
      refine SatL.pu (RunV.move rfl) rfl ?_
      first | refine SatL.pu (RunV.nil_ptr rfl) rfl ?_ | refine SatL.pu (RunV.nil_func rfl) rfl ?_ | refine SatL.pu (RunV.nil_yield rfl) rfl ?_
      first | refine SatL.pu (RunV.fieldAddrL rfl rfl rfl) rfl ?_ | refine SatL.pu (RunV.fieldAddr rfl rfl rfl) rfl ?_
      refine SatL.op rfl (OpW.storeMid hS rfl rfl hq (by repeat constructor) (by first | exact ⟨6, by omega, by repeat constructor⟩ | exact ⟨7, by omega, by repeat constructor⟩ | exact ⟨8, by omega, by repeat constructor⟩ | exact ⟨9, by omega, by repeat constructor⟩ | exact ⟨10, by omega, by repeat constructor⟩) rfl rfl ?_)
      clear hS
      intro w4 hS
      refine SatL.nil (SatE.thenC ?_)
      refine SatC.seq ?_
      refine SatC.region ?_
      refine SatL.pu (RunV.move rfl) rfl ?_
      refine SatL.op rfl (OpW.enter rfl rfl rfl (rfl) (stat_ref (c := { c with long := 0 }) hq (hS.ownOf (by repeat constructor))) ?_)
      rintro r5 w5 ⟨rfl, h⟩
      replace hS := St.callN hS h
      refine SatL.pu (RunV.move rfl) rfl ?_
      refine SatL.pu (RunV.neq rfl rfl) rfl ?_
      refine SatL.pu (RunV.assign rfl) rfl ?_
      refine SatL.nil (SatE.thenC ?_)
      refine SatC.ret ?_
      refine SatE.ret1 rfl rfl ?_
      rw [tickA]
      first | rw [tick_of (tick1_a (by omega) (by omega))] | rw [tick_of (tick1_b (by omega) (by omega))] | rw [tick_of (tick1_c (by omega))]
      first
      | (rw [if_pos (by first | assumption | exact h3 | exact h2)]; exact ⟨rfl, hS⟩)
      | (rw [if_neg (by first | assumption | exact h3 | exact h2)]; exact ⟨rfl, hS⟩)
    · (try simp only [cx, ne_eq, not_and, Int.not_le] at h2)
      try (exfalso; (first | omega | exact h2 trivial | contradiction); done)
      all_goals
      refine SatC.skip (SatE.thenC ?_)
      refine SatC.seq ?_
      refine SatC.region ?_
      refine SatL.pu (RunV.move rfl) rfl ?_
      refine SatL.op rfl (OpW.enter rfl rfl rfl (rfl) (stat_ref (c := { c with long := c.long + 1 }) hq (hS.ownOf (by repeat constructor))) ?_)
      rintro r4 w4 ⟨rfl, h⟩
      replace hS := St.callN hS h
      refine SatL.pu (RunV.move rfl) rfl ?_
      refine SatL.pu (RunV.neq rfl rfl) rfl ?_
      refine SatL.pu (RunV.assign rfl) rfl ?_
      refine SatL.nil (SatE.thenC ?_)
      refine SatC.ret ?_
      refine SatE.ret1 rfl rfl ?_
      rw [tickA]
      first | rw [tick_of (tick1_a (by omega) (by omega))] | rw [tick_of (tick1_b (by omega) (by omega))] | rw [tick_of (tick1_c (by omega))]
      first
      | (rw [if_pos (by first | assumption | exact h3 | exact h2)]; exact ⟨rfl, hS⟩)
      | (rw [if_neg (by first | assumption | exact h3 | exact h2)]; exact ⟨rfl, hS⟩)
end
end Go.Proofs.Ytbnkcagcfbpiiaa
set_option linter.unusedSimpArgs false
set_option linter.unusedVariables false
set_option maxRecDepth 100000
set_option maxHeartbeats 4000000
namespace Go.Proofs.Ytbnkcagcfbpiiaa
open Go.RowKit
structure Ds where
  id : List UInt8
  name : List UInt8
  tags : List (List UInt8)
  port : Int
  tv : Value
structure Dc where
  id : List UInt8
  svc : List UInt8
  note : List UInt8
  h : Ck
structure Dl where
  node : Int
  addr : List UInt8
  sv : List Ds
  ch : List Dc
@[reducible] def dsc (n : Int) (s : Ds) : List Value := [.int .i64 n, str s.id, str s.name, s.tv, .int .i64 s.port, .int .u64 0, .int .u64 0]
@[reducible] def dcc (n : Int) (c : Dc) : List Value := [.int .i64 n, str c.id, str c.svc, str c.note, .int .i64 0, .int .u64 0, .int .u64 0, .int .i64 c.h.p.kind, .int .i64 c.h.p.lasts, .int .i64 c.h.p.up, .int .i64 c.h.p.down, str c.h.p.of, .int .i64 c.h.p.after, .int .i64 c.h.bare, .int .i64 c.h.age, .int .i64 c.h.long, .int .i64 c.h.good, .int .i64 c.h.other, .bool c.h.maint]
structure Dok (b : Nat) (D : Dl) (L : List (Nat × Obj)) : Prop where
  s16 : D.sv.length ≤ 16
  c16 : D.ch.length ≤ 16
  one : ∀ s ∈ D.sv, s.tv.oneCell' = true
  su : (D.sv.map Ds.id).Nodup
  cu : (D.ch.map Dc.id).Nodup
  rep : ∃ sv cv SB CB, Sl 30 7 sv (D.sv.map (dsc D.node)) SB ∧ Sl 87 19 cv (D.ch.map (dcc D.node)) CB ∧ L = (b, C 44 [.int .i64 D.node, str D.addr, sv, cv]) :: (SB ++ CB)
theorem dcc_len (n : Int) (c : Dc) : (dcc n c).length = 19 := rfl
theorem mid_sl {n : Int} {v : Value} {A E : List Dc} {c : Dc} {B : List (Nat × Obj)} (h : Sl 87 19 v ((A ++ c :: E).map (dcc n)) B) : ∃ pre post, B = [(blk B, C 87 (pre ++ (rc c.h ++ post)))] ∧ pre.length = A.length * 19 + 7 ∧ ∀ h', Sl 87 19 v ((A ++ { c with h := h' } :: E).map (dcc n)) [(blk B, C 87 (pre ++ (rc h' ++ post)))] := by
  generalize hr : (A ++ c :: E).map (dcc n) = rows at h
  cases h with
  | nil => simp at hr
  | @own g cap cur rows h1 h2 h3 h4 h5 =>
    subst hr
    have hAl : ((A.map (dcc n)).flatten).length = A.length * 19 := by
      rw [List.length_flatten, List.map_map]
      clear h1 h2 h3 h4 h5
      induction A with
      | nil => rfl
      | cons a l ih => rw [List.map_cons, List.sum_cons, ih, List.length_cons]; show 19 + _ = _; omega
    have hf : ∀ x : Dc, ((A ++ x :: E).map (dcc n)).flatten = ((A.map (dcc n)).flatten ++ [.int .i64 n, str x.id, str x.svc, str x.note, .int .i64 0, .int .u64 0, .int .u64 0]) ++ (rc x.h ++ (E.map (dcc n)).flatten) := fun x => by
      rw [List.map_append, List.map_cons, List.flatten_append, List.flatten_cons]
      simp [List.append_assoc]
    have hcur : cur = ((A ++ c :: E).map (dcc n)).flatten ++ cur.drop (((A ++ c :: E).map (dcc n)).length * 19) := by rw [← h5]; exact (List.take_append_drop _ _).symm
    rw [hf c] at hcur
    generalize hj : cur.drop (((A ++ c :: E).map (dcc n)).length * 19) = junk at hcur
    refine ⟨(A.map (dcc n)).flatten ++ [.int .i64 n, str c.id, str c.svc, str c.note, .int .i64 0, .int .u64 0, .int .u64 0], (E.map (dcc n)).flatten ++ junk, ?_, ?_, fun h' => ?_⟩
    · show [(g, C 87 cur)] = [(g, _)]
      rw [hcur]
      simp [List.append_assoc]
    · rw [List.length_append, hAl]; rfl
    · have hl : ((A ++ c :: E).map (dcc n)).length = ((A ++ ({ c with h := h' } : Dc) :: E).map (dcc n)).length := by simp
      rw [hl] at h3 h5 ⊢
      refine Sl.own (fun r hr => ?_) ?_ h3 h4 ?_
      · obtain ⟨x, _, rfl⟩ := List.mem_map.1 hr; rfl
      · rw [← h2, hcur]
        simp only [List.length_append, List.length_cons, List.length_nil]
        omega
      · have e := hf { c with h := h' }
        have hlen : (((A ++ ({ c with h := h' } : Dc) :: E).map (dcc n)).flatten).length = ((A ++ ({ c with h := h' } : Dc) :: E).map (dcc n)).length * 19 := flat_len (fun r hr => by obtain ⟨x, _, rfl⟩ := List.mem_map.1 hr; rfl)
        rw [← hlen, e]
        rw [show ((A.map (dcc n)).flatten ++ [.int .i64 n, str c.id, str c.svc, str c.note, .int .i64 0, .int .u64 0, .int .u64 0]) ++ (rc h' ++ ((E.map (dcc n)).flatten ++ junk)) = (((A.map (dcc n)).flatten ++ [.int .i64 n, str c.id, str c.svc, str c.note, .int .i64 0, .int .u64 0, .int .u64 0]) ++ (rc h' ++ (E.map (dcc n)).flatten)) ++ junk from by simp [List.append_assoc]]
        exact List.take_left
def Fnd (l : List Dc) (k : List UInt8) (i : Int) : Prop := (i = -1 ∧ gt Dc.id l k = none) ∨ ∃ A c E, l = A ++ c :: E ∧ c.id = k ∧ i = (A.length : Int) ∧ gt Dc.id l k = some c
theorem gt_first {α : Type} {key : α → List UInt8} {l : List α} {k : List UInt8} {i : Nat} {y : α} (hy : l[i]? = some y) (hk : key y = k) (hn : ∀ j z, j < i → l[j]? = some z → ¬ key z = k) : gt key l k = some y := by
  induction l generalizing i with
  | nil => simp at hy
  | cons x l ih =>
    unfold gt
    cases i with
    | zero =>
      simp only [List.getElem?_cons_zero, Option.some.injEq] at hy
      subst hy
      rw [if_pos hk.symm]
    | succ i =>
      rw [if_neg (fun e => hn 0 x (by omega) rfl e.symm)]
      exact ih (by simpa using hy) (fun j z hj hz => hn (j + 1) z (by omega) (by simpa using hz))
theorem gt_no {α : Type} {key : α → List UInt8} {l : List α} {k : List UInt8} (hn : ∀ j z, j < l.length → l[j]? = some z → ¬ key z = k) : gt key l k = none := gt_none.2 fun hm => by
  obtain ⟨z, hz, e⟩ := List.mem_map.1 hm
  obtain ⟨j, hj⟩ := List.getElem?_of_mem hz
  exact hn j z (List.getElem?_eq_some_iff.1 hj).1 hj e
theorem split_get {α : Type} {l : List α} {i : Nat} {y : α} (h : l[i]? = some y) : ∃ A E, l = A ++ y :: E ∧ A.length = i := by
  obtain ⟨hlt, he⟩ := List.getElem?_eq_some_iff.1 h
  obtain ⟨p, x, s, h1, h2⟩ := split_at hlt
  refine ⟨p, s, ?_, h2⟩
  have : y = x := by rw [← he]; simp only [h1]; simp [← h2]
  rw [this]
  exact h1
def dHup (k : List UInt8) (g : Ck → Ck) (l : List Dc) : List Dc := l.map fun c => if c.id = k then { c with h := g c.h } else c
theorem dHup_at {k : List UInt8} {g : Ck → Ck} {A E : List Dc} {c : Dc} (hn : ((A ++ c :: E).map Dc.id).Nodup) (hk : c.id = k) : dHup k g (A ++ c :: E) = A ++ { c with h := g c.h } :: E := by
  rw [List.map_append, List.map_cons, List.nodup_append, List.nodup_cons] at hn
  have e : ∀ l : List Dc, (∀ y ∈ l, ¬ y.id = k) → (l.map fun c => if c.id = k then { c with h := g c.h } else c) = l := by
    intro l hl
    induction l with
    | nil => rfl
    | cons y l ih => rw [List.map_cons, if_neg (hl y List.mem_cons_self), ih fun z hz => hl z (List.mem_cons_of_mem _ hz)]
  unfold dHup
  rw [List.map_append, List.map_cons, if_pos hk, e A (fun y hy h => hn.2.2 y.id (List.mem_map_of_mem hy) c.id List.mem_cons_self (h.trans hk.symm)), e E (fun y hy h => hn.2.1.1 (by rw [hk, ← h]; exact List.mem_map_of_mem hy))]
theorem dHup_ids (k : List UInt8) (g : Ck → Ck) (l : List Dc) : (dHup k g l).map Dc.id = l.map Dc.id := by
  unfold dHup
  rw [List.map_map]
  refine List.map_congr_left fun c _ => ?_
  simp only [Function.comp]
  split <;> rfl
theorem dHup_none {k : List UInt8} {g : Ck → Ck} {l : List Dc} (h : gt Dc.id l k = none) : dHup k g l = l := by
  unfold dHup
  conv => rhs; rw [← List.map_id l]
  refine List.map_congr_left fun c hc => ?_
  rw [if_neg (fun e => gt_none.1 h (by rw [← e]; exact List.mem_map_of_mem hc))]
  rfl
theorem dok_up {b : Nat} {D : Dl} {sv cv : Value} {SB CB : List (Nat × Obj)} {k : List UInt8} {g : Ck → Ck} {A E : List Dc} {c : Dc} (hs16 : D.sv.length ≤ 16) (hc16 : D.ch.length ≤ 16) (hone : ∀ s ∈ D.sv, s.tv.oneCell' = true) (hsu : (D.sv.map Ds.id).Nodup) (hcu : (D.ch.map Dc.id).Nodup) (hsS : Sl 30 7 sv (D.sv.map (dsc D.node)) SB) (hl : D.ch = A ++ c :: E) (hk : c.id = k) (hnew : Sl 87 19 cv ((A ++ { c with h := g c.h } :: E).map (dcc D.node)) CB) :
    Dok b { D with ch := dHup k g D.ch } ((b, C 44 [.int .i64 D.node, str D.addr, sv, cv]) :: (SB ++ CB)) := by
  have e : dHup k g D.ch = A ++ { c with h := g c.h } :: E := by
    rw [hl] at hcu ⊢
    exact dHup_at hcu hk
  refine ⟨hs16, ?_, hone, hsu, ?_, sv, cv, SB, CB, hsS, ?_, rfl⟩
  · show (dHup k g D.ch).length ≤ 16
    rw [dHup, List.length_map]; exact hc16
  · show ((dHup k g D.ch).map Dc.id).Nodup
    rw [dHup_ids]; exact hcu
  · show Sl 87 19 cv ((dHup k g D.ch).map (dcc D.node)) CB
    rw [e]; exact hnew
theorem err_ref (n : Int) (a : List UInt8) (w : World) (hl : a.length ≤ 9223372036854775807) : Ret Try.prog 20 #[.int .i64 n, str a] w fun u w' => u = .int .i64 (if (0 ≤ n ∧ n < 8) ∧ a.length ≤ 32 then 0 else if 0 ≤ n ∧ n < 8 then 3 else 2) ∧ St w [] [] w' := by
  have hS := St.init0 w
  refine Ret.enter Try.func20 Try.ntmps20 rfl rfl ?_
  simp only [argEnv, Nat.reduceAdd]
  refine SatC.seq ?_
  refine SatC.region ?_
  refine SatL.pu (RunV.assign rfl) rfl ?_
  refine SatL.nil (SatE.thenC ?_)
  refine SatC.seq ?_
  refine SatC.seq ?_
  refine SatC.region ?_
  refine SatL.pu (RunV.move rfl) rfl ?_
  refine SatL.pu (RunV.lss rfl rfl) rfl ?_
  refine SatL.pu (RunV.move rfl) rfl ?_
  refine SatL.guard rfl rfl rfl (fun h1 => ?_) (fun h1 => ?_)
  · (try simp only [cx, ne_eq] at h1)
    try (exfalso; (first | omega | exact h1 trivial | contradiction | (first | omega | (simp at h1; done))); done)
    all_goals
    refine SatL.pu (RunV.move rfl) rfl ?_
    refine SatL.guard_y rfl rfl ?_
    refine SatL.pu (RunV.gtr rfl rfl) rfl ?_
    refine SatL.pu (RunV.pick_f rfl rfl) rfl ?_
    refine SatL.nil (SatE.thenC ?_)
    refine SatC.cond rfl (fun h2 => ?_) (fun h2 => ?_)
    · (try simp only [cx, ne_eq] at h2)
      try (exfalso; (first | omega | exact h2 trivial | contradiction | (first | omega | (simp at h2; done))); done)
      all_goals
      refine SatC.seq ?_
      refine SatC.region ?_
      refine SatL.pu (RunV.assign rfl) rfl ?_
      refine SatL.nil (SatE.thenC ?_)
      refine SatC.ret (SatE.then_ret ?_)
      refine SatE.ret1 rfl rfl ?_
      refine ⟨congrArg _ ?_, hS⟩
      first
      | (rw [if_neg (by omega), if_neg (by omega)])
      | (rw [if_neg (by omega), if_pos (by omega)])
      | (rw [if_pos (by omega)])
    · (try simp only [cx, ne_eq] at h2)
      try (exfalso; (first | omega | exact h2 trivial | contradiction | (first | omega | (simp at h2; done))); done)
      all_goals
      refine SatC.skip (SatE.thenC ?_)
      refine SatC.seq ?_
      refine SatC.seq ?_
      refine SatC.region ?_
      refine SatL.pu (RunV.move rfl) rfl ?_
      refine SatL.pu (RunV.lenB rfl rfl) rfl ?_
      refine SatL.pu (RunV.gtr rfl rfl) rfl ?_
      refine SatL.nil (SatE.thenC ?_)
      refine SatC.cond rfl (fun h3 => ?_) (fun h3 => ?_)
      · (try simp only [cx, ne_eq] at h3)
        try (exfalso; (first | omega | exact h3 trivial | contradiction | (first | omega | (simp at h3; done))); done)
        all_goals
        refine SatC.seq ?_
        refine SatC.region ?_
        refine SatL.pu (RunV.assign rfl) rfl ?_
        refine SatL.nil (SatE.thenC ?_)
        refine SatC.ret (SatE.then_ret ?_)
        refine SatE.ret1 rfl rfl ?_
        refine ⟨congrArg _ ?_, hS⟩
        first
        | (rw [if_neg (by omega), if_neg (by omega)])
        | (rw [if_neg (by omega), if_pos (by omega)])
        | (rw [if_pos (by omega)])
      · (try simp only [cx, ne_eq] at h3)
        try (exfalso; (first | omega | exact h3 trivial | contradiction | (first | omega | (simp at h3; done))); done)
        all_goals
        refine SatC.skip (SatE.thenC ?_)
        refine SatC.seq ?_
        refine SatC.region ?_
        refine SatL.pu (RunV.assign rfl) rfl ?_
        refine SatL.nil (SatE.thenC ?_)
        refine SatC.ret ?_
        refine SatE.ret1 rfl rfl ?_
        refine ⟨congrArg _ ?_, hS⟩
        first
        | (rw [if_neg (by omega), if_neg (by omega)])
        | (rw [if_neg (by omega), if_pos (by omega)])
        | (rw [if_pos (by omega)])
  · (try simp only [cx, ne_eq] at h1)
    try (exfalso; (first | omega | exact h1 trivial | contradiction | (first | omega | (simp at h1; done))); done)
    all_goals
    refine SatL.guard_n rfl rfl rfl rfl ?_
    refine SatL.pu (RunV.pick_t rfl rfl) rfl ?_
    refine SatL.nil (SatE.thenC ?_)
    refine SatC.cond_t rfl ?_
    refine SatC.seq ?_
    refine SatC.region ?_
    refine SatL.pu (RunV.assign rfl) rfl ?_
    refine SatL.nil (SatE.thenC ?_)
    refine SatC.ret (SatE.then_ret ?_)
    refine SatE.ret1 rfl rfl ?_
    refine ⟨congrArg _ ?_, hS⟩
    first
    | (rw [if_neg (by omega), if_neg (by omega)])
    | (rw [if_neg (by omega), if_pos (by omega)])
    | (rw [if_pos (by omega)])
section
variable {b : Nat} {D : Dl} {L : List (Nat × Obj)} {w : World}
theorem has_ref (k : List UInt8) (h : Dok b D L) (hown : Own w L) : Ret Try.prog 69 #[.pointer (some ⟨b, 0, none⟩), str k] w fun u w' => u = .bool (gt Ds.id D.sv k).isSome ∧ St w [] [] w' := by
  obtain ⟨hs16, hc16, hone, hsu, hcu, sv, cv, SB, CB, hsS, hsC, rfl⟩ := h
  have hS := St.init hown
  generalize hX : List.map Prod.fst ((b, C 44 [.int .i64 D.node, str D.addr, sv, cv]) :: (SB ++ CB)) = X at hS
  have hro : ∀ {L w'}, St w X (L ++ (b, C 44 [.int .i64 D.node, str D.addr, sv, cv]) :: (SB ++ CB)) w' → St w [] L w' := fun h => St.roL hown (by rw [hX]; exact h.perm List.perm_append_comm) .here
  obtain ⟨vs, hvs⟩ := hsS.slv
  rw [List.length_map] at hvs
  refine Ret.enter Try.func69 Try.ntmps69 rfl rfl ?_
  simp only [argEnv, Nat.reduceAdd]
  refine SatC.seq ?_
  refine SatC.region ?_
  refine SatL.pu (RunV.assign rfl) rfl ?_
  refine SatL.nil (SatE.thenC ?_)
  refine SatC.seq ?_
  refine SatC.seq ?_
  refine SatC.region ?_
  refine SatL.pu (RunV.assign rfl) rfl ?_
  refine SatL.nil (SatE.thenC ?_)
  refine SatC.block ?_
  refine SatC.loopK (G := Nat) (V := fun i => [(5, .int .i64 (i : Int))]) (Cn := [(0, _), (1, _), (4, _)]) (I := fun i w' => i ≤ D.sv.length ∧ (∀ j z, j < i → D.sv[j]? = some z → ¬ z.id = k) ∧ St w X ((b, C 44 [.int .i64 D.node, str D.addr, sv, cv]) :: (SB ++ CB)) w') (μ := fun i => D.sv.length - i) 0 ?_ (by repeat constructor) ?_
  · exact ⟨Nat.zero_le _, fun j z h => by omega, hS⟩
  clear hS
  rintro i w1 ⟨hi, hn, hS⟩
  refine SatC.weak (e' := [(0, _), (1, _), (4, _), (5, _)]) (by repeat constructor) ?_
  refine SatC.seq ?_
  refine SatC.seq ?_
  refine SatC.region ?_
  refine SatL.pu (RunV.move rfl) rfl ?_
  refine SatL.pu (RunV.move rfl) rfl ?_
  first | refine SatL.pu (RunV.nil_ptr rfl) rfl ?_ | refine SatL.pu (RunV.nil_func rfl) rfl ?_ | refine SatL.pu (RunV.nil_yield rfl) rfl ?_
  first | refine SatL.pu (RunV.fieldAddrL rfl rfl rfl) rfl ?_ | refine SatL.pu (RunV.fieldAddr rfl rfl rfl) rfl ?_
  refine SatL.pu (RunV.load1 hS rfl rfl (by repeat constructor) rfl) rfl ?_
  first | refine SatL.pu (RunV.lenR (by assumption) rfl rfl) rfl ?_ | refine SatL.pu (RunV.lenS rfl rfl) rfl ?_
  refine SatL.pu (RunV.lss rfl rfl) rfl ?_
  refine SatL.nil (SatE.thenC ?_)
  refine SatC.cond rfl (fun h1 => ?_) (fun h1 => ?_)
  · (try simp only [cx, ne_eq] at h1)
    try (exfalso; (first | omega | exact h1 trivial | contradiction | (first | omega | (simp at h1; done))); done)
    all_goals
    refine SatC.skip (SatE.thenC ?_)
    refine SatC.seq ?_
    refine SatC.block ?_
    refine SatC.seq ?_
    obtain ⟨y, hy⟩ : ∃ y, D.sv[i]? = some y := ⟨_, List.getElem?_eq_getElem (by omega)⟩
    refine SatC.region ?_
    refine SatL.pu (RunV.move rfl) rfl ?_
    first | refine SatL.pu (RunV.nil_ptr rfl) rfl ?_ | refine SatL.pu (RunV.nil_func rfl) rfl ?_ | refine SatL.pu (RunV.nil_yield rfl) rfl ?_
    first | refine SatL.pu (RunV.fieldAddrL rfl rfl rfl) rfl ?_ | refine SatL.pu (RunV.fieldAddr rfl rfl rfl) rfl ?_
    refine SatL.pu (RunV.load1 hS rfl rfl (by repeat constructor) rfl) rfl ?_
    refine SatL.pu (RunV.move rfl) rfl ?_
    first | refine SatL.pu (RunV.indexR (by assumption) rfl rfl rfl (by omega) (by omega) rfl) rfl ?_ | refine SatL.pu (RunV.indexS rfl rfl rfl (by omega) (by omega) rfl) rfl ?_
    first | refine SatL.pu (RunV.fieldAddrL rfl rfl rfl) rfl ?_ | refine SatL.pu (RunV.fieldAddr rfl rfl rfl) rfl ?_
    refine SatL.pu (RunV.loadR1g i 1 (Sl.rd hsS hS (by repeat constructor)) rfl rfl (by omega) (map_get hy) rfl) rfl ?_
    refine SatL.pu (RunV.move rfl) rfl ?_
    refine SatL.pu (RunV.seql rfl rfl) rfl ?_
    refine SatL.nil (SatE.thenC ?_)
    refine SatC.weak (e' := [(0, _), (1, _), (4, _), (5, _), (24, _)]) (by repeat constructor) ?_
    refine SatC.cond rfl (fun h2 => ?_) (fun h2 => ?_)
    · (try simp only [cx, ne_eq] at h2)
      try (exfalso; (first | omega | exact h2 trivial | contradiction | (first | omega | (simp at h2; done))); done)
      all_goals
      refine SatC.seq ?_
      refine SatC.region ?_
      refine SatL.pu (RunV.assign rfl) rfl ?_
      refine SatL.nil (SatE.thenC ?_)
      refine SatC.ret (SatE.blk_ret (SatE.then_ret (SatE.then_ret (SatE.blk_ret (SatE.then_ret ?_)))))
      refine SatE.ret1 rfl rfl ?_
      exact ⟨by rw [gt_first hy (by assumption) hn]; rfl, hro (L := []) (hS.sel (by repeat constructor))⟩
    · (try simp only [cx, ne_eq] at h2)
      try (exfalso; (first | omega | exact h2 trivial | contradiction | (first | omega | (simp at h2; done))); done)
      all_goals
      refine SatC.skip (SatE.blk_normal (SatE.thenC ?_))
      refine SatC.region ?_
      refine SatL.pu (RunV.move rfl) rfl ?_
      refine SatL.pu (RunV.add rfl rfl (by first | exact wrapI64 (by omega) | rfl)) rfl ?_
      refine SatL.pu (RunV.assign rfl) rfl ?_
      refine SatL.nil ?_
      refine SatE.again (i + 1) ?_ (by first | omega | (dsimp only; omega)) (by repeat constructor)
      refine ⟨by omega, fun j z hj hz => ?_, hS⟩
      rcases Nat.lt_or_ge j i with h' | h'
      · exact hn j z h' hz
      · obtain rfl : j = i := by omega
        rw [hy] at hz
        obtain rfl := Option.some.inj hz
        assumption
  · (try simp only [cx, ne_eq] at h1)
    try (exfalso; (first | omega | exact h1 trivial | contradiction | (first | omega | (simp at h1; done))); done)
    all_goals
    refine SatC.exit (SatE.then_exit (SatE.then_exit (SatE.blk_exit (SatE.thenC ?_))))
    refine SatC.seq ?_
    refine SatC.region ?_
    refine SatL.pu (RunV.assign rfl) rfl ?_
    refine SatL.nil (SatE.thenC ?_)
    refine SatC.ret ?_
    refine SatE.ret1 rfl rfl ?_
    exact ⟨by rw [gt_no (fun j z hj hz => hn j z (by omega) hz)]; rfl, hro (L := []) (hS.sel (by repeat constructor))⟩
theorem find_ref (k : List UInt8) (h : Dok b D L) (hown : Own w L) : Ret Try.prog 45 #[.pointer (some ⟨b, 0, none⟩), str k] w fun u w' => ∃ i, u = .int .i64 i ∧ Fnd D.ch k i ∧ St w [] [] w' := by
  obtain ⟨hs16, hc16, hone, hsu, hcu, sv, cv, SB, CB, hsS, hsC, rfl⟩ := h
  have hS := St.init hown
  generalize hX : List.map Prod.fst ((b, C 44 [.int .i64 D.node, str D.addr, sv, cv]) :: (SB ++ CB)) = X at hS
  have hro : ∀ {L w'}, St w X (L ++ (b, C 44 [.int .i64 D.node, str D.addr, sv, cv]) :: (SB ++ CB)) w' → St w [] L w' := fun h => St.roL hown (by rw [hX]; exact h.perm List.perm_append_comm) .here
  obtain ⟨vs, hvs⟩ := hsC.slv
  rw [List.length_map] at hvs
  refine Ret.enter Try.func45 Try.ntmps45 rfl rfl ?_
  simp only [argEnv, Nat.reduceAdd]
  refine SatC.seq ?_
  refine SatC.region ?_
  refine SatL.pu (RunV.assign rfl) rfl ?_
  refine SatL.nil (SatE.thenC ?_)
  refine SatC.seq ?_
  refine SatC.seq ?_
  refine SatC.region ?_
  refine SatL.pu (RunV.assign rfl) rfl ?_
  refine SatL.nil (SatE.thenC ?_)
  refine SatC.block ?_
  refine SatC.loopK (G := Nat) (V := fun i => [(5, .int .i64 (i : Int))]) (Cn := [(0, _), (1, _), (4, _)]) (I := fun i w' => i ≤ D.ch.length ∧ (∀ j z, j < i → D.ch[j]? = some z → ¬ z.id = k) ∧ St w X ((b, C 44 [.int .i64 D.node, str D.addr, sv, cv]) :: (SB ++ CB)) w') (μ := fun i => D.ch.length - i) 0 ?_ (by repeat constructor) ?_
  · exact ⟨Nat.zero_le _, fun j z h => by omega, hS⟩
  clear hS
  rintro i w1 ⟨hi, hn, hS⟩
  refine SatC.weak (e' := [(0, _), (1, _), (4, _), (5, _)]) (by repeat constructor) ?_
  refine SatC.seq ?_
  refine SatC.seq ?_
  refine SatC.region ?_
  refine SatL.pu (RunV.move rfl) rfl ?_
  refine SatL.pu (RunV.move rfl) rfl ?_
  first | refine SatL.pu (RunV.nil_ptr rfl) rfl ?_ | refine SatL.pu (RunV.nil_func rfl) rfl ?_ | refine SatL.pu (RunV.nil_yield rfl) rfl ?_
  first | refine SatL.pu (RunV.fieldAddrL rfl rfl rfl) rfl ?_ | refine SatL.pu (RunV.fieldAddr rfl rfl rfl) rfl ?_
  refine SatL.pu (RunV.load1 hS rfl rfl (by repeat constructor) rfl) rfl ?_
  first | refine SatL.pu (RunV.lenR (by assumption) rfl rfl) rfl ?_ | refine SatL.pu (RunV.lenS rfl rfl) rfl ?_
  refine SatL.pu (RunV.lss rfl rfl) rfl ?_
  refine SatL.nil (SatE.thenC ?_)
  refine SatC.cond rfl (fun h1 => ?_) (fun h1 => ?_)
  · (try simp only [cx, ne_eq] at h1)
    try (exfalso; (first | omega | exact h1 trivial | contradiction | (first | omega | (simp at h1; done))); done)
    all_goals
    refine SatC.skip (SatE.thenC ?_)
    refine SatC.seq ?_
    refine SatC.block ?_
    refine SatC.seq ?_
    obtain ⟨y, hy⟩ : ∃ y, D.ch[i]? = some y := ⟨_, List.getElem?_eq_getElem (by omega)⟩
    refine SatC.region ?_
    refine SatL.pu (RunV.move rfl) rfl ?_
    first | refine SatL.pu (RunV.nil_ptr rfl) rfl ?_ | refine SatL.pu (RunV.nil_func rfl) rfl ?_ | refine SatL.pu (RunV.nil_yield rfl) rfl ?_
    first | refine SatL.pu (RunV.fieldAddrL rfl rfl rfl) rfl ?_ | refine SatL.pu (RunV.fieldAddr rfl rfl rfl) rfl ?_
    refine SatL.pu (RunV.load1 hS rfl rfl (by repeat constructor) rfl) rfl ?_
    refine SatL.pu (RunV.move rfl) rfl ?_
    first | refine SatL.pu (RunV.indexR (by assumption) rfl rfl rfl (by omega) (by omega) rfl) rfl ?_ | refine SatL.pu (RunV.indexS rfl rfl rfl (by omega) (by omega) rfl) rfl ?_
    first | refine SatL.pu (RunV.fieldAddrL rfl rfl rfl) rfl ?_ | refine SatL.pu (RunV.fieldAddr rfl rfl rfl) rfl ?_
    first | refine SatL.pu (RunV.fieldAddrL rfl rfl rfl) rfl ?_ | refine SatL.pu (RunV.fieldAddr rfl rfl rfl) rfl ?_
    refine SatL.pu (RunV.loadR1g i 1 (Sl.rd hsC hS (by repeat constructor)) rfl rfl (by omega) (map_get hy) rfl) rfl ?_
    refine SatL.pu (RunV.move rfl) rfl ?_
    refine SatL.pu (RunV.seql rfl rfl) rfl ?_
    refine SatL.nil (SatE.thenC ?_)
    refine SatC.weak (e' := [(0, _), (1, _), (4, _), (5, _), (25, _)]) (by repeat constructor) ?_
    refine SatC.cond rfl (fun h2 => ?_) (fun h2 => ?_)
    · (try simp only [cx, ne_eq] at h2)
      try (exfalso; (first | omega | exact h2 trivial | contradiction | (first | omega | (simp at h2; done))); done)
      all_goals
      refine SatC.seq ?_
      refine SatC.region ?_
      refine SatL.pu (RunV.move rfl) rfl ?_
      refine SatL.pu (RunV.assign rfl) rfl ?_
      refine SatL.nil (SatE.thenC ?_)
      refine SatC.ret (SatE.blk_ret (SatE.then_ret (SatE.then_ret (SatE.blk_ret (SatE.then_ret ?_)))))
      refine SatE.ret1 rfl rfl ?_
      obtain ⟨A, E, hl, hA⟩ := split_get hy
      exact ⟨_, rfl, .inr ⟨A, y, E, hl, by assumption, by rw [hA], gt_first hy (by assumption) hn⟩, hro (L := []) (hS.sel (by repeat constructor))⟩
    · (try simp only [cx, ne_eq] at h2)
      try (exfalso; (first | omega | exact h2 trivial | contradiction | (first | omega | (simp at h2; done))); done)
      all_goals
      refine SatC.skip (SatE.blk_normal (SatE.thenC ?_))
      refine SatC.region ?_
      refine SatL.pu (RunV.move rfl) rfl ?_
      refine SatL.pu (RunV.add rfl rfl (by first | exact wrapI64 (by omega) | rfl)) rfl ?_
      refine SatL.pu (RunV.assign rfl) rfl ?_
      refine SatL.nil ?_
      refine SatE.again (i + 1) ?_ (by first | omega | (dsimp only; omega)) (by repeat constructor)
      refine ⟨by omega, fun j z hj hz => ?_, hS⟩
      rcases Nat.lt_or_ge j i with h' | h'
      · exact hn j z h' hz
      · obtain rfl : j = i := by omega
        rw [hy] at hz
        obtain rfl := Option.some.inj hz
        assumption
  · (try simp only [cx, ne_eq] at h1)
    try (exfalso; (first | omega | exact h1 trivial | contradiction | (first | omega | (simp at h1; done))); done)
    all_goals
    refine SatC.exit (SatE.then_exit (SatE.then_exit (SatE.blk_exit (SatE.thenC ?_))))
    refine SatC.seq ?_
    refine SatC.region ?_
    refine SatL.pu (RunV.assign rfl) rfl ?_
    refine SatL.nil (SatE.thenC ?_)
    refine SatC.ret ?_
    refine SatE.ret1 rfl rfl ?_
    exact ⟨_, rfl, .inl ⟨rfl, gt_no (fun j z hj hz => hn j z (by omega) hz)⟩, hro (L := []) (hS.sel (by repeat constructor))⟩
theorem dtold_ref (k : List UInt8) (s : Int) (hbd : ∀ c ∈ D.ch, Bd 1000000 c.h) (h : Dok b D L) (hown : Own w L) : Ret Try.prog 41 #[.pointer (some ⟨b, 0, none⟩), str k, .int .i64 s] w fun u w' => u = .int .i64 (match gt Dc.id D.ch k with | none => 4 | some c => toldA c.h s) ∧ ∃ L', Dok b { D with ch := dHup k (fun c => toldC c s) D.ch } L' ∧ St w (L.map Prod.fst) L' w' := by
  have hw := h
  obtain ⟨hs16, hc16, hone, hsu, hcu, sv, cv, SB, CB, hsS, hsC, rfl⟩ := h
  have hS := St.init hown
  generalize hX : List.map Prod.fst ((b, C 44 [.int .i64 D.node, str D.addr, sv, cv]) :: (SB ++ CB)) = X at hS ⊢
  obtain ⟨vs, hvs⟩ := hsC.slv
  rw [List.length_map] at hvs
  refine Ret.enter Try.func41 Try.ntmps41 rfl rfl ?_
  simp only [argEnv, Nat.reduceAdd]
  refine SatC.seq ?_
  refine SatC.region ?_
  refine SatL.pu (RunV.assign rfl) rfl ?_
  refine SatL.nil (SatE.thenC ?_)
  refine SatC.seq ?_
  refine SatC.region ?_
  refine SatL.pu (RunV.move rfl) rfl ?_
  refine SatL.pu (RunV.move rfl) rfl ?_
  refine SatL.op rfl (OpW.enter rfl rfl rfl (rfl) (find_ref k hw hS.toOwn) ?_)
  rintro r1 w1 ⟨i, rfl, hF, h⟩
  replace hS := St.callN hS h
  refine SatL.pu (RunV.assign rfl) rfl ?_
  refine SatL.nil (SatE.thenC ?_)
  refine SatC.seq ?_
  refine SatC.seq ?_
  refine SatC.region ?_
  refine SatL.pu (RunV.move rfl) rfl ?_
  refine SatL.pu (RunV.lss rfl rfl) rfl ?_
  refine SatL.nil (SatE.thenC ?_)
  refine SatC.cond rfl (fun h1 => ?_) (fun h1 => ?_)
  · (try simp only [cx, ne_eq] at h1)
    try (exfalso; (first | omega | exact h1 trivial | contradiction | (first | omega | (simp at h1; done))); done)
    all_goals
    refine SatC.seq ?_
    rcases hF with ⟨rfl, hg⟩ | ⟨A, c, E, hl, hck, rfl, hg⟩
    rotate_left
    · exfalso; omega
    refine SatC.region ?_
    refine SatL.pu (RunV.assign rfl) rfl ?_
    refine SatL.nil (SatE.thenC ?_)
    refine SatC.ret (SatE.then_ret ?_)
    refine SatE.ret1 rfl rfl ?_
    rw [hg]
    exact ⟨rfl, _, by rw [dHup_none hg]; exact hw, hS.sel (by repeat constructor)⟩
  · (try simp only [cx, ne_eq] at h1)
    try (exfalso; (first | omega | exact h1 trivial | contradiction | (first | omega | (simp at h1; done))); done)
    all_goals
    refine SatC.skip (SatE.thenC ?_)
    refine SatC.seq ?_
    rcases hF with ⟨rfl, hg⟩ | ⟨A, c, E, hl, hck, rfl, hg⟩
    · exfalso; omega
    have hAl : A.length < D.ch.length := by rw [hl]; simp
    have hbc := hbd c (by rw [hl]; simp)
    rw [hl] at hsC
    obtain ⟨pre, post, hCB, hpl, hnew⟩ := mid_sl hsC
    generalize blk CB = gb at hvs hCB hnew
    subst hCB
    refine SatC.region ?_
    refine SatL.pu (RunV.move rfl) rfl ?_
    first | refine SatL.pu (RunV.nil_ptr rfl) rfl ?_ | refine SatL.pu (RunV.nil_func rfl) rfl ?_ | refine SatL.pu (RunV.nil_yield rfl) rfl ?_
    first | refine SatL.pu (RunV.fieldAddrL rfl rfl rfl) rfl ?_ | refine SatL.pu (RunV.fieldAddr rfl rfl rfl) rfl ?_
    refine SatL.pu (RunV.load1 hS rfl rfl (by repeat constructor) rfl) rfl ?_
    refine SatL.pu (RunV.move rfl) rfl ?_
    first | refine SatL.pu (RunV.indexR (by assumption) rfl rfl rfl (by omega) (by omega) rfl) rfl ?_ | refine SatL.pu (RunV.indexS rfl rfl rfl (by omega) (by omega) rfl) rfl ?_
    first | refine SatL.pu (RunV.fieldAddrL rfl rfl rfl) rfl ?_ | refine SatL.pu (RunV.fieldAddr rfl rfl rfl) rfl ?_
    refine SatL.pu (RunV.move rfl) rfl ?_
    refine SatL.op rfl (OpW.enter rfl rfl rfl (rfl) (told_ref s (pre := pre) (post := post) (by omega) (hS.ownT (A := [(gb, C 87 (pre ++ (rc c.h ++ post)))]) (by repeat constructor)) hbc) ?_)
    rintro r2 w2 ⟨rfl, h⟩
    replace hS := hS.callT (A := [(gb, C 87 (pre ++ (rc c.h ++ post)))]) (by repeat constructor) h
    refine SatL.pu (RunV.assign rfl) rfl ?_
    refine SatL.nil (SatE.thenC ?_)
    refine SatC.ret ?_
    refine SatE.ret1 rfl rfl ?_
    rw [hg]
    exact ⟨rfl, _, dok_up hs16 hc16 hone hsu hcu hsS hl hck (hnew (toldC c.h s)), hS.sel (by repeat constructor)⟩
theorem dmnt_ref (k : List UInt8) (on : Bool) (h : Dok b D L) (hown : Own w L) : Ret Try.prog 42 #[.pointer (some ⟨b, 0, none⟩), str k, .bool on] w fun u w' => u = .int .i64 (match gt Dc.id D.ch k with | none => 4 | some _ => 0) ∧ ∃ L', Dok b { D with ch := dHup k (fun c => { c with maint := on }) D.ch } L' ∧ St w (L.map Prod.fst) L' w' := by
  have hw := h
  obtain ⟨hs16, hc16, hone, hsu, hcu, sv, cv, SB, CB, hsS, hsC, rfl⟩ := h
  have hS := St.init hown
  generalize hX : List.map Prod.fst ((b, C 44 [.int .i64 D.node, str D.addr, sv, cv]) :: (SB ++ CB)) = X at hS ⊢
  obtain ⟨vs, hvs⟩ := hsC.slv
  rw [List.length_map] at hvs
  refine Ret.enter Try.func42 Try.ntmps42 rfl rfl ?_
  simp only [argEnv, Nat.reduceAdd]
  refine SatC.seq ?_
  refine SatC.region ?_
  refine SatL.pu (RunV.assign rfl) rfl ?_
  refine SatL.nil (SatE.thenC ?_)
  refine SatC.seq ?_
  refine SatC.region ?_
  refine SatL.pu (RunV.move rfl) rfl ?_
  refine SatL.pu (RunV.move rfl) rfl ?_
  refine SatL.op rfl (OpW.enter rfl rfl rfl (rfl) (find_ref k hw hS.toOwn) ?_)
  rintro r1 w1 ⟨i, rfl, hF, h⟩
  replace hS := St.callN hS h
  refine SatL.pu (RunV.assign rfl) rfl ?_
  refine SatL.nil (SatE.thenC ?_)
  refine SatC.seq ?_
  refine SatC.seq ?_
  refine SatC.region ?_
  refine SatL.pu (RunV.move rfl) rfl ?_
  refine SatL.pu (RunV.lss rfl rfl) rfl ?_
  refine SatL.nil (SatE.thenC ?_)
  refine SatC.cond rfl (fun h1 => ?_) (fun h1 => ?_)
  · (try simp only [cx, ne_eq] at h1)
    try (exfalso; (first | omega | exact h1 trivial | contradiction | (first | omega | (simp at h1; done))); done)
    all_goals
    refine SatC.seq ?_
    rcases hF with ⟨rfl, hg⟩ | ⟨A, c, E, hl, hck, rfl, hg⟩
    rotate_left
    · exfalso; omega
    refine SatC.region ?_
    refine SatL.pu (RunV.assign rfl) rfl ?_
    refine SatL.nil (SatE.thenC ?_)
    refine SatC.ret (SatE.then_ret ?_)
    refine SatE.ret1 rfl rfl ?_
    rw [hg]
    exact ⟨rfl, _, by rw [dHup_none hg]; exact hw, hS.sel (by repeat constructor)⟩
  · (try simp only [cx, ne_eq] at h1)
    try (exfalso; (first | omega | exact h1 trivial | contradiction | (first | omega | (simp at h1; done))); done)
    all_goals
    refine SatC.skip (SatE.thenC ?_)
    refine SatC.seq ?_
    rcases hF with ⟨rfl, hg⟩ | ⟨A, c, E, hl, hck, rfl, hg⟩
    · exfalso; omega
    have hAl : A.length < D.ch.length := by rw [hl]; simp
    rw [hl] at hsC
    obtain ⟨pre, post, hCB, hpl, hnew⟩ := mid_sl hsC
    generalize blk CB = gb at hvs hCB hnew
    subst hCB
    refine SatC.region ?_
    refine SatL.pu (RunV.move rfl) rfl ?_
    first | refine SatL.pu (RunV.nil_ptr rfl) rfl ?_ | refine SatL.pu (RunV.nil_func rfl) rfl ?_ | refine SatL.pu (RunV.nil_yield rfl) rfl ?_
    first | refine SatL.pu (RunV.fieldAddrL rfl rfl rfl) rfl ?_ | refine SatL.pu (RunV.fieldAddr rfl rfl rfl) rfl ?_
    refine SatL.pu (RunV.load1 hS rfl rfl (by repeat constructor) rfl) rfl ?_
    refine SatL.pu (RunV.move rfl) rfl ?_
    refine SatL.pu (RunV.move rfl) rfl ?_
    first | refine SatL.pu (RunV.indexR (by assumption) rfl rfl rfl (by omega) (by omega) rfl) rfl ?_ | refine SatL.pu (RunV.indexS rfl rfl rfl (by omega) (by omega) rfl) rfl ?_
    first | refine SatL.pu (RunV.fieldAddrL rfl rfl rfl) rfl ?_ | refine SatL.pu (RunV.fieldAddr rfl rfl rfl) rfl ?_
    first | refine SatL.pu (RunV.fieldAddrL rfl rfl rfl) rfl ?_ | refine SatL.pu (RunV.fieldAddr rfl rfl rfl) rfl ?_
    refine SatL.op rfl (OpW.storeMid (q := A.length * 19 + 7) (mid := rc c.h) (mid' := rc { c.h with maint := on }) hS rfl rfl hpl (by repeat constructor) ⟨11, by omega, by repeat constructor⟩ rfl rfl ?_)
    clear hS
    intro w2 hS
    refine SatL.nil (SatE.thenC ?_)
    refine SatC.seq ?_
    refine SatC.weak (e' := [(6, _)]) (by repeat constructor) ?_
    refine SatC.region ?_
    refine SatL.pu (RunV.assign rfl) rfl ?_
    refine SatL.nil (SatE.thenC ?_)
    refine SatC.ret ?_
    refine SatE.ret1 rfl rfl ?_
    rw [hg]
    exact ⟨rfl, _, dok_up hs16 hc16 hone hsu hcu hsS hl hck (hnew { c.h with maint := on }), hS.sel (by repeat constructor)⟩
end
end Go.Proofs.Ytbnkcagcfbpiiaa
set_option linter.unusedSimpArgs false
set_option linter.unusedVariables false
set_option maxRecDepth 100000
set_option maxHeartbeats 4000000
namespace Go.Proofs.Ytbnkcagcfbpiiaa
open Go Go.Proofs Go.RowKit
section
variable {P : Program} {N : Nat} {env : Env} {w : World} {ty : TypeId} {pos : String} {af : Array Edge} {g : Option (Nat × Bool)}
/-- Some cells of a row. -/
theorem RunV.loadSeg {t : TypeId} {x : Operand} {b o o0 k n : Nat} {rows : List (List Value)} {r vs : List Value} {dd : Option Nat} (i j0 : Nat) (hc : RdC w b o0 k rows) (hx : evO env x = some (.pointer (some ⟨b, o, none⟩))) (hr : rowSzL P t = some n) (ho : o = o0 + i * k + j0) (hi : rows[i]? = some r) (hv : IsSeg r j0 n vs) :
    RunV P N env w ⟨dd, .load t x, ty, pos, af, g⟩ (.agg vs.toArray) := RunV.loadCN hx (rowSzL_eq hr) hv.spec.1 (fun j v hj => by
      have := (hc i r hi).2 (j0 + j) v (hv.spec.2 j v hj)
      rw [show o + j = o0 + (i * k + (j0 + j)) from by rw [ho]; omega]
      exact this)
end
theorem mid_mem {n : Int} {v : Value} {A E : List Dc} {c : Dc} {B : List (Nat × Obj)} (h : Sl 87 19 v ((A ++ c :: E).map (dcc n)) B) : ∃ pre post, (blk B, C 87 (pre ++ (rc c.h ++ post))) ∈ B ∧ pre.length = A.length * 19 + 7 := by
  obtain ⟨pre, post, h1, h2, _⟩ := mid_sl h
  refine ⟨pre, post, ?_, h2⟩
  generalize blk B = g at h1 ⊢
  rw [h1]
  exact List.mem_singleton_self _
@[reducible] def dcs (n : Int) (c : Dc) : List Value := [.int .i64 n, str c.id, str c.svc, str c.note, .int .i64 (stat c.h), .int .u64 0, .int .u64 0]
/-- The greatest status, in the document's words. -/
def dw (bare : Bool) (sv : List UInt8) : List Dc → Int
  | [] => 0
  | c :: l => if (c.svc = [] ∨ c.svc = sv) ∧ ¬ (bare = true ∧ c.h.p.kind = 3) then max (stat c.h) (dw bare sv l) else dw bare sv l
theorem dw_nn (bare : Bool) (sv : List UInt8) (l : List Dc) : 0 ≤ dw bare sv l := by
  induction l with
  | nil => exact Int.le_refl _
  | cons c l ih => unfold dw; split <;> omega
theorem dw_y {bare : Bool} {sv : List UInt8} {c : Dc} {l : List Dc} (h : (c.svc = [] ∨ c.svc = sv) ∧ ¬ (bare = true ∧ c.h.p.kind = 3)) : dw bare sv (c :: l) = max (stat c.h) (dw bare sv l) := if_pos h
theorem dw_n {bare : Bool} {sv : List UInt8} {c : Dc} {l : List Dc} (h : ¬ ((c.svc = [] ∨ c.svc = sv) ∧ ¬ (bare = true ∧ c.h.p.kind = 3))) : dw bare sv (c :: l) = dw bare sv l := if_neg h
theorem take_y {α : Type} {l : List α} {i : Nat} {y : α} {f : α → Bool} (h : l[i]? = some y) (hf : f y = true) : (l.take (i + 1)).filter f = (l.take i).filter f ++ [y] := by
  rw [List.take_add_one, h, List.filter_append]; simp [hf]
theorem take_n {α : Type} {l : List α} {i : Nat} {y : α} {f : α → Bool} (h : l[i]? = some y) (hf : f y = false) : (l.take (i + 1)).filter f = (l.take i).filter f := by
  rw [List.take_add_one, h, List.filter_append]; simp [hf]
theorem filter_take_len {α : Type} (l : List α) (i : Nat) (f : α → Bool) : ((l.take i).filter f).length ≤ i := Nat.le_trans (List.length_filter_le ..) (by rw [List.length_take]; omega)
section
variable {b : Nat} {D : Dl} {L : List (Nat × Obj)} {w : World}
theorem dchecks_ref (h : Dok b D L) (hown : Own w L) : Ret Try.prog 56 #[.pointer (some ⟨b, 0, none⟩)] w fun u w' => ∃ AB, Sl 32 7 u (D.ch.map (dcs D.node)) AB ∧ St w [] AB w' := by
  obtain ⟨hs16, hc16, hone, hsu, hcu, sv, cv, SB, CB, hsS, hsC, rfl⟩ := h
  have hS := St.init hown
  generalize hX : List.map Prod.fst ((b, C 44 [.int .i64 D.node, str D.addr, sv, cv]) :: (SB ++ CB)) = X at hS
  have hro : ∀ {L w'}, St w X (L ++ (b, C 44 [.int .i64 D.node, str D.addr, sv, cv]) :: (SB ++ CB)) w' → St w [] L w' := fun h => St.roL hown (by rw [hX]; exact h.perm List.perm_append_comm) .here
  obtain ⟨vs, hvs⟩ := hsC.slv
  rw [List.length_map] at hvs
  refine Ret.enter Try.func56 Try.ntmps56 rfl rfl ?_
  simp only [argEnv, Nat.reduceAdd]
  refine SatC.seq ?_
  refine SatC.region ?_
  refine SatL.pu (RunV.assign rfl) rfl ?_
  refine SatL.nil (SatE.thenC ?_)
  refine SatC.seq ?_
  refine SatC.region ?_
  refine SatL.pu (RunV.assign rfl) rfl ?_
  refine SatL.nil (SatE.thenC ?_)
  refine SatC.seq ?_
  refine SatC.seq ?_
  refine SatC.region ?_
  refine SatL.pu (RunV.assign rfl) rfl ?_
  refine SatL.nil (SatE.thenC ?_)
  refine SatC.block ?_
  refine SatC.loopK (G := Nat × Value × List (Nat × Obj)) (V := fun ⟨i, av, AB⟩ => [(4, .int .i64 (i : Int)), (3, av)]) (Cn := [(0, _), (2, _)]) (I := fun ⟨i, av, AB⟩ w' => i ≤ D.ch.length ∧ Sl 32 7 av ((D.ch.take i).map (dcs D.node)) AB ∧ St w X (AB ++ (b, C 44 [.int .i64 D.node, str D.addr, sv, cv]) :: (SB ++ CB)) w') (μ := fun ⟨i, av, AB⟩ => D.ch.length - i) (0, .slice none 0 0, []) ?_ (by repeat constructor) ?_
  · exact ⟨Nat.zero_le _, .nil, hS⟩
  clear hS
  rintro ⟨i, av, AB⟩ w1 ⟨hi, hsa, hS⟩
  refine SatC.weak (e' := [(0, _), (2, _), (3, _), (4, _)]) (by repeat constructor) ?_
  refine SatC.seq ?_
  refine SatC.seq ?_
  refine SatC.region ?_
  refine SatL.pu (RunV.move rfl) rfl ?_
  refine SatL.pu (RunV.move rfl) rfl ?_
  first | refine SatL.pu (RunV.nil_ptr rfl) rfl ?_ | refine SatL.pu (RunV.nil_func rfl) rfl ?_ | refine SatL.pu (RunV.nil_yield rfl) rfl ?_
  first | refine SatL.pu (RunV.fieldAddrL rfl rfl rfl) rfl ?_ | refine SatL.pu (RunV.fieldAddr rfl rfl rfl) rfl ?_
  refine SatL.pu (RunV.load1 hS rfl rfl (by repeat constructor) rfl) rfl ?_
  first | refine SatL.pu (RunV.lenR (by assumption) rfl rfl) rfl ?_ | refine SatL.pu (RunV.lenS rfl rfl) rfl ?_
  refine SatL.pu (RunV.lss rfl rfl) rfl ?_
  refine SatL.nil (SatE.thenC ?_)
  refine SatC.cond rfl (fun h1 => ?_) (fun h1 => ?_)
  · (try simp only [cx, ne_eq] at h1)
    try (exfalso; (first | omega | exact h1 trivial | contradiction | (first | omega | (simp at h1; done))); done)
    all_goals
    refine SatC.skip (SatE.thenC ?_)
    refine SatC.seq ?_
    refine SatC.block ?_
    refine SatC.seq ?_
    obtain ⟨y, hy⟩ : ∃ y, D.ch[i]? = some y := ⟨_, List.getElem?_eq_getElem (by omega)⟩
    obtain ⟨A, E, hl, hA⟩ := split_get hy
    have hsC2 := hsC
    rw [hl] at hsC2
    obtain ⟨pre, post, hmem, hpl⟩ := mid_mem hsC2
    refine SatC.region ?_
    refine SatL.pu (RunV.move rfl) rfl ?_
    first | refine SatL.pu (RunV.nil_ptr rfl) rfl ?_ | refine SatL.pu (RunV.nil_func rfl) rfl ?_ | refine SatL.pu (RunV.nil_yield rfl) rfl ?_
    first | refine SatL.pu (RunV.fieldAddrL rfl rfl rfl) rfl ?_ | refine SatL.pu (RunV.fieldAddr rfl rfl rfl) rfl ?_
    refine SatL.pu (RunV.load1 hS rfl rfl (by repeat constructor) rfl) rfl ?_
    refine SatL.pu (RunV.move rfl) rfl ?_
    first | refine SatL.pu (RunV.indexR (by assumption) rfl rfl rfl (by omega) (by omega) rfl) rfl ?_ | refine SatL.pu (RunV.indexS rfl rfl rfl (by omega) (by omega) rfl) rfl ?_
    first | refine SatL.pu (RunV.fieldAddrL rfl rfl rfl) rfl ?_ | refine SatL.pu (RunV.fieldAddr rfl rfl rfl) rfl ?_
    refine SatL.pu (RunV.loadSeg i 0 (Sl.rd hsC hS (by repeat constructor)) rfl rfl (by omega) (map_get hy) (by repeat constructor)) rfl ?_
    refine SatL.op rfl (OpW.alloc hS rfl rfl (by repeat constructor) ?_)
    clear hS
    intro b5 w2 _ hS
    refine SatL.op rfl (OpW.store hS rfl rfl (by repeat constructor) (by repeat constructor) (by repeat constructor) rfl rfl ?_)
    clear hS
    intro w3 hS
    refine SatL.nil (SatE.thenC ?_)
    refine SatC.seq ?_
    refine SatC.weak (e' := [(0, _), (2, _), (3, _), (4, _), (5, _)]) (by repeat constructor) ?_
    refine SatC.region ?_
    refine SatL.pu (RunV.move rfl) rfl ?_
    first | refine SatL.pu (RunV.nil_ptr rfl) rfl ?_ | refine SatL.pu (RunV.nil_func rfl) rfl ?_ | refine SatL.pu (RunV.nil_yield rfl) rfl ?_
    first | refine SatL.pu (RunV.fieldAddrL rfl rfl rfl) rfl ?_ | refine SatL.pu (RunV.fieldAddr rfl rfl rfl) rfl ?_
    refine SatL.pu (RunV.load1 hS rfl rfl (by repeat constructor) rfl) rfl ?_
    refine SatL.pu (RunV.move rfl) rfl ?_
    first | refine SatL.pu (RunV.indexR (by assumption) rfl rfl rfl (by omega) (by omega) rfl) rfl ?_ | refine SatL.pu (RunV.indexS rfl rfl rfl (by omega) (by omega) rfl) rfl ?_
    first | refine SatL.pu (RunV.fieldAddrL rfl rfl rfl) rfl ?_ | refine SatL.pu (RunV.fieldAddr rfl rfl rfl) rfl ?_
    refine SatL.op rfl (OpW.enter rfl rfl rfl (rfl) (stat_ref (c := y.h) (pre := pre) (post := post) (by omega) (own1 (p := (blk CB, C 87 (pre ++ (rc y.h ++ post)))) hS (by simp only [List.mem_cons, List.mem_append, hmem, or_true]))) ?_)
    rintro r4 w4 ⟨rfl, h⟩
    replace hS := St.callN hS h
    first | refine SatL.pu (RunV.fieldAddrL rfl rfl rfl) rfl ?_ | refine SatL.pu (RunV.fieldAddr rfl rfl rfl) rfl ?_
    refine SatL.op rfl (OpW.store hS rfl rfl (by repeat constructor) (by repeat constructor) (by repeat constructor) rfl rfl ?_)
    clear hS
    intro w5 hS
    refine SatL.nil (SatE.thenC ?_)
    refine SatC.region ?_
    refine SatL.pu (RunV.move rfl) rfl ?_
    refine SatL.pu (RunV.loadN hS rfl rfl (by repeat constructor) (by repeat constructor)) rfl ?_
    refine SatL.op rfl (OpW.buildSlice1 hS rfl rfl rfl rfl rfl (by repeat constructor) rfl rfl rfl ?_)
    clear hS
    intro b34 w6 _ hS
    refine SatL.op rfl (OpW.append1 hsa hS (by repeat constructor) rfl rfl (by repeat constructor) rfl rfl rfl rfl rfl rfl rfl rfl (by rw [List.length_map, List.length_take]; omega) rfl ?_)
    clear hS
    intro v35 B35 w7 hsl35 hS
    refine SatL.pu (RunV.assign rfl) rfl ?_
    refine SatL.nil (SatE.blk_normal (SatE.thenC ?_))
    refine SatC.weak (e' := [(0, _), (2, _), (3, _), (4, _)]) (by repeat constructor) ?_
    refine SatC.region ?_
    refine SatL.pu (RunV.move rfl) rfl ?_
    refine SatL.pu (RunV.add rfl rfl (by first | exact wrapI64 (by omega) | rfl)) rfl ?_
    refine SatL.pu (RunV.assign rfl) rfl ?_
    refine SatL.nil ?_
    refine SatE.again ((i + 1, v35, B35)) ?_ (by first | omega | (dsimp only; omega)) (by repeat constructor)
    refine ⟨by omega, ?_, hS.sel (by repeat constructor)⟩
    rw [List.take_add_one, hy, List.map_append]
    exact hsl35
  · (try simp only [cx, ne_eq] at h1)
    try (exfalso; (first | omega | exact h1 trivial | contradiction | (first | omega | (simp at h1; done))); done)
    all_goals
    refine SatC.exit (SatE.then_exit (SatE.then_exit (SatE.blk_exit (SatE.thenC ?_))))
    refine SatC.seq ?_
    refine SatC.region ?_
    refine SatL.pu (RunV.move rfl) rfl ?_
    refine SatL.pu (RunV.assign rfl) rfl ?_
    refine SatL.nil (SatE.thenC ?_)
    refine SatC.ret ?_
    refine SatE.ret1 rfl rfl ?_
    exact ⟨AB, by rw [List.take_of_length_le (by omega)] at hsa; exact hsa, hro (L := AB) (hS.sel (by repeat constructor))⟩
theorem dhealth_ref (k : List UInt8) (bare : Bool) (h : Dok b D L) (hown : Own w L) : Ret Try.prog 18 #[.pointer (some ⟨b, 0, none⟩), str k, .bool bare] w fun u w' => u = .int .i64 (dw bare k D.ch) ∧ St w [] [] w' := by
  obtain ⟨hs16, hc16, hone, hsu, hcu, sv, cv, SB, CB, hsS, hsC, rfl⟩ := h
  have hS := St.init hown
  generalize hX : List.map Prod.fst ((b, C 44 [.int .i64 D.node, str D.addr, sv, cv]) :: (SB ++ CB)) = X at hS
  have hro : ∀ {L w'}, St w X (L ++ (b, C 44 [.int .i64 D.node, str D.addr, sv, cv]) :: (SB ++ CB)) w' → St w [] L w' := fun h => St.roL hown (by rw [hX]; exact h.perm List.perm_append_comm) .here
  obtain ⟨vs, hvs⟩ := hsC.slv
  rw [List.length_map] at hvs
  have hnn := dw_nn bare k D.ch
  refine Ret.enter Try.func18 Try.ntmps18 rfl rfl ?_
  simp only [argEnv, Nat.reduceAdd]
  refine SatC.seq ?_
  refine SatC.region ?_
  refine SatL.pu (RunV.assign rfl) rfl ?_
  refine SatL.nil (SatE.thenC ?_)
  refine SatC.seq ?_
  refine SatC.region ?_
  refine SatL.pu (RunV.assign rfl) rfl ?_
  refine SatL.nil (SatE.thenC ?_)
  refine SatC.seq ?_
  refine SatC.seq ?_
  refine SatC.region ?_
  refine SatL.pu (RunV.assign rfl) rfl ?_
  refine SatL.nil (SatE.thenC ?_)
  refine SatC.block ?_
  refine SatC.loopK (G := Nat × Int) (V := fun ⟨i, wv⟩ => [(8, .int .i64 (i : Int)), (7, .int .i64 wv)]) (Cn := [(0, _), (1, _), (2, _), (6, _)]) (I := fun ⟨i, wv⟩ w' => i ≤ D.ch.length ∧ 0 ≤ wv ∧ max wv (dw bare k (D.ch.drop i)) = dw bare k D.ch ∧ St w X ((b, C 44 [.int .i64 D.node, str D.addr, sv, cv]) :: (SB ++ CB)) w') (μ := fun ⟨i, wv⟩ => D.ch.length - i) (0, 0) ?_ (by repeat constructor) ?_
  · exact ⟨Nat.zero_le _, by omega, by rw [List.drop_zero]; omega, hS⟩
  clear hS
  rintro ⟨i, wv⟩ w1 ⟨hi, hw0, hmx, hS⟩
  refine SatC.weak (e' := [(0, _), (1, _), (2, _), (6, _), (7, _), (8, _)]) (by repeat constructor) ?_
  refine SatC.seq ?_
  refine SatC.seq ?_
  refine SatC.region ?_
  refine SatL.pu (RunV.move rfl) rfl ?_
  refine SatL.pu (RunV.move rfl) rfl ?_
  first | refine SatL.pu (RunV.nil_ptr rfl) rfl ?_ | refine SatL.pu (RunV.nil_func rfl) rfl ?_ | refine SatL.pu (RunV.nil_yield rfl) rfl ?_
  first | refine SatL.pu (RunV.fieldAddrL rfl rfl rfl) rfl ?_ | refine SatL.pu (RunV.fieldAddr rfl rfl rfl) rfl ?_
  refine SatL.pu (RunV.load1 hS rfl rfl (by repeat constructor) rfl) rfl ?_
  first | refine SatL.pu (RunV.lenR (by assumption) rfl rfl) rfl ?_ | refine SatL.pu (RunV.lenS rfl rfl) rfl ?_
  refine SatL.pu (RunV.lss rfl rfl) rfl ?_
  refine SatL.nil (SatE.thenC ?_)
  refine SatC.cond rfl (fun h1 => ?_) (fun h1 => ?_)
  · (try simp only [cx, ne_eq] at h1)
    try (exfalso; (first | omega | exact h1 trivial | contradiction | (first | omega | (simp at h1; done))); done)
    all_goals
    refine SatC.skip (SatE.thenC ?_)
    refine SatC.seq ?_
    refine SatC.block ?_
    refine SatC.seq ?_
    obtain ⟨y, hy⟩ : ∃ y, D.ch[i]? = some y := ⟨_, List.getElem?_eq_getElem (by omega)⟩
    rw [List.drop_eq_getElem_cons (by omega : i < D.ch.length), show D.ch[i] = y from by rw [List.getElem?_eq_getElem (by omega)] at hy; exact Option.some.inj hy] at hmx
    refine SatC.region ?_
    refine SatL.pu (RunV.move rfl) rfl ?_
    first | refine SatL.pu (RunV.nil_ptr rfl) rfl ?_ | refine SatL.pu (RunV.nil_func rfl) rfl ?_ | refine SatL.pu (RunV.nil_yield rfl) rfl ?_
    first | refine SatL.pu (RunV.fieldAddrL rfl rfl rfl) rfl ?_ | refine SatL.pu (RunV.fieldAddr rfl rfl rfl) rfl ?_
    refine SatL.pu (RunV.load1 hS rfl rfl (by repeat constructor) rfl) rfl ?_
    refine SatL.pu (RunV.move rfl) rfl ?_
    first | refine SatL.pu (RunV.indexR (by assumption) rfl rfl rfl (by omega) (by omega) rfl) rfl ?_ | refine SatL.pu (RunV.indexS rfl rfl rfl (by omega) (by omega) rfl) rfl ?_
    refine SatL.pu (RunV.loadRNz (Sl.rd hsC hS (by repeat constructor)) rfl rfl (map_get hy)) rfl ?_
    refine SatL.op rfl (OpW.alloc hS rfl rfl (by repeat constructor) ?_)
    clear hS
    intro b9 w2 _ hS
    refine SatL.op rfl (OpW.store hS rfl rfl (by repeat constructor) (by repeat constructor) (by repeat constructor) rfl rfl ?_)
    clear hS
    intro w3 hS
    refine SatL.nil (SatE.thenC ?_)
    refine SatC.seq ?_
    refine SatC.seq ?_
    refine SatC.weak (e' := [(0, _), (1, _), (2, _), (6, _), (7, _), (8, _), (9, _)]) (by repeat constructor) ?_
    refine SatC.region ?_
    first | refine SatL.pu (RunV.fieldAddrL rfl rfl rfl) rfl ?_ | refine SatL.pu (RunV.fieldAddr rfl rfl rfl) rfl ?_
    first | refine SatL.pu (RunV.fieldAddrL rfl rfl rfl) rfl ?_ | refine SatL.pu (RunV.fieldAddr rfl rfl rfl) rfl ?_
    refine SatL.pu (RunV.load1 hS rfl rfl (by repeat constructor) rfl) rfl ?_
    refine SatL.pu (RunV.sneq rfl rfl) rfl ?_
    refine SatL.pu (RunV.move rfl) rfl ?_
    refine SatL.guard rfl rfl rfl (fun h2 => ?_) (fun h2 => ?_)
    · (try simp only [cx, ne_eq] at h2)
      try (exfalso; (first | omega | exact h2 trivial | contradiction | (first | omega | (simp at h2; done))); done)
      all_goals
      first | refine SatL.pu (RunV.fieldAddrL rfl rfl rfl) rfl ?_ | refine SatL.pu (RunV.fieldAddr rfl rfl rfl) rfl ?_
      refine SatL.guard_y rfl rfl ?_
      first | refine SatL.pu (RunV.fieldAddrL rfl rfl rfl) rfl ?_ | refine SatL.pu (RunV.fieldAddr rfl rfl rfl) rfl ?_
      refine SatL.guard_y rfl rfl ?_
      refine SatL.pu (RunV.load1 hS rfl rfl (by repeat constructor) rfl) rfl ?_
      refine SatL.guard_y rfl rfl ?_
      refine SatL.pu (RunV.move rfl) rfl ?_
      refine SatL.guard_y rfl rfl ?_
      refine SatL.pu (RunV.sneq rfl rfl) rfl ?_
      refine SatL.pu (RunV.pick_t rfl rfl) rfl ?_
      refine SatL.pu (RunV.move rfl) rfl ?_
      refine SatL.guard rfl rfl rfl (fun h3 => ?_) (fun h3 => ?_)
      · (try simp only [cx, ne_eq] at h3)
        try (exfalso; (first | omega | exact h3 trivial | contradiction | (first | omega | (simp at h3; done))); done)
        all_goals
        refine SatL.pu (RunV.move rfl) rfl ?_
        refine SatL.guard_y rfl rfl ?_
        refine SatL.pu (RunV.move rfl) rfl ?_
        refine SatL.guard rfl rfl rfl (fun h4 => ?_) (fun h4 => ?_)
        · (try simp only [cx, ne_eq] at h4)
          try (exfalso; (first | omega | exact h4 trivial | contradiction | (first | omega | (simp at h4; done))); done)
          all_goals
          first | refine SatL.pu (RunV.fieldAddrL rfl rfl rfl) rfl ?_ | refine SatL.pu (RunV.fieldAddr rfl rfl rfl) rfl ?_
          refine SatL.guard_y rfl rfl ?_
          first | refine SatL.pu (RunV.fieldAddrL rfl rfl rfl) rfl ?_ | refine SatL.pu (RunV.fieldAddr rfl rfl rfl) rfl ?_
          refine SatL.guard_y rfl rfl ?_
          first | refine SatL.pu (RunV.fieldAddrL rfl rfl rfl) rfl ?_ | refine SatL.pu (RunV.fieldAddr rfl rfl rfl) rfl ?_
          refine SatL.guard_y rfl rfl ?_
          refine SatL.pu (RunV.load1 hS rfl rfl (by repeat constructor) rfl) rfl ?_
          refine SatL.guard_y rfl rfl ?_
          refine SatL.pu (RunV.eql rfl rfl) rfl ?_
          refine SatL.guard_y rfl rfl ?_
          refine SatL.pu (RunV.pick_t rfl rfl) rfl ?_
          refine SatL.pu (RunV.pick_f rfl rfl) rfl ?_
          refine SatL.nil (SatE.thenC ?_)
          refine SatC.weak (e' := [(0, _), (1, _), (2, _), (6, _), (7, _), (8, _), (9, _), (46, _)]) (by repeat constructor) ?_
          refine SatC.cond rfl (fun h5 => ?_) (fun h5 => ?_)
          · (try simp only [cx, ne_eq] at h5)
            try (exfalso; (first | omega | exact h5 trivial | contradiction | (first | omega | (simp at h5; done))); done)
            all_goals
            refine SatC.exit (SatE.then_exit (SatE.blk_exit (SatE.thenC ?_)))
            refine SatC.region ?_
            refine SatL.pu (RunV.move rfl) rfl ?_
            refine SatL.pu (RunV.add rfl rfl (by first | exact wrapI64 (by omega) | rfl)) rfl ?_
            refine SatL.pu (RunV.assign rfl) rfl ?_
            refine SatL.nil ?_
            by_cases hd : (y.svc = [] ∨ y.svc = k) ∧ ¬ (bare = true ∧ y.h.p.kind = 3)
            · rw [dw_y hd] at hmx
              first
              | (exfalso; clear hS hro; simp_all; done)
              | exact SatE.again (i + 1, stat y.h) ⟨by omega, by omega, by omega, hS.sel (by repeat constructor)⟩ (by dsimp only; omega) (by repeat constructor)
              | exact SatE.again (i + 1, wv) ⟨by omega, by omega, by omega, hS.sel (by repeat constructor)⟩ (by dsimp only; omega) (by repeat constructor)
            · rw [dw_n hd] at hmx
              first
              | (exfalso; clear hS hro; simp_all; done)
              | exact SatE.again (i + 1, wv) ⟨by omega, by omega, by omega, hS.sel (by repeat constructor)⟩ (by dsimp only; omega) (by repeat constructor)
          · (try simp only [cx, ne_eq] at h5)
            try (exfalso; (first | omega | exact h5 trivial | contradiction | (first | omega | (simp at h5; done))); done)
            all_goals
            refine SatC.skip (SatE.thenC ?_)
            refine SatC.seq ?_
            refine SatC.region ?_
            first | refine SatL.pu (RunV.fieldAddrL rfl rfl rfl) rfl ?_ | refine SatL.pu (RunV.fieldAddr rfl rfl rfl) rfl ?_
            refine SatL.op rfl (OpW.enter rfl rfl rfl (rfl) (stat_ref (c := y.h) (pre := [.int .i64 D.node, str y.id, str y.svc, str y.note, .int .i64 0, .int .u64 0, .int .u64 0]) (post := []) rfl (own1 (p := (b9, C 87 (dcc D.node y))) hS (by simp))) ?_)
            rintro r4 w4 ⟨rfl, h⟩
            replace hS := St.callN hS h
            refine SatL.pu (RunV.move rfl) rfl ?_
            refine SatL.pu (RunV.gtr rfl rfl) rfl ?_
            refine SatL.nil (SatE.thenC ?_)
            refine SatC.cond rfl (fun h6 => ?_) (fun h6 => ?_)
            · (try simp only [cx, ne_eq] at h6)
              try (exfalso; (first | omega | exact h6 trivial | contradiction | (first | omega | (simp at h6; done))); done)
              all_goals
              refine SatC.region ?_
              first | refine SatL.pu (RunV.fieldAddrL rfl rfl rfl) rfl ?_ | refine SatL.pu (RunV.fieldAddr rfl rfl rfl) rfl ?_
              refine SatL.op rfl (OpW.enter rfl rfl rfl (rfl) (stat_ref (c := y.h) (pre := [.int .i64 D.node, str y.id, str y.svc, str y.note, .int .i64 0, .int .u64 0, .int .u64 0]) (post := []) rfl (own1 (p := (b9, C 87 (dcc D.node y))) hS (by simp))) ?_)
              rintro r5 w5 ⟨rfl, h⟩
              replace hS := St.callN hS h
              refine SatL.pu (RunV.assign rfl) rfl ?_
              refine SatL.nil (SatE.blk_normal (SatE.thenC ?_))
              refine SatC.region ?_
              refine SatL.pu (RunV.move rfl) rfl ?_
              refine SatL.pu (RunV.add rfl rfl (by first | exact wrapI64 (by omega) | rfl)) rfl ?_
              refine SatL.pu (RunV.assign rfl) rfl ?_
              refine SatL.nil ?_
              by_cases hd : (y.svc = [] ∨ y.svc = k) ∧ ¬ (bare = true ∧ y.h.p.kind = 3)
              · rw [dw_y hd] at hmx
                first
                | (exfalso; clear hS hro; simp_all; done)
                | exact SatE.again (i + 1, stat y.h) ⟨by omega, by omega, by omega, hS.sel (by repeat constructor)⟩ (by dsimp only; omega) (by repeat constructor)
                | exact SatE.again (i + 1, wv) ⟨by omega, by omega, by omega, hS.sel (by repeat constructor)⟩ (by dsimp only; omega) (by repeat constructor)
              · rw [dw_n hd] at hmx
                first
                | (exfalso; clear hS hro; simp_all; done)
                | exact SatE.again (i + 1, wv) ⟨by omega, by omega, by omega, hS.sel (by repeat constructor)⟩ (by dsimp only; omega) (by repeat constructor)
            · (try simp only [cx, ne_eq] at h6)
              try (exfalso; (first | omega | exact h6 trivial | contradiction | (first | omega | (simp at h6; done))); done)
              all_goals
              refine SatC.skip (SatE.blk_normal (SatE.thenC ?_))
              refine SatC.region ?_
              refine SatL.pu (RunV.move rfl) rfl ?_
              refine SatL.pu (RunV.add rfl rfl (by first | exact wrapI64 (by omega) | rfl)) rfl ?_
              refine SatL.pu (RunV.assign rfl) rfl ?_
              refine SatL.nil ?_
              by_cases hd : (y.svc = [] ∨ y.svc = k) ∧ ¬ (bare = true ∧ y.h.p.kind = 3)
              · rw [dw_y hd] at hmx
                first
                | (exfalso; clear hS hro; simp_all; done)
                | exact SatE.again (i + 1, stat y.h) ⟨by omega, by omega, by omega, hS.sel (by repeat constructor)⟩ (by dsimp only; omega) (by repeat constructor)
                | exact SatE.again (i + 1, wv) ⟨by omega, by omega, by omega, hS.sel (by repeat constructor)⟩ (by dsimp only; omega) (by repeat constructor)
              · rw [dw_n hd] at hmx
                first
                | (exfalso; clear hS hro; simp_all; done)
                | exact SatE.again (i + 1, wv) ⟨by omega, by omega, by omega, hS.sel (by repeat constructor)⟩ (by dsimp only; omega) (by repeat constructor)
        · (try simp only [cx, ne_eq] at h4)
          try (exfalso; (first | omega | exact h4 trivial | contradiction | (first | omega | (simp at h4; done))); done)
          all_goals
          refine SatL.guard_n rfl rfl rfl rfl ?_
          refine SatL.guard_n rfl rfl rfl rfl ?_
          refine SatL.guard_n rfl rfl rfl rfl ?_
          refine SatL.guard_n rfl rfl rfl rfl ?_
          refine SatL.guard_y rfl rfl ?_
          refine SatL.pu (RunV.pick_f rfl rfl) rfl ?_
          refine SatL.pu (RunV.pick_f rfl rfl) rfl ?_
          refine SatL.nil (SatE.thenC ?_)
          refine SatC.weak (e' := [(0, _), (1, _), (2, _), (6, _), (7, _), (8, _), (9, _), (46, _)]) (by repeat constructor) ?_
          refine SatC.cond_f rfl ?_
          refine SatC.skip (SatE.thenC ?_)
          refine SatC.seq ?_
          refine SatC.region ?_
          first | refine SatL.pu (RunV.fieldAddrL rfl rfl rfl) rfl ?_ | refine SatL.pu (RunV.fieldAddr rfl rfl rfl) rfl ?_
          refine SatL.op rfl (OpW.enter rfl rfl rfl (rfl) (stat_ref (c := y.h) (pre := [.int .i64 D.node, str y.id, str y.svc, str y.note, .int .i64 0, .int .u64 0, .int .u64 0]) (post := []) rfl (own1 (p := (b9, C 87 (dcc D.node y))) hS (by simp))) ?_)
          rintro r4 w4 ⟨rfl, h⟩
          replace hS := St.callN hS h
          refine SatL.pu (RunV.move rfl) rfl ?_
          refine SatL.pu (RunV.gtr rfl rfl) rfl ?_
          refine SatL.nil (SatE.thenC ?_)
          refine SatC.cond rfl (fun h5 => ?_) (fun h5 => ?_)
          · (try simp only [cx, ne_eq] at h5)
            try (exfalso; (first | omega | exact h5 trivial | contradiction | (first | omega | (simp at h5; done))); done)
            all_goals
            refine SatC.region ?_
            first | refine SatL.pu (RunV.fieldAddrL rfl rfl rfl) rfl ?_ | refine SatL.pu (RunV.fieldAddr rfl rfl rfl) rfl ?_
            refine SatL.op rfl (OpW.enter rfl rfl rfl (rfl) (stat_ref (c := y.h) (pre := [.int .i64 D.node, str y.id, str y.svc, str y.note, .int .i64 0, .int .u64 0, .int .u64 0]) (post := []) rfl (own1 (p := (b9, C 87 (dcc D.node y))) hS (by simp))) ?_)
            rintro r5 w5 ⟨rfl, h⟩
            replace hS := St.callN hS h
            refine SatL.pu (RunV.assign rfl) rfl ?_
            refine SatL.nil (SatE.blk_normal (SatE.thenC ?_))
            refine SatC.region ?_
            refine SatL.pu (RunV.move rfl) rfl ?_
            refine SatL.pu (RunV.add rfl rfl (by first | exact wrapI64 (by omega) | rfl)) rfl ?_
            refine SatL.pu (RunV.assign rfl) rfl ?_
            refine SatL.nil ?_
            by_cases hd : (y.svc = [] ∨ y.svc = k) ∧ ¬ (bare = true ∧ y.h.p.kind = 3)
            · rw [dw_y hd] at hmx
              first
              | (exfalso; clear hS hro; simp_all; done)
              | exact SatE.again (i + 1, stat y.h) ⟨by omega, by omega, by omega, hS.sel (by repeat constructor)⟩ (by dsimp only; omega) (by repeat constructor)
              | exact SatE.again (i + 1, wv) ⟨by omega, by omega, by omega, hS.sel (by repeat constructor)⟩ (by dsimp only; omega) (by repeat constructor)
            · rw [dw_n hd] at hmx
              first
              | (exfalso; clear hS hro; simp_all; done)
              | exact SatE.again (i + 1, wv) ⟨by omega, by omega, by omega, hS.sel (by repeat constructor)⟩ (by dsimp only; omega) (by repeat constructor)
          · (try simp only [cx, ne_eq] at h5)
            try (exfalso; (first | omega | exact h5 trivial | contradiction | (first | omega | (simp at h5; done))); done)
            all_goals
            refine SatC.skip (SatE.blk_normal (SatE.thenC ?_))
            refine SatC.region ?_
            refine SatL.pu (RunV.move rfl) rfl ?_
            refine SatL.pu (RunV.add rfl rfl (by first | exact wrapI64 (by omega) | rfl)) rfl ?_
            refine SatL.pu (RunV.assign rfl) rfl ?_
            refine SatL.nil ?_
            by_cases hd : (y.svc = [] ∨ y.svc = k) ∧ ¬ (bare = true ∧ y.h.p.kind = 3)
            · rw [dw_y hd] at hmx
              first
              | (exfalso; clear hS hro; simp_all; done)
              | exact SatE.again (i + 1, stat y.h) ⟨by omega, by omega, by omega, hS.sel (by repeat constructor)⟩ (by dsimp only; omega) (by repeat constructor)
              | exact SatE.again (i + 1, wv) ⟨by omega, by omega, by omega, hS.sel (by repeat constructor)⟩ (by dsimp only; omega) (by repeat constructor)
            · rw [dw_n hd] at hmx
              first
              | (exfalso; clear hS hro; simp_all; done)
              | exact SatE.again (i + 1, wv) ⟨by omega, by omega, by omega, hS.sel (by repeat constructor)⟩ (by dsimp only; omega) (by repeat constructor)
      · (try simp only [cx, ne_eq] at h3)
        try (exfalso; (first | omega | exact h3 trivial | contradiction | (first | omega | (simp at h3; done))); done)
        all_goals
        refine SatL.guard_n rfl rfl rfl rfl ?_
        refine SatL.guard_u rfl rfl rfl ?_
        refine SatL.guard_u rfl rfl rfl ?_
        refine SatL.guard_u rfl rfl rfl ?_
        refine SatL.guard_u rfl rfl rfl ?_
        refine SatL.guard_u rfl rfl rfl ?_
        refine SatL.guard_n rfl rfl rfl rfl ?_
        refine SatL.pu (RunV.pick_t rfl rfl) rfl ?_
        refine SatL.nil (SatE.thenC ?_)
        refine SatC.weak (e' := [(0, _), (1, _), (2, _), (6, _), (7, _), (8, _), (9, _), (46, _)]) (by repeat constructor) ?_
        refine SatC.cond_t rfl ?_
        refine SatC.exit (SatE.then_exit (SatE.blk_exit (SatE.thenC ?_)))
        refine SatC.region ?_
        refine SatL.pu (RunV.move rfl) rfl ?_
        refine SatL.pu (RunV.add rfl rfl (by first | exact wrapI64 (by omega) | rfl)) rfl ?_
        refine SatL.pu (RunV.assign rfl) rfl ?_
        refine SatL.nil ?_
        by_cases hd : (y.svc = [] ∨ y.svc = k) ∧ ¬ (bare = true ∧ y.h.p.kind = 3)
        · rw [dw_y hd] at hmx
          first
          | (exfalso; clear hS hro; simp_all; done)
          | exact SatE.again (i + 1, stat y.h) ⟨by omega, by omega, by omega, hS.sel (by repeat constructor)⟩ (by dsimp only; omega) (by repeat constructor)
          | exact SatE.again (i + 1, wv) ⟨by omega, by omega, by omega, hS.sel (by repeat constructor)⟩ (by dsimp only; omega) (by repeat constructor)
        · rw [dw_n hd] at hmx
          first
          | (exfalso; clear hS hro; simp_all; done)
          | exact SatE.again (i + 1, wv) ⟨by omega, by omega, by omega, hS.sel (by repeat constructor)⟩ (by dsimp only; omega) (by repeat constructor)
    · (try simp only [cx, ne_eq] at h2)
      try (exfalso; (first | omega | exact h2 trivial | contradiction | (first | omega | (simp at h2; done))); done)
      all_goals
      refine SatL.guard_n rfl rfl rfl rfl ?_
      refine SatL.guard_n rfl rfl rfl rfl ?_
      refine SatL.guard_n rfl rfl rfl rfl ?_
      refine SatL.guard_n rfl rfl rfl rfl ?_
      refine SatL.pu (RunV.pick_f rfl rfl) rfl ?_
      refine SatL.pu (RunV.move rfl) rfl ?_
      refine SatL.guard_y rfl rfl ?_
      refine SatL.pu (RunV.move rfl) rfl ?_
      refine SatL.guard_y rfl rfl ?_
      refine SatL.pu (RunV.move rfl) rfl ?_
      refine SatL.guard rfl rfl rfl (fun h3 => ?_) (fun h3 => ?_)
      · (try simp only [cx, ne_eq] at h3)
        try (exfalso; (first | omega | exact h3 trivial | contradiction | (first | omega | (simp at h3; done))); done)
        all_goals
        first | refine SatL.pu (RunV.fieldAddrL rfl rfl rfl) rfl ?_ | refine SatL.pu (RunV.fieldAddr rfl rfl rfl) rfl ?_
        refine SatL.guard_y rfl rfl ?_
        first | refine SatL.pu (RunV.fieldAddrL rfl rfl rfl) rfl ?_ | refine SatL.pu (RunV.fieldAddr rfl rfl rfl) rfl ?_
        refine SatL.guard_y rfl rfl ?_
        first | refine SatL.pu (RunV.fieldAddrL rfl rfl rfl) rfl ?_ | refine SatL.pu (RunV.fieldAddr rfl rfl rfl) rfl ?_
        refine SatL.guard_y rfl rfl ?_
        refine SatL.pu (RunV.load1 hS rfl rfl (by repeat constructor) rfl) rfl ?_
        refine SatL.guard_y rfl rfl ?_
        refine SatL.pu (RunV.eql rfl rfl) rfl ?_
        refine SatL.guard_y rfl rfl ?_
        refine SatL.pu (RunV.pick_t rfl rfl) rfl ?_
        refine SatL.pu (RunV.pick_f rfl rfl) rfl ?_
        refine SatL.nil (SatE.thenC ?_)
        refine SatC.weak (e' := [(0, _), (1, _), (2, _), (6, _), (7, _), (8, _), (9, _), (46, _)]) (by repeat constructor) ?_
        refine SatC.cond rfl (fun h4 => ?_) (fun h4 => ?_)
        · (try simp only [cx, ne_eq] at h4)
          try (exfalso; (first | omega | exact h4 trivial | contradiction | (first | omega | (simp at h4; done))); done)
          all_goals
          refine SatC.exit (SatE.then_exit (SatE.blk_exit (SatE.thenC ?_)))
          refine SatC.region ?_
          refine SatL.pu (RunV.move rfl) rfl ?_
          refine SatL.pu (RunV.add rfl rfl (by first | exact wrapI64 (by omega) | rfl)) rfl ?_
          refine SatL.pu (RunV.assign rfl) rfl ?_
          refine SatL.nil ?_
          by_cases hd : (y.svc = [] ∨ y.svc = k) ∧ ¬ (bare = true ∧ y.h.p.kind = 3)
          · rw [dw_y hd] at hmx
            first
            | (exfalso; clear hS hro; simp_all; done)
            | exact SatE.again (i + 1, stat y.h) ⟨by omega, by omega, by omega, hS.sel (by repeat constructor)⟩ (by dsimp only; omega) (by repeat constructor)
            | exact SatE.again (i + 1, wv) ⟨by omega, by omega, by omega, hS.sel (by repeat constructor)⟩ (by dsimp only; omega) (by repeat constructor)
          · rw [dw_n hd] at hmx
            first
            | (exfalso; clear hS hro; simp_all; done)
            | exact SatE.again (i + 1, wv) ⟨by omega, by omega, by omega, hS.sel (by repeat constructor)⟩ (by dsimp only; omega) (by repeat constructor)
        · (try simp only [cx, ne_eq] at h4)
          try (exfalso; (first | omega | exact h4 trivial | contradiction | (first | omega | (simp at h4; done))); done)
          all_goals
          refine SatC.skip (SatE.thenC ?_)
          refine SatC.seq ?_
          refine SatC.region ?_
          first | refine SatL.pu (RunV.fieldAddrL rfl rfl rfl) rfl ?_ | refine SatL.pu (RunV.fieldAddr rfl rfl rfl) rfl ?_
          refine SatL.op rfl (OpW.enter rfl rfl rfl (rfl) (stat_ref (c := y.h) (pre := [.int .i64 D.node, str y.id, str y.svc, str y.note, .int .i64 0, .int .u64 0, .int .u64 0]) (post := []) rfl (own1 (p := (b9, C 87 (dcc D.node y))) hS (by simp))) ?_)
          rintro r4 w4 ⟨rfl, h⟩
          replace hS := St.callN hS h
          refine SatL.pu (RunV.move rfl) rfl ?_
          refine SatL.pu (RunV.gtr rfl rfl) rfl ?_
          refine SatL.nil (SatE.thenC ?_)
          refine SatC.cond rfl (fun h5 => ?_) (fun h5 => ?_)
          · (try simp only [cx, ne_eq] at h5)
            try (exfalso; (first | omega | exact h5 trivial | contradiction | (first | omega | (simp at h5; done))); done)
            all_goals
            refine SatC.region ?_
            first | refine SatL.pu (RunV.fieldAddrL rfl rfl rfl) rfl ?_ | refine SatL.pu (RunV.fieldAddr rfl rfl rfl) rfl ?_
            refine SatL.op rfl (OpW.enter rfl rfl rfl (rfl) (stat_ref (c := y.h) (pre := [.int .i64 D.node, str y.id, str y.svc, str y.note, .int .i64 0, .int .u64 0, .int .u64 0]) (post := []) rfl (own1 (p := (b9, C 87 (dcc D.node y))) hS (by simp))) ?_)
            rintro r5 w5 ⟨rfl, h⟩
            replace hS := St.callN hS h
            refine SatL.pu (RunV.assign rfl) rfl ?_
            refine SatL.nil (SatE.blk_normal (SatE.thenC ?_))
            refine SatC.region ?_
            refine SatL.pu (RunV.move rfl) rfl ?_
            refine SatL.pu (RunV.add rfl rfl (by first | exact wrapI64 (by omega) | rfl)) rfl ?_
            refine SatL.pu (RunV.assign rfl) rfl ?_
            refine SatL.nil ?_
            by_cases hd : (y.svc = [] ∨ y.svc = k) ∧ ¬ (bare = true ∧ y.h.p.kind = 3)
            · rw [dw_y hd] at hmx
              first
              | (exfalso; clear hS hro; simp_all; done)
              | exact SatE.again (i + 1, stat y.h) ⟨by omega, by omega, by omega, hS.sel (by repeat constructor)⟩ (by dsimp only; omega) (by repeat constructor)
              | exact SatE.again (i + 1, wv) ⟨by omega, by omega, by omega, hS.sel (by repeat constructor)⟩ (by dsimp only; omega) (by repeat constructor)
            · rw [dw_n hd] at hmx
              first
              | (exfalso; clear hS hro; simp_all; done)
              | exact SatE.again (i + 1, wv) ⟨by omega, by omega, by omega, hS.sel (by repeat constructor)⟩ (by dsimp only; omega) (by repeat constructor)
          · (try simp only [cx, ne_eq] at h5)
            try (exfalso; (first | omega | exact h5 trivial | contradiction | (first | omega | (simp at h5; done))); done)
            all_goals
            refine SatC.skip (SatE.blk_normal (SatE.thenC ?_))
            refine SatC.region ?_
            refine SatL.pu (RunV.move rfl) rfl ?_
            refine SatL.pu (RunV.add rfl rfl (by first | exact wrapI64 (by omega) | rfl)) rfl ?_
            refine SatL.pu (RunV.assign rfl) rfl ?_
            refine SatL.nil ?_
            by_cases hd : (y.svc = [] ∨ y.svc = k) ∧ ¬ (bare = true ∧ y.h.p.kind = 3)
            · rw [dw_y hd] at hmx
              first
              | (exfalso; clear hS hro; simp_all; done)
              | exact SatE.again (i + 1, stat y.h) ⟨by omega, by omega, by omega, hS.sel (by repeat constructor)⟩ (by dsimp only; omega) (by repeat constructor)
              | exact SatE.again (i + 1, wv) ⟨by omega, by omega, by omega, hS.sel (by repeat constructor)⟩ (by dsimp only; omega) (by repeat constructor)
            · rw [dw_n hd] at hmx
              first
              | (exfalso; clear hS hro; simp_all; done)
              | exact SatE.again (i + 1, wv) ⟨by omega, by omega, by omega, hS.sel (by repeat constructor)⟩ (by dsimp only; omega) (by repeat constructor)
      · (try simp only [cx, ne_eq] at h3)
        try (exfalso; (first | omega | exact h3 trivial | contradiction | (first | omega | (simp at h3; done))); done)
        all_goals
        refine SatL.guard_n rfl rfl rfl rfl ?_
        refine SatL.guard_n rfl rfl rfl rfl ?_
        refine SatL.guard_n rfl rfl rfl rfl ?_
        refine SatL.guard_n rfl rfl rfl rfl ?_
        refine SatL.guard_y rfl rfl ?_
        refine SatL.pu (RunV.pick_f rfl rfl) rfl ?_
        refine SatL.pu (RunV.pick_f rfl rfl) rfl ?_
        refine SatL.nil (SatE.thenC ?_)
        refine SatC.weak (e' := [(0, _), (1, _), (2, _), (6, _), (7, _), (8, _), (9, _), (46, _)]) (by repeat constructor) ?_
        refine SatC.cond_f rfl ?_
        refine SatC.skip (SatE.thenC ?_)
        refine SatC.seq ?_
        refine SatC.region ?_
        first | refine SatL.pu (RunV.fieldAddrL rfl rfl rfl) rfl ?_ | refine SatL.pu (RunV.fieldAddr rfl rfl rfl) rfl ?_
        refine SatL.op rfl (OpW.enter rfl rfl rfl (rfl) (stat_ref (c := y.h) (pre := [.int .i64 D.node, str y.id, str y.svc, str y.note, .int .i64 0, .int .u64 0, .int .u64 0]) (post := []) rfl (own1 (p := (b9, C 87 (dcc D.node y))) hS (by simp))) ?_)
        rintro r4 w4 ⟨rfl, h⟩
        replace hS := St.callN hS h
        refine SatL.pu (RunV.move rfl) rfl ?_
        refine SatL.pu (RunV.gtr rfl rfl) rfl ?_
        refine SatL.nil (SatE.thenC ?_)
        refine SatC.cond rfl (fun h4 => ?_) (fun h4 => ?_)
        · (try simp only [cx, ne_eq] at h4)
          try (exfalso; (first | omega | exact h4 trivial | contradiction | (first | omega | (simp at h4; done))); done)
          all_goals
          refine SatC.region ?_
          first | refine SatL.pu (RunV.fieldAddrL rfl rfl rfl) rfl ?_ | refine SatL.pu (RunV.fieldAddr rfl rfl rfl) rfl ?_
          refine SatL.op rfl (OpW.enter rfl rfl rfl (rfl) (stat_ref (c := y.h) (pre := [.int .i64 D.node, str y.id, str y.svc, str y.note, .int .i64 0, .int .u64 0, .int .u64 0]) (post := []) rfl (own1 (p := (b9, C 87 (dcc D.node y))) hS (by simp))) ?_)
          rintro r5 w5 ⟨rfl, h⟩
          replace hS := St.callN hS h
          refine SatL.pu (RunV.assign rfl) rfl ?_
          refine SatL.nil (SatE.blk_normal (SatE.thenC ?_))
          refine SatC.region ?_
          refine SatL.pu (RunV.move rfl) rfl ?_
          refine SatL.pu (RunV.add rfl rfl (by first | exact wrapI64 (by omega) | rfl)) rfl ?_
          refine SatL.pu (RunV.assign rfl) rfl ?_
          refine SatL.nil ?_
          by_cases hd : (y.svc = [] ∨ y.svc = k) ∧ ¬ (bare = true ∧ y.h.p.kind = 3)
          · rw [dw_y hd] at hmx
            first
            | (exfalso; clear hS hro; simp_all; done)
            | exact SatE.again (i + 1, stat y.h) ⟨by omega, by omega, by omega, hS.sel (by repeat constructor)⟩ (by dsimp only; omega) (by repeat constructor)
            | exact SatE.again (i + 1, wv) ⟨by omega, by omega, by omega, hS.sel (by repeat constructor)⟩ (by dsimp only; omega) (by repeat constructor)
          · rw [dw_n hd] at hmx
            first
            | (exfalso; clear hS hro; simp_all; done)
            | exact SatE.again (i + 1, wv) ⟨by omega, by omega, by omega, hS.sel (by repeat constructor)⟩ (by dsimp only; omega) (by repeat constructor)
        · (try simp only [cx, ne_eq] at h4)
          try (exfalso; (first | omega | exact h4 trivial | contradiction | (first | omega | (simp at h4; done))); done)
          all_goals
          refine SatC.skip (SatE.blk_normal (SatE.thenC ?_))
          refine SatC.region ?_
          refine SatL.pu (RunV.move rfl) rfl ?_
          refine SatL.pu (RunV.add rfl rfl (by first | exact wrapI64 (by omega) | rfl)) rfl ?_
          refine SatL.pu (RunV.assign rfl) rfl ?_
          refine SatL.nil ?_
          by_cases hd : (y.svc = [] ∨ y.svc = k) ∧ ¬ (bare = true ∧ y.h.p.kind = 3)
          · rw [dw_y hd] at hmx
            first
            | (exfalso; clear hS hro; simp_all; done)
            | exact SatE.again (i + 1, stat y.h) ⟨by omega, by omega, by omega, hS.sel (by repeat constructor)⟩ (by dsimp only; omega) (by repeat constructor)
            | exact SatE.again (i + 1, wv) ⟨by omega, by omega, by omega, hS.sel (by repeat constructor)⟩ (by dsimp only; omega) (by repeat constructor)
          · rw [dw_n hd] at hmx
            first
            | (exfalso; clear hS hro; simp_all; done)
            | exact SatE.again (i + 1, wv) ⟨by omega, by omega, by omega, hS.sel (by repeat constructor)⟩ (by dsimp only; omega) (by repeat constructor)
  · (try simp only [cx, ne_eq] at h1)
    try (exfalso; (first | omega | exact h1 trivial | contradiction | (first | omega | (simp at h1; done))); done)
    all_goals
    refine SatC.exit (SatE.then_exit (SatE.then_exit (SatE.blk_exit (SatE.thenC ?_))))
    refine SatC.seq ?_
    refine SatC.region ?_
    refine SatL.pu (RunV.move rfl) rfl ?_
    refine SatL.pu (RunV.assign rfl) rfl ?_
    refine SatL.nil (SatE.thenC ?_)
    refine SatC.ret ?_
    refine SatE.ret1 rfl rfl ?_
    rw [List.drop_of_length_le (by omega), dw] at hmx
    exact ⟨congrArg _ (by omega), hro (L := []) (hS.sel (by repeat constructor))⟩
end
end Go.Proofs.Ytbnkcagcfbpiiaa
set_option linter.unusedSimpArgs false
set_option linter.unusedVariables false
set_option maxRecDepth 100000
set_option maxHeartbeats 8000000
namespace Go.Proofs.Ytbnkcagcfbpiiaa
open Go Go.Proofs Go.RowKit
theorem fnd_neg {l : List Dc} {k : List UInt8} {i : Int} (h : Fnd l k i) : i < 0 ↔ gt Dc.id l k = none := by
  rcases h with ⟨rfl, hg⟩ | ⟨A, c, E, _, _, rfl, hg⟩
  · simp [hg]
  · rw [hg]
    simp
def wid (k : List UInt8) (l : List Dc) : List Dc := l.filter fun c => decide (¬ c.id = k)
def wsv (k : List UInt8) (l : List Dc) : List Dc := l.filter fun c => decide (¬ c.svc = k)
def wis (k : List UInt8) (l : List Ds) : List Ds := l.filter fun c => decide (¬ c.id = k)
section
variable {α : Type} (key : α → List UInt8) (x : α)
/-- What is laid among those that rise. -/
def ins : Bool → List α → List α
  | laid, [] => if laid = true then [] else [x]
  | laid, y :: l => if key y = key x then ins laid l else if laid = false ∧ key x < key y then x :: y :: ins true l else y :: ins laid l
variable {key} {x}
theorem ins_perm (laid : Bool) (l : List α) : (ins key x laid l).Perm ((if laid = true then [] else [x]) ++ l.filter fun y => decide (¬ key y = key x)) := by
  induction l generalizing laid with
  | nil => unfold ins; simp
  | cons y l ih =>
    unfold ins
    by_cases h1 : key y = key x
    · rw [if_pos h1, List.filter_cons_of_neg (by simp [h1])]
      exact ih laid
    · rw [if_neg h1, List.filter_cons_of_pos (by simp [h1])]
      by_cases h2 : laid = false ∧ key x < key y
      · rw [if_pos h2, h2.1]
        have := ih true
        simp only [if_true, List.nil_append, Bool.false_eq_true, if_false, List.cons_append] at this ⊢
        exact (this.cons y).cons x
      · rw [if_neg h2]
        refine ((ih laid).cons y).trans ?_
        exact List.perm_middle.symm
theorem ins_nodup {l : List α} (h : (l.map key).Nodup) : ((ins key x false l).map key).Nodup := by
  refine (((ins_perm (key := key) (x := x) false l).map key).nodup_iff).2 ?_
  simp only [Bool.false_eq_true, if_false, List.cons_append, List.nil_append, List.map_cons, List.nodup_cons]
  refine ⟨fun hm => ?_, ((List.filter_sublist ..).map _).nodup h⟩
  obtain ⟨y, hy, e⟩ := List.mem_map.1 hm
  have := (List.mem_filter.1 hy).2
  simp at this
  exact this e
theorem ins_len (l : List α) : (ins key x false l).length = 1 + (l.filter fun y => decide (¬ key y = key x)).length := by
  rw [(ins_perm (key := key) (x := x) false l).length_eq]; simp [Nat.add_comm]
theorem ins_few {l : List α} (h : l.length ≤ 16) (hf : ¬ (gt key l (key x) = none ∧ 16 ≤ l.length)) : (ins key x false l).length ≤ 16 := by
  rw [ins_len]
  have hle := List.length_filter_le (fun y => decide (¬ key y = key x)) l
  by_cases h16 : 16 ≤ l.length
  · have hg : ¬ gt key l (key x) = none := fun e => hf ⟨e, h16⟩
    have : (l.filter fun y => decide (¬ key y = key x)).length < l.length := by
      refine List.length_filter_lt_length_iff_exists.2 ?_
      cases e : gt key l (key x) with
      | none => exact absurd e hg
      | some z => exact ⟨z, (gt_mem e).1, by simp [(gt_mem e).2]⟩
    omega
  · omega
theorem ins_eq {y : α} {laid : Bool} {l : List α} (h : key y = key x) : ins key x laid (y :: l) = ins key x laid l := if_pos h
theorem ins_lt {y : α} {laid : Bool} {l : List α} (h : ¬ key y = key x) (h2 : laid = false ∧ key x < key y) : ins key x laid (y :: l) = x :: y :: ins key x true l := by
  conv => lhs; unfold ins
  rw [if_neg h, if_pos h2]
theorem ins_go {y : α} {laid : Bool} {l : List α} (h : ¬ key y = key x) (h2 : ¬ (laid = false ∧ key x < key y)) : ins key x laid (y :: l) = y :: ins key x laid l := by
  conv => lhs; unfold ins
  rw [if_neg h, if_neg h2]
end
def daddCE (D : Dl) (id sv note : List UInt8) (p : Pl) : Int :=
  if ¬ (okN id = true ∧ (sv = [] ∨ okN sv = true)) then 10 else if 32 < note.length then 3 else if ¬ sv = [] ∧ gt Ds.id D.sv sv = none then 4 else if ¬ Pok p then 2 else if gt Dc.id D.ch id = none ∧ 16 ≤ D.ch.length then 5 else 0
def daddE (D : Dl) (id name : List UInt8) (tags : List (List UInt8)) (port : Int) : Int :=
  if port < 0 ∨ 65535 < port then 2 else if ¬ (okN id = true ∧ okN name = true ∧ tagN tags = true) then 10 else if gt Ds.id D.sv id = none ∧ 16 ≤ D.sv.length then 5 else 0
theorem dsc_one {n : Int} {s : Ds} (h : s.tv.oneCell' = true) : ((dsc n s).all fun x => x.oneCell') = true := by
  show (true && (true && (true && (s.tv.oneCell' && (true && (true && (true && true))))))) = true
  rw [h]
  rfl
section
variable {b : Nat} {D : Dl} {L : List (Nat × Obj)} {w : World}
theorem ddelc_ref (k : List UInt8) (h : Dok b D L) (hown : Own w L) : Ret Try.prog 14 #[.pointer (some ⟨b, 0, none⟩), str k] w fun u w' => u = .int .i64 (if (gt Dc.id D.ch k).isSome = true then 0 else 4) ∧ ∃ L', Dok b { D with ch := wid k D.ch } L' ∧ St w (L.map Prod.fst) L' w' := by
  have hw := h
  obtain ⟨hs16, hc16, hone, hsu, hcu, sv, cv, SB, CB, hsS, hsC, rfl⟩ := h
  have hS := St.init hown
  generalize hX : List.map Prod.fst ((b, C 44 [.int .i64 D.node, str D.addr, sv, cv]) :: (SB ++ CB)) = X at hS ⊢
  obtain ⟨vs, hvs⟩ := hsC.slv
  rw [List.length_map] at hvs
  refine Ret.enter Try.func14 Try.ntmps14 rfl rfl ?_
  simp only [argEnv, Nat.reduceAdd]
  refine SatC.seq ?_
  refine SatC.region ?_
  refine SatL.pu (RunV.assign rfl) rfl ?_
  refine SatL.nil (SatE.thenC ?_)
  refine SatC.seq ?_
  refine SatC.seq ?_
  refine SatC.region ?_
  refine SatL.pu (RunV.move rfl) rfl ?_
  refine SatL.pu (RunV.move rfl) rfl ?_
  refine SatL.op rfl (OpW.enter rfl rfl rfl (rfl) (find_ref k hw hS.toOwn) ?_)
  rintro r1 w1 ⟨fi, rfl, hF, h⟩
  replace hS := St.callN hS h
  replace hF := fnd_neg hF
  refine SatL.pu (RunV.lss rfl rfl) rfl ?_
  refine SatL.nil (SatE.thenC ?_)
  refine SatC.cond rfl (fun h1 => ?_) (fun h1 => ?_)
  · (try simp only [cx, ne_eq] at h1)
    try (exfalso; (first | omega | exact h1 trivial | contradiction | (first | omega | (simp at h1; done))); done)
    all_goals
    refine SatC.seq ?_
    refine SatC.region ?_
    refine SatL.pu (RunV.assign rfl) rfl ?_
    refine SatL.nil (SatE.thenC ?_)
    refine SatC.ret (SatE.then_ret ?_)
    refine SatE.ret1 rfl rfl ?_
    have hg := hF.1 (by omega)
    refine ⟨by rw [hg]; rfl, (b, C 44 [.int .i64 D.node, str D.addr, sv, cv]) :: (SB ++ CB), ?_, hS.sel (by repeat constructor)⟩
    have e : wid k D.ch = D.ch := List.filter_eq_self.2 fun c hc => by
      simp only [decide_eq_true_eq]
      intro e
      exact gt_none.1 hg (by rw [← e]; exact List.mem_map_of_mem hc)
    rw [e]; exact hw
  · (try simp only [cx, ne_eq] at h1)
    try (exfalso; (first | omega | exact h1 trivial | contradiction | (first | omega | (simp at h1; done))); done)
    all_goals
    refine SatC.skip (SatE.thenC ?_)
    refine SatC.seq ?_
    refine SatC.region ?_
    refine SatL.pu (RunV.assign rfl) rfl ?_
    refine SatL.nil (SatE.thenC ?_)
    refine SatC.seq ?_
    refine SatC.seq ?_
    refine SatC.region ?_
    refine SatL.pu (RunV.assign rfl) rfl ?_
    refine SatL.nil (SatE.thenC ?_)
    refine SatC.block ?_
    refine SatC.loopK (G := Nat × Value × List (Nat × Obj)) (V := fun ⟨i, av, AB⟩ => [(6, .int .i64 (i : Int)), (5, av)]) (Cn := [(0, _), (1, _), (4, _)]) (I := fun ⟨i, av, AB⟩ w' => i ≤ D.ch.length ∧ Sl 87 19 av (((D.ch.take i).filter fun c => decide (¬ c.id = k)).map (dcc D.node)) AB ∧ St w X (AB ++ (b, C 44 [.int .i64 D.node, str D.addr, sv, cv]) :: (SB ++ CB)) w') (μ := fun ⟨i, av, AB⟩ => D.ch.length - i) (0, .slice none 0 0, []) ?_ (by repeat constructor) ?_
    · exact ⟨Nat.zero_le _, .nil, hS⟩
    clear hS
    rintro ⟨i, av, AB⟩ w2 ⟨hi, hsa, hS⟩
    refine SatC.weak (e' := [(0, _), (1, _), (4, _), (5, _), (6, _)]) (by repeat constructor) ?_
    refine SatC.seq ?_
    refine SatC.seq ?_
    refine SatC.region ?_
    refine SatL.pu (RunV.move rfl) rfl ?_
    refine SatL.pu (RunV.move rfl) rfl ?_
    first | refine SatL.pu (RunV.nil_ptr rfl) rfl ?_ | refine SatL.pu (RunV.nil_func rfl) rfl ?_ | refine SatL.pu (RunV.nil_yield rfl) rfl ?_
    first | refine SatL.pu (RunV.fieldAddrL rfl rfl rfl) rfl ?_ | refine SatL.pu (RunV.fieldAddr rfl rfl rfl) rfl ?_
    refine SatL.pu (RunV.load1 hS rfl rfl (by repeat constructor) rfl) rfl ?_
    first | refine SatL.pu (RunV.lenR (by assumption) rfl rfl) rfl ?_ | refine SatL.pu (RunV.lenS rfl rfl) rfl ?_
    refine SatL.pu (RunV.lss rfl rfl) rfl ?_
    refine SatL.nil (SatE.thenC ?_)
    refine SatC.cond rfl (fun h2 => ?_) (fun h2 => ?_)
    · (try simp only [cx, ne_eq] at h2)
      try (exfalso; (first | omega | exact h2 trivial | contradiction | (first | omega | (simp at h2; done))); done)
      all_goals
      refine SatC.skip (SatE.thenC ?_)
      refine SatC.seq ?_
      refine SatC.block ?_
      refine SatC.seq ?_
      obtain ⟨y, hy⟩ : ∃ y, D.ch[i]? = some y := ⟨_, List.getElem?_eq_getElem (by omega)⟩
      have hfl := filter_take_len D.ch i fun c => decide (¬ c.id = k)
      refine SatC.region ?_
      refine SatL.pu (RunV.move rfl) rfl ?_
      first | refine SatL.pu (RunV.nil_ptr rfl) rfl ?_ | refine SatL.pu (RunV.nil_func rfl) rfl ?_ | refine SatL.pu (RunV.nil_yield rfl) rfl ?_
      first | refine SatL.pu (RunV.fieldAddrL rfl rfl rfl) rfl ?_ | refine SatL.pu (RunV.fieldAddr rfl rfl rfl) rfl ?_
      refine SatL.pu (RunV.load1 hS rfl rfl (by repeat constructor) rfl) rfl ?_
      refine SatL.pu (RunV.move rfl) rfl ?_
      first | refine SatL.pu (RunV.indexR (by assumption) rfl rfl rfl (by omega) (by omega) rfl) rfl ?_ | refine SatL.pu (RunV.indexS rfl rfl rfl (by omega) (by omega) rfl) rfl ?_
      first | refine SatL.pu (RunV.fieldAddrL rfl rfl rfl) rfl ?_ | refine SatL.pu (RunV.fieldAddr rfl rfl rfl) rfl ?_
      first | refine SatL.pu (RunV.fieldAddrL rfl rfl rfl) rfl ?_ | refine SatL.pu (RunV.fieldAddr rfl rfl rfl) rfl ?_
      refine SatL.pu (RunV.loadR1g i 1 (Sl.rd hsC hS (by repeat constructor)) rfl rfl (by omega) (map_get hy) rfl) rfl ?_
      refine SatL.pu (RunV.move rfl) rfl ?_
      refine SatL.pu (RunV.sneq rfl rfl) rfl ?_
      refine SatL.nil (SatE.thenC ?_)
      refine SatC.weak (e' := [(0, _), (1, _), (4, _), (5, _), (6, _), (30, _)]) (by repeat constructor) ?_
      refine SatC.cond rfl (fun h3 => ?_) (fun h3 => ?_)
      · (try simp only [cx, ne_eq] at h3)
        try (exfalso; (first | omega | exact h3 trivial | contradiction | (first | omega | (simp at h3; done))); done)
        all_goals
        refine SatC.region ?_
        refine SatL.pu (RunV.move rfl) rfl ?_
        refine SatL.pu (RunV.move rfl) rfl ?_
        first | refine SatL.pu (RunV.nil_ptr rfl) rfl ?_ | refine SatL.pu (RunV.nil_func rfl) rfl ?_ | refine SatL.pu (RunV.nil_yield rfl) rfl ?_
        first | refine SatL.pu (RunV.fieldAddrL rfl rfl rfl) rfl ?_ | refine SatL.pu (RunV.fieldAddr rfl rfl rfl) rfl ?_
        refine SatL.pu (RunV.load1 hS rfl rfl (by repeat constructor) rfl) rfl ?_
        refine SatL.pu (RunV.move rfl) rfl ?_
        first | refine SatL.pu (RunV.indexR (by assumption) rfl rfl rfl (by omega) (by omega) rfl) rfl ?_ | refine SatL.pu (RunV.indexS rfl rfl rfl (by omega) (by omega) rfl) rfl ?_
        refine SatL.pu (RunV.loadRNz (Sl.rd hsC hS (by repeat constructor)) rfl rfl (map_get hy)) rfl ?_
        refine SatL.op rfl (OpW.buildSlice1 hS rfl rfl rfl rfl rfl (by repeat constructor) rfl rfl rfl ?_)
        clear hS
        intro b39 w3 _ hS
        refine SatL.op rfl (OpW.append1 hsa hS (by repeat constructor) rfl rfl (by repeat constructor) rfl rfl rfl rfl rfl rfl rfl rfl (by rw [List.length_map]; omega) rfl ?_)
        clear hS
        intro v40 B40 w4 hsl40 hS
        refine SatL.pu (RunV.assign rfl) rfl ?_
        refine SatL.nil (SatE.blk_normal (SatE.thenC ?_))
        refine SatC.region ?_
        refine SatL.pu (RunV.move rfl) rfl ?_
        refine SatL.pu (RunV.add rfl rfl (by first | exact wrapI64 (by omega) | rfl)) rfl ?_
        refine SatL.pu (RunV.assign rfl) rfl ?_
        refine SatL.nil ?_
        refine SatE.again ((i + 1, v40, B40)) ?_ (by first | omega | (dsimp only; omega)) (by repeat constructor)
        refine ⟨by omega, ?_, hS.sel (by repeat constructor)⟩
        rw [take_y hy (by simp; assumption), List.map_append]; exact hsl40
      · (try simp only [cx, ne_eq] at h3)
        try (exfalso; (first | omega | exact h3 trivial | contradiction | (first | omega | (simp at h3; done))); done)
        all_goals
        refine SatC.skip (SatE.blk_normal (SatE.thenC ?_))
        refine SatC.region ?_
        refine SatL.pu (RunV.move rfl) rfl ?_
        refine SatL.pu (RunV.add rfl rfl (by first | exact wrapI64 (by omega) | rfl)) rfl ?_
        refine SatL.pu (RunV.assign rfl) rfl ?_
        refine SatL.nil ?_
        refine SatE.again ((i + 1, av, AB)) ?_ (by first | omega | (dsimp only; omega)) (by repeat constructor)
        refine ⟨by omega, ?_, hS.sel (by repeat constructor)⟩
        rw [take_n hy (by simp; assumption)]; exact hsa
    · (try simp only [cx, ne_eq] at h2)
      try (exfalso; (first | omega | exact h2 trivial | contradiction | (first | omega | (simp at h2; done))); done)
      all_goals
      refine SatC.exit (SatE.then_exit (SatE.then_exit (SatE.blk_exit (SatE.thenC ?_))))
      refine SatC.seq ?_
      refine SatC.region ?_
      refine SatL.pu (RunV.move rfl) rfl ?_
      refine SatL.pu (RunV.move rfl) rfl ?_
      first | refine SatL.pu (RunV.nil_ptr rfl) rfl ?_ | refine SatL.pu (RunV.nil_func rfl) rfl ?_ | refine SatL.pu (RunV.nil_yield rfl) rfl ?_
      first | refine SatL.pu (RunV.fieldAddrL rfl rfl rfl) rfl ?_ | refine SatL.pu (RunV.fieldAddr rfl rfl rfl) rfl ?_
      refine SatL.op rfl (OpW.storeSv hS rfl rfl hsa (by repeat constructor) (by repeat constructor) rfl ?_)
      clear hS
      intro w3 hS
      refine SatL.nil (SatE.thenC ?_)
      refine SatC.seq ?_
      refine SatC.weak (e' := [(4, _)]) (by repeat constructor) ?_
      refine SatC.region ?_
      refine SatL.pu (RunV.assign rfl) rfl ?_
      refine SatL.nil (SatE.thenC ?_)
      refine SatC.ret ?_
      refine SatE.ret1 rfl rfl ?_
      rw [List.take_of_length_le (by omega)] at hsa
      have hg : (gt Dc.id D.ch k).isSome = true := by
        cases e : gt Dc.id D.ch k with
        | none => exact absurd (hF.2 e) (by omega)
        | some _ => rfl
      rw [if_pos hg]
      exact ⟨rfl, (b, C 44 [.int .i64 D.node, str D.addr, sv, av]) :: (SB ++ AB), ⟨hs16, Nat.le_trans (List.length_filter_le ..) hc16, hone, hsu, ((List.filter_sublist ..).map _).nodup hcu, sv, av, SB, AB, hsS, hsa, rfl⟩, hS.sel (by repeat constructor)⟩
theorem drem_ref (k : List UInt8) (h : Dok b D L) (hown : Own w L) : Ret Try.prog 39 #[.pointer (some ⟨b, 0, none⟩), str k] w fun u w' => u = .int .i64 (if (gt Ds.id D.sv k).isSome = true then 0 else 4) ∧ ∃ L', Dok b (if (gt Ds.id D.sv k).isSome = true then { D with sv := wis k D.sv, ch := wsv k D.ch } else D) L' ∧ St w (L.map Prod.fst) L' w' := by
  have hw := h
  obtain ⟨hs16, hc16, hone, hsu, hcu, sv, cv, SB, CB, hsS, hsC, rfl⟩ := h
  have hS := St.init hown
  generalize hX : List.map Prod.fst ((b, C 44 [.int .i64 D.node, str D.addr, sv, cv]) :: (SB ++ CB)) = X at hS ⊢
  obtain ⟨vs, hvs⟩ := hsC.slv
  rw [List.length_map] at hvs
  obtain ⟨vt, hvt⟩ := hsS.slv
  rw [List.length_map] at hvt
  refine Ret.enter Try.func39 Try.ntmps39 rfl rfl ?_
  simp only [argEnv, Nat.reduceAdd]
  refine SatC.seq ?_
  refine SatC.region ?_
  refine SatL.pu (RunV.assign rfl) rfl ?_
  refine SatL.nil (SatE.thenC ?_)
  refine SatC.seq ?_
  refine SatC.seq ?_
  refine SatC.region ?_
  refine SatL.pu (RunV.move rfl) rfl ?_
  refine SatL.pu (RunV.move rfl) rfl ?_
  refine SatL.op rfl (OpW.enter rfl rfl rfl (rfl) (has_ref k hw hS.toOwn) ?_)
  rintro r1 w1 ⟨rfl, h⟩
  replace hS := St.callN hS h
  refine SatL.pu (RunV.not rfl) rfl ?_
  refine SatL.nil (SatE.thenC ?_)
  refine SatC.cond rfl (fun h1 => ?_) (fun h1 => ?_)
  · (try simp only [cx, ne_eq] at h1)
    try (exfalso; (first | omega | exact h1 trivial | contradiction | (first | omega | (simp at h1; done))); done)
    all_goals
    refine SatC.seq ?_
    refine SatC.region ?_
    refine SatL.pu (RunV.assign rfl) rfl ?_
    refine SatL.nil (SatE.thenC ?_)
    refine SatC.ret (SatE.then_ret ?_)
    refine SatE.ret1 rfl rfl ?_
    have hg : ¬ (gt Ds.id D.sv k).isSome = true := by simp_all
    rw [if_neg hg, if_neg hg]
    exact ⟨rfl, _, hw, hS.sel (by repeat constructor)⟩
  · (try simp only [cx, ne_eq] at h1)
    try (exfalso; (first | omega | exact h1 trivial | contradiction | (first | omega | (simp at h1; done))); done)
    all_goals
    refine SatC.skip (SatE.thenC ?_)
    refine SatC.seq ?_
    refine SatC.region ?_
    refine SatL.pu (RunV.assign rfl) rfl ?_
    refine SatL.nil (SatE.thenC ?_)
    refine SatC.seq ?_
    refine SatC.seq ?_
    refine SatC.region ?_
    refine SatL.pu (RunV.assign rfl) rfl ?_
    refine SatL.nil (SatE.thenC ?_)
    refine SatC.block ?_
    refine SatC.loopK (G := Nat × Value × List (Nat × Obj)) (V := fun ⟨i, av, AB⟩ => [(6, .int .i64 (i : Int)), (5, av)]) (Cn := [(0, _), (1, _), (4, _)]) (I := fun ⟨i, av, AB⟩ w' => i ≤ D.sv.length ∧ Sl 30 7 av (((D.sv.take i).filter fun c => decide (¬ c.id = k)).map (dsc D.node)) AB ∧ St w X (AB ++ (b, C 44 [.int .i64 D.node, str D.addr, sv, cv]) :: (SB ++ CB)) w') (μ := fun ⟨i, av, AB⟩ => D.sv.length - i) (0, .slice none 0 0, []) ?_ (by repeat constructor) ?_
    · exact ⟨Nat.zero_le _, .nil, hS⟩
    clear hS
    rintro ⟨i, av, AB⟩ w2 ⟨hi, hsa, hS⟩
    refine SatC.weak (e' := [(0, _), (1, _), (4, _), (5, _), (6, _)]) (by repeat constructor) ?_
    refine SatC.seq ?_
    refine SatC.seq ?_
    refine SatC.region ?_
    refine SatL.pu (RunV.move rfl) rfl ?_
    refine SatL.pu (RunV.move rfl) rfl ?_
    first | refine SatL.pu (RunV.nil_ptr rfl) rfl ?_ | refine SatL.pu (RunV.nil_func rfl) rfl ?_ | refine SatL.pu (RunV.nil_yield rfl) rfl ?_
    first | refine SatL.pu (RunV.fieldAddrL rfl rfl rfl) rfl ?_ | refine SatL.pu (RunV.fieldAddr rfl rfl rfl) rfl ?_
    refine SatL.pu (RunV.load1 hS rfl rfl (by repeat constructor) rfl) rfl ?_
    first | refine SatL.pu (RunV.lenR (by assumption) rfl rfl) rfl ?_ | refine SatL.pu (RunV.lenS rfl rfl) rfl ?_
    refine SatL.pu (RunV.lss rfl rfl) rfl ?_
    refine SatL.nil (SatE.thenC ?_)
    refine SatC.cond rfl (fun h2 => ?_) (fun h2 => ?_)
    · (try simp only [cx, ne_eq] at h2)
      try (exfalso; (first | omega | exact h2 trivial | contradiction | (first | omega | (simp at h2; done))); done)
      all_goals
      refine SatC.skip (SatE.thenC ?_)
      refine SatC.seq ?_
      refine SatC.block ?_
      refine SatC.seq ?_
      obtain ⟨y, hy⟩ : ∃ y, D.sv[i]? = some y := ⟨_, List.getElem?_eq_getElem (by omega)⟩
      have hfl := filter_take_len D.sv i fun c => decide (¬ c.id = k)
      have hyo := hone y (List.mem_of_getElem? hy)
      refine SatC.region ?_
      refine SatL.pu (RunV.move rfl) rfl ?_
      first | refine SatL.pu (RunV.nil_ptr rfl) rfl ?_ | refine SatL.pu (RunV.nil_func rfl) rfl ?_ | refine SatL.pu (RunV.nil_yield rfl) rfl ?_
      first | refine SatL.pu (RunV.fieldAddrL rfl rfl rfl) rfl ?_ | refine SatL.pu (RunV.fieldAddr rfl rfl rfl) rfl ?_
      refine SatL.pu (RunV.load1 hS rfl rfl (by repeat constructor) rfl) rfl ?_
      refine SatL.pu (RunV.move rfl) rfl ?_
      first | refine SatL.pu (RunV.indexR (by assumption) rfl rfl rfl (by omega) (by omega) rfl) rfl ?_ | refine SatL.pu (RunV.indexS rfl rfl rfl (by omega) (by omega) rfl) rfl ?_
      first | refine SatL.pu (RunV.fieldAddrL rfl rfl rfl) rfl ?_ | refine SatL.pu (RunV.fieldAddr rfl rfl rfl) rfl ?_
      refine SatL.pu (RunV.loadR1g i 1 (Sl.rd hsS hS (by repeat constructor)) rfl rfl (by omega) (map_get hy) rfl) rfl ?_
      refine SatL.pu (RunV.move rfl) rfl ?_
      refine SatL.pu (RunV.sneq rfl rfl) rfl ?_
      refine SatL.nil (SatE.thenC ?_)
      refine SatC.weak (e' := [(0, _), (1, _), (4, _), (5, _), (6, _), (31, _)]) (by repeat constructor) ?_
      refine SatC.cond rfl (fun h3 => ?_) (fun h3 => ?_)
      · (try simp only [cx, ne_eq] at h3)
        try (exfalso; (first | omega | exact h3 trivial | contradiction | (first | omega | (simp at h3; done))); done)
        all_goals
        refine SatC.region ?_
        refine SatL.pu (RunV.move rfl) rfl ?_
        refine SatL.pu (RunV.move rfl) rfl ?_
        first | refine SatL.pu (RunV.nil_ptr rfl) rfl ?_ | refine SatL.pu (RunV.nil_func rfl) rfl ?_ | refine SatL.pu (RunV.nil_yield rfl) rfl ?_
        first | refine SatL.pu (RunV.fieldAddrL rfl rfl rfl) rfl ?_ | refine SatL.pu (RunV.fieldAddr rfl rfl rfl) rfl ?_
        refine SatL.pu (RunV.load1 hS rfl rfl (by repeat constructor) rfl) rfl ?_
        refine SatL.pu (RunV.move rfl) rfl ?_
        first | refine SatL.pu (RunV.indexR (by assumption) rfl rfl rfl (by omega) (by omega) rfl) rfl ?_ | refine SatL.pu (RunV.indexS rfl rfl rfl (by omega) (by omega) rfl) rfl ?_
        refine SatL.pu (RunV.loadRNz (Sl.rd hsS hS (by repeat constructor)) rfl rfl (map_get hy)) rfl ?_
        refine SatL.op rfl (OpW.buildSlice1 hS rfl rfl rfl rfl rfl (by repeat constructor) rfl rfl rfl ?_)
        clear hS
        intro b40 w3 _ hS
        refine SatL.op rfl (OpW.append1 hsa hS (by repeat constructor) rfl rfl (by repeat constructor) rfl rfl rfl rfl rfl rfl rfl (dsc_one (n := D.node) hyo) (by rw [List.length_map]; omega) rfl ?_)
        clear hS
        intro v41 B41 w4 hsl41 hS
        refine SatL.pu (RunV.assign rfl) rfl ?_
        refine SatL.nil (SatE.blk_normal (SatE.thenC ?_))
        refine SatC.region ?_
        refine SatL.pu (RunV.move rfl) rfl ?_
        refine SatL.pu (RunV.add rfl rfl (by first | exact wrapI64 (by omega) | rfl)) rfl ?_
        refine SatL.pu (RunV.assign rfl) rfl ?_
        refine SatL.nil ?_
        refine SatE.again ((i + 1, v41, B41)) ?_ (by first | omega | (dsimp only; omega)) (by repeat constructor)
        refine ⟨by omega, ?_, hS.sel (by repeat constructor)⟩
        rw [take_y hy (by simp; assumption), List.map_append]; exact hsl41
      · (try simp only [cx, ne_eq] at h3)
        try (exfalso; (first | omega | exact h3 trivial | contradiction | (first | omega | (simp at h3; done))); done)
        all_goals
        refine SatC.skip (SatE.blk_normal (SatE.thenC ?_))
        refine SatC.region ?_
        refine SatL.pu (RunV.move rfl) rfl ?_
        refine SatL.pu (RunV.add rfl rfl (by first | exact wrapI64 (by omega) | rfl)) rfl ?_
        refine SatL.pu (RunV.assign rfl) rfl ?_
        refine SatL.nil ?_
        refine SatE.again ((i + 1, av, AB)) ?_ (by first | omega | (dsimp only; omega)) (by repeat constructor)
        refine ⟨by omega, ?_, hS.sel (by repeat constructor)⟩
        rw [take_n hy (by simp; assumption)]; exact hsa
    · (try simp only [cx, ne_eq] at h2)
      try (exfalso; (first | omega | exact h2 trivial | contradiction | (first | omega | (simp at h2; done))); done)
      all_goals
      refine SatC.exit (SatE.then_exit (SatE.then_exit (SatE.blk_exit (SatE.thenC ?_))))
      refine SatC.seq ?_
      refine SatC.region ?_
      refine SatL.pu (RunV.move rfl) rfl ?_
      refine SatL.pu (RunV.move rfl) rfl ?_
      first | refine SatL.pu (RunV.nil_ptr rfl) rfl ?_ | refine SatL.pu (RunV.nil_func rfl) rfl ?_ | refine SatL.pu (RunV.nil_yield rfl) rfl ?_
      first | refine SatL.pu (RunV.fieldAddrL rfl rfl rfl) rfl ?_ | refine SatL.pu (RunV.fieldAddr rfl rfl rfl) rfl ?_
      refine SatL.op rfl (OpW.storeSv hS rfl rfl hsa (by repeat constructor) (by repeat constructor) rfl ?_)
      clear hS
      intro w3 hS
      refine SatL.nil (SatE.thenC ?_)
      refine SatC.seq ?_
      refine SatC.weak (e' := [(0, _), (1, _), (4, _)]) (by repeat constructor) ?_
      rw [List.take_of_length_le (by omega)] at hsa
      refine SatC.region ?_
      refine SatL.pu (RunV.assign rfl) rfl ?_
      refine SatL.nil (SatE.thenC ?_)
      refine SatC.seq ?_
      refine SatC.seq ?_
      refine SatC.region ?_
      refine SatL.pu (RunV.assign rfl) rfl ?_
      refine SatL.nil (SatE.thenC ?_)
      refine SatC.block ?_
      refine SatC.loopK (G := Nat × Value × List (Nat × Obj)) (V := fun ⟨j, bv, BB⟩ => [(8, .int .i64 (j : Int)), (7, bv)]) (Cn := [(0, _), (1, _), (4, _)]) (I := fun ⟨j, bv, BB⟩ w' => j ≤ D.ch.length ∧ Sl 87 19 bv (((D.ch.take j).filter fun c => decide (¬ c.svc = k)).map (dcc D.node)) BB ∧ St w X (BB ++ (AB ++ (b, C 44 [.int .i64 D.node, str D.addr, av, cv]) :: (SB ++ CB))) w') (μ := fun ⟨j, bv, BB⟩ => D.ch.length - j) (0, .slice none 0 0, []) ?_ (by repeat constructor) ?_
      · exact ⟨Nat.zero_le _, .nil, hS.sel (by repeat constructor)⟩
      clear hS
      rintro ⟨j, bv, BB⟩ w4 ⟨hj, hsb, hS⟩
      refine SatC.weak (e' := [(0, _), (1, _), (4, _), (7, _), (8, _)]) (by repeat constructor) ?_
      refine SatC.seq ?_
      refine SatC.seq ?_
      refine SatC.region ?_
      refine SatL.pu (RunV.move rfl) rfl ?_
      refine SatL.pu (RunV.move rfl) rfl ?_
      first | refine SatL.pu (RunV.nil_ptr rfl) rfl ?_ | refine SatL.pu (RunV.nil_func rfl) rfl ?_ | refine SatL.pu (RunV.nil_yield rfl) rfl ?_
      first | refine SatL.pu (RunV.fieldAddrL rfl rfl rfl) rfl ?_ | refine SatL.pu (RunV.fieldAddr rfl rfl rfl) rfl ?_
      refine SatL.pu (RunV.load1 hS rfl rfl (by repeat constructor) rfl) rfl ?_
      first | refine SatL.pu (RunV.lenR (by assumption) rfl rfl) rfl ?_ | refine SatL.pu (RunV.lenS rfl rfl) rfl ?_
      refine SatL.pu (RunV.lss rfl rfl) rfl ?_
      refine SatL.nil (SatE.thenC ?_)
      refine SatC.cond rfl (fun h3 => ?_) (fun h3 => ?_)
      · (try simp only [cx, ne_eq] at h3)
        try (exfalso; (first | omega | exact h3 trivial | contradiction | (first | omega | (simp at h3; done))); done)
        all_goals
        refine SatC.skip (SatE.thenC ?_)
        refine SatC.seq ?_
        refine SatC.block ?_
        refine SatC.seq ?_
        obtain ⟨z, hz⟩ : ∃ y, D.ch[j]? = some y := ⟨_, List.getElem?_eq_getElem (by omega)⟩
        have hfl := filter_take_len D.ch j fun c => decide (¬ c.svc = k)
        refine SatC.region ?_
        refine SatL.pu (RunV.move rfl) rfl ?_
        first | refine SatL.pu (RunV.nil_ptr rfl) rfl ?_ | refine SatL.pu (RunV.nil_func rfl) rfl ?_ | refine SatL.pu (RunV.nil_yield rfl) rfl ?_
        first | refine SatL.pu (RunV.fieldAddrL rfl rfl rfl) rfl ?_ | refine SatL.pu (RunV.fieldAddr rfl rfl rfl) rfl ?_
        refine SatL.pu (RunV.load1 hS rfl rfl (by repeat constructor) rfl) rfl ?_
        refine SatL.pu (RunV.move rfl) rfl ?_
        first | refine SatL.pu (RunV.indexR (by assumption) rfl rfl rfl (by omega) (by omega) rfl) rfl ?_ | refine SatL.pu (RunV.indexS rfl rfl rfl (by omega) (by omega) rfl) rfl ?_
        first | refine SatL.pu (RunV.fieldAddrL rfl rfl rfl) rfl ?_ | refine SatL.pu (RunV.fieldAddr rfl rfl rfl) rfl ?_
        first | refine SatL.pu (RunV.fieldAddrL rfl rfl rfl) rfl ?_ | refine SatL.pu (RunV.fieldAddr rfl rfl rfl) rfl ?_
        refine SatL.pu (RunV.loadR1g j 2 (Sl.rd hsC hS (by repeat constructor)) rfl rfl (by omega) (map_get hz) rfl) rfl ?_
        refine SatL.pu (RunV.move rfl) rfl ?_
        refine SatL.pu (RunV.sneq rfl rfl) rfl ?_
        refine SatL.nil (SatE.thenC ?_)
        refine SatC.weak (e' := [(0, _), (1, _), (4, _), (7, _), (8, _), (65, _)]) (by repeat constructor) ?_
        refine SatC.cond rfl (fun h4 => ?_) (fun h4 => ?_)
        · (try simp only [cx, ne_eq] at h4)
          try (exfalso; (first | omega | exact h4 trivial | contradiction | (first | omega | (simp at h4; done))); done)
          all_goals
          refine SatC.region ?_
          refine SatL.pu (RunV.move rfl) rfl ?_
          refine SatL.pu (RunV.move rfl) rfl ?_
          first | refine SatL.pu (RunV.nil_ptr rfl) rfl ?_ | refine SatL.pu (RunV.nil_func rfl) rfl ?_ | refine SatL.pu (RunV.nil_yield rfl) rfl ?_
          first | refine SatL.pu (RunV.fieldAddrL rfl rfl rfl) rfl ?_ | refine SatL.pu (RunV.fieldAddr rfl rfl rfl) rfl ?_
          refine SatL.pu (RunV.load1 hS rfl rfl (by repeat constructor) rfl) rfl ?_
          refine SatL.pu (RunV.move rfl) rfl ?_
          first | refine SatL.pu (RunV.indexR (by assumption) rfl rfl rfl (by omega) (by omega) rfl) rfl ?_ | refine SatL.pu (RunV.indexS rfl rfl rfl (by omega) (by omega) rfl) rfl ?_
          refine SatL.pu (RunV.loadRNz (Sl.rd hsC hS (by repeat constructor)) rfl rfl (map_get hz)) rfl ?_
          refine SatL.op rfl (OpW.buildSlice1 hS rfl rfl rfl rfl rfl (by repeat constructor) rfl rfl rfl ?_)
          clear hS
          intro b74 w5 _ hS
          refine SatL.op rfl (OpW.append1 hsb hS (by repeat constructor) rfl rfl (by repeat constructor) rfl rfl rfl rfl rfl rfl rfl rfl (by rw [List.length_map]; omega) rfl ?_)
          clear hS
          intro v75 B75 w6 hsl75 hS
          refine SatL.pu (RunV.assign rfl) rfl ?_
          refine SatL.nil (SatE.blk_normal (SatE.thenC ?_))
          refine SatC.region ?_
          refine SatL.pu (RunV.move rfl) rfl ?_
          refine SatL.pu (RunV.add rfl rfl (by first | exact wrapI64 (by omega) | rfl)) rfl ?_
          refine SatL.pu (RunV.assign rfl) rfl ?_
          refine SatL.nil ?_
          refine SatE.again ((j + 1, v75, B75)) ?_ (by first | omega | (dsimp only; omega)) (by repeat constructor)
          refine ⟨by omega, ?_, hS.sel (by repeat constructor)⟩
          rw [take_y hz (by simp; assumption), List.map_append]; exact hsl75
        · (try simp only [cx, ne_eq] at h4)
          try (exfalso; (first | omega | exact h4 trivial | contradiction | (first | omega | (simp at h4; done))); done)
          all_goals
          refine SatC.skip (SatE.blk_normal (SatE.thenC ?_))
          refine SatC.region ?_
          refine SatL.pu (RunV.move rfl) rfl ?_
          refine SatL.pu (RunV.add rfl rfl (by first | exact wrapI64 (by omega) | rfl)) rfl ?_
          refine SatL.pu (RunV.assign rfl) rfl ?_
          refine SatL.nil ?_
          refine SatE.again ((j + 1, bv, BB)) ?_ (by first | omega | (dsimp only; omega)) (by repeat constructor)
          refine ⟨by omega, ?_, hS.sel (by repeat constructor)⟩
          rw [take_n hz (by simp; assumption)]; exact hsb
      · (try simp only [cx, ne_eq] at h3)
        try (exfalso; (first | omega | exact h3 trivial | contradiction | (first | omega | (simp at h3; done))); done)
        all_goals
        refine SatC.exit (SatE.then_exit (SatE.then_exit (SatE.blk_exit (SatE.thenC ?_))))
        refine SatC.seq ?_
        refine SatC.region ?_
        refine SatL.pu (RunV.move rfl) rfl ?_
        refine SatL.pu (RunV.move rfl) rfl ?_
        first | refine SatL.pu (RunV.nil_ptr rfl) rfl ?_ | refine SatL.pu (RunV.nil_func rfl) rfl ?_ | refine SatL.pu (RunV.nil_yield rfl) rfl ?_
        first | refine SatL.pu (RunV.fieldAddrL rfl rfl rfl) rfl ?_ | refine SatL.pu (RunV.fieldAddr rfl rfl rfl) rfl ?_
        refine SatL.op rfl (OpW.storeSv hS rfl rfl hsb (by repeat constructor) (by repeat constructor) rfl ?_)
        clear hS
        intro w5 hS
        refine SatL.nil (SatE.thenC ?_)
        refine SatC.seq ?_
        refine SatC.weak (e' := [(4, _)]) (by repeat constructor) ?_
        refine SatC.region ?_
        refine SatL.pu (RunV.assign rfl) rfl ?_
        refine SatL.nil (SatE.thenC ?_)
        refine SatC.ret ?_
        refine SatE.ret1 rfl rfl ?_
        rw [List.take_of_length_le (by omega)] at hsb
        have hg : (gt Ds.id D.sv k).isSome = true := by assumption
        rw [if_pos hg, if_pos hg]
        exact ⟨rfl, (b, C 44 [.int .i64 D.node, str D.addr, av, bv]) :: (AB ++ BB), ⟨Nat.le_trans (List.length_filter_le ..) hs16, Nat.le_trans (List.length_filter_le ..) hc16, fun s hs => hone s ((List.filter_sublist ..).subset hs), ((List.filter_sublist ..).map _).nodup hsu, ((List.filter_sublist ..).map _).nodup hcu, av, bv, AB, BB, hsa, hsb, rfl⟩, hS.sel (by repeat constructor)⟩
end
end Go.Proofs.Ytbnkcagcfbpiiaa
