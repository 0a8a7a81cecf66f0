/- What a key is: the program cuts it at its strokes, the document goes over its bytes. -/
import Derived.Test.YtkmgnplaokogbaaUn
set_option linter.unusedSimpArgs false
set_option linter.unusedVariables false
set_option maxRecDepth 100000
set_option maxHeartbeats 1000000
namespace Go.Proofs.Ytkmgnplaokogbaa
open Go.RowKit Go.Lib
def kB (n : Int) : Bool := pl n || decide (n = 45) || decide (n = 95) || decide (n = 46)
/-- At a place: a byte of a part, or a stroke that has a part ahead of it. -/
def keyAt (l : List UInt8) (k : Nat) : Bool := if (l.getD k 0).toNat = 47 then decide (k ≠ 0) && decide ((l.getD (k - 1) 0).toNat ≠ 47) else kB ((l.getD k 0).toNat : Int)
def keyN (l : List UInt8) : Bool := decide (1 ≤ l.length ∧ l.length ≤ 32) && (List.range l.length).all (keyAt l) && decide ((l.getD (l.length - 1) 0).toNat ≠ 47)
theorem keyN_iff (l : List UInt8) : keyN l = true ↔ (1 ≤ l.length ∧ l.length ≤ 32) ∧ (∀ k, k < l.length → keyAt l k = true) ∧ (l.getD (l.length - 1) 0).toNat ≠ 47 := by
  simp [keyN, List.all_eq_true, and_assoc]
theorem keyN_no {l : List UInt8} (h : ¬ ((1 ≤ l.length ∧ l.length ≤ 32) ∧ (∀ k, k < l.length → keyAt l k = true) ∧ (l.getD (l.length - 1) 0).toNat ≠ 47)) : keyN l = false := by
  rw [← Bool.not_eq_true, keyN_iff]
  exact h
theorem key_ref (l : List UInt8) (w : World) : Ret Try.prog 19 #[str l] w fun v w' => v = .bool (keyN l) ∧ St w [] [] w' := by
  have hS := St.init0 w
  refine Ret.enter Try.func19 Try.ntmps19 rfl rfl ?_
  simp only [argEnv, Nat.reduceAdd]
  refine SatC.seq ?_
  refine SatC.region ?_
  refine SatL.pu (RunV.assign rfl) rfl ?_
  refine SatL.nil (SatE.thenC ?_)
  refine SatC.seq ?_
  refine SatC.seq ?_
  refine SatC.region ?_
  refine SatL.pu (RunV.move rfl) rfl ?_
  refine SatL.pu (RunV.lenB rfl rfl) rfl ?_
  refine SatL.pu (RunV.lss rfl rfl) rfl ?_
  refine SatL.pu (RunV.move rfl) rfl ?_
  refine SatL.guard rfl rfl rfl (fun h1 => ?_) (fun h1 => ?_)
  · (try simp only [cx, ne_eq] at h1)
    try (exfalso; (first | omega | exact h1 trivial | contradiction); done)
    all_goals
    refine SatL.pu (RunV.move rfl) rfl ?_
    refine SatL.guard_y rfl rfl ?_
    refine SatL.pu (RunV.lenB rfl rfl) rfl ?_
    refine SatL.guard_y rfl rfl ?_
    refine SatL.pu (RunV.gtr rfl rfl) rfl ?_
    refine SatL.pu (RunV.pick_f rfl rfl) rfl ?_
    refine SatL.nil (SatE.thenC ?_)
    refine SatC.cond rfl (fun h2 => ?_) (fun h2 => ?_)
    · (try simp only [cx, ne_eq] at h2)
      try (exfalso; (first | omega | exact h2 trivial | contradiction); done)
      all_goals
      refine SatC.seq ?_
      refine SatC.region ?_
      refine SatL.pu (RunV.assign rfl) rfl ?_
      refine SatL.nil (SatE.thenC ?_)
      refine SatC.ret (SatE.then_ret ?_)
      refine SatE.ret1 rfl rfl ?_
      refine ⟨congrArg Value.bool ?_, hS⟩
      first
      | exact (keyN_no (fun h => by omega)).symm
      | (refine (keyN_no (fun h => ?_)).symm
         have := h.2.1 i (by omega)
         rw [keyAt, hd] at this
         first
         | (rw [if_pos (by omega)] at this
            simp only [Bool.and_eq_true, decide_eq_true_eq] at this
            first
            | omega
            | (have h3 := h.2.2
               rw [show l.length - 1 = i by omega, hd] at h3
               omega))
         | (rw [if_neg (by omega)] at this
            simp only [kB, Bool.or_eq_true, decide_eq_true_eq] at this
            rcases this with ((h3 | h3) | h3) | h3
            · simp_all
            · omega
            · omega
            · omega))
      | (refine ((keyN_iff l).2 ⟨hn, fun k hk => (hf k (by omega)).1, fun h => ?_⟩).symm
         have := (hf (l.length - 1) (by omega)).2 h
         omega)
    · (try simp only [cx, ne_eq] at h2)
      try (exfalso; (first | omega | exact h2 trivial | contradiction); done)
      all_goals
      refine SatC.skip (SatE.thenC ?_)
      refine SatC.seq ?_
      refine SatC.seq ?_
      refine SatC.region ?_
      refine SatL.pu (RunV.assign rfl) rfl ?_
      refine SatL.nil (SatE.thenC ?_)
      refine SatC.block ?_
      refine SatC.loopK (G := Nat) (V := fun i => [(3, .int .i64 (i : Int))]) (Cn := [(0, _), (2, _)]) (I := fun i w' => i ≤ l.length ∧ (1 ≤ l.length ∧ l.length ≤ 32) ∧ (∀ j, j < i → keyAt l j = true ∧ ((l.getD j 0).toNat = 47 → j + 1 < l.length)) ∧ St w [] [] w') (μ := fun i => l.length - i) 0 ?_ (by repeat constructor) ?_
      · exact ⟨Nat.zero_le _, ⟨by omega, by omega⟩, fun j h => by omega, hS⟩
      clear hS
      rintro i w1 ⟨hi, hn, hf, hS⟩
      refine SatC.weak (e' := [(0, _), (2, _), (3, _)]) (by repeat constructor) ?_
      refine SatC.seq ?_
      refine SatC.seq ?_
      refine SatC.region ?_
      refine SatL.pu (RunV.move rfl) rfl ?_
      refine SatL.pu (RunV.move rfl) rfl ?_
      refine SatL.pu (RunV.lenB rfl rfl) rfl ?_
      refine SatL.pu (RunV.lss rfl rfl) rfl ?_
      refine SatL.nil (SatE.thenC ?_)
      refine SatC.cond rfl (fun h3 => ?_) (fun h3 => ?_)
      · (try simp only [cx, ne_eq] at h3)
        try (exfalso; (first | omega | exact h3 trivial | contradiction); done)
        all_goals
        refine SatC.skip (SatE.thenC ?_)
        refine SatC.seq ?_
        refine SatC.block ?_
        refine SatC.seq ?_
        obtain ⟨y, hy⟩ := get_some l i (by omega)
        have hd := getD_of hy
        have hp : 1 ≤ i → l[((i : Int) - 1).toNat]? = some (l.getD (i - 1) 0) := fun h => by
          obtain ⟨z, hz⟩ := get_some l (i - 1) (by omega)
          rw [getD_of hz, show ((i : Int) - 1).toNat = i - 1 by omega]
          exact hz
        refine SatC.region ?_
        refine SatL.pu (RunV.move rfl) rfl ?_
        refine SatL.pu (RunV.move rfl) rfl ?_
        refine SatL.pu (RunV.indexB rfl rfl rfl (by omega) (by first | assumption | rfl)) rfl ?_
        refine SatL.pu (RunV.eql rfl rfl) rfl ?_
        refine SatL.nil (SatE.thenC ?_)
        refine SatC.cond rfl (fun h4 => ?_) (fun h4 => ?_)
        · (try simp only [cx, ne_eq] at h4)
          try (exfalso; (first | omega | exact h4 trivial | contradiction); done)
          all_goals
          refine SatC.seq ?_
          refine SatC.region ?_
          refine SatL.pu (RunV.move rfl) rfl ?_
          refine SatL.pu (RunV.eql rfl rfl) rfl ?_
          refine SatL.pu (RunV.move rfl) rfl ?_
          refine SatL.guard rfl rfl rfl (fun h5 => ?_) (fun h5 => ?_)
          · (try simp only [cx, ne_eq] at h5)
            try (exfalso; (first | omega | exact h5 trivial | contradiction); done)
            all_goals
            refine SatL.pu (RunV.move rfl) rfl ?_
            refine SatL.guard_y rfl rfl ?_
            refine SatL.pu (RunV.move rfl) rfl ?_
            refine SatL.guard_y rfl rfl ?_
            refine SatL.pu (RunV.lenB rfl rfl) rfl ?_
            refine SatL.guard_y rfl rfl ?_
            refine SatL.pu (RunV.sub rfl rfl (by first | exact wrapI64 (by omega) | rfl)) rfl ?_
            refine SatL.guard_y rfl rfl ?_
            refine SatL.pu (RunV.eql rfl rfl) rfl ?_
            refine SatL.pu (RunV.pick_f rfl rfl) rfl ?_
            refine SatL.pu (RunV.move rfl) rfl ?_
            refine SatL.guard rfl rfl rfl (fun h6 => ?_) (fun h6 => ?_)
            · (try simp only [cx, ne_eq] at h6)
              try (exfalso; (first | omega | exact h6 trivial | contradiction); done)
              all_goals
              refine SatL.pu (RunV.move rfl) rfl ?_
              refine SatL.guard_y rfl rfl ?_
              refine SatL.pu (RunV.move rfl) rfl ?_
              refine SatL.guard_y rfl rfl ?_
              refine SatL.pu (RunV.sub rfl rfl (by first | exact wrapI64 (by omega) | rfl)) rfl ?_
              refine SatL.guard_y rfl rfl ?_
              refine SatL.pu (RunV.indexB rfl rfl rfl (by omega) (hp (by omega))) rfl ?_
              refine SatL.guard_y rfl rfl ?_
              refine SatL.pu (RunV.eql rfl rfl) rfl ?_
              refine SatL.pu (RunV.pick_f rfl rfl) rfl ?_
              refine SatL.nil (SatE.thenC ?_)
              refine SatC.weak (e' := [(0, _), (2, _), (3, _), (37, _)]) (by repeat constructor) ?_
              refine SatC.cond rfl (fun h7 => ?_) (fun h7 => ?_)
              · (try simp only [cx, ne_eq] at h7)
                try (exfalso; (first | omega | exact h7 trivial | contradiction); done)
                all_goals
                refine SatC.seq ?_
                refine SatC.region ?_
                refine SatL.pu (RunV.assign rfl) rfl ?_
                refine SatL.nil (SatE.thenC ?_)
                refine SatC.ret (SatE.blk_ret (SatE.then_ret (SatE.then_ret (SatE.blk_ret (SatE.then_ret ?_)))))
                refine SatE.ret1 rfl rfl ?_
                refine ⟨congrArg Value.bool ?_, hS⟩
                first
                | exact (keyN_no (fun h => by omega)).symm
                | (refine (keyN_no (fun h => ?_)).symm
                   have := h.2.1 i (by omega)
                   rw [keyAt, hd] at this
                   first
                   | (rw [if_pos (by omega)] at this
                      simp only [Bool.and_eq_true, decide_eq_true_eq] at this
                      first
                      | omega
                      | (have h3 := h.2.2
                         rw [show l.length - 1 = i by omega, hd] at h3
                         omega))
                   | (rw [if_neg (by omega)] at this
                      simp only [kB, Bool.or_eq_true, decide_eq_true_eq] at this
                      rcases this with ((h3 | h3) | h3) | h3
                      · simp_all
                      · omega
                      · omega
                      · omega))
                | (refine ((keyN_iff l).2 ⟨hn, fun k hk => (hf k (by omega)).1, fun h => ?_⟩).symm
                   have := (hf (l.length - 1) (by omega)).2 h
                   omega)
              · (try simp only [cx, ne_eq] at h7)
                try (exfalso; (first | omega | exact h7 trivial | contradiction); done)
                all_goals
                refine SatC.skip (SatE.blk_normal (SatE.thenC ?_))
                refine SatC.region ?_
                refine SatL.pu (RunV.move rfl) rfl ?_
                refine SatL.pu (RunV.add rfl rfl (by first | exact wrapI64 (by omega) | rfl)) rfl ?_
                refine SatL.pu (RunV.assign rfl) rfl ?_
                refine SatL.nil ?_
                refine SatE.again (i + 1) ?_ (by first | omega | (dsimp only; omega)) (by repeat constructor)
                refine ⟨by omega, hn, fun j hj => ?_, hS⟩
                rcases Nat.lt_or_ge j i with h' | h'
                · exact hf j h'
                · obtain rfl : j = i := by omega
                  rw [keyAt, hd]
                  first
                  | (rw [if_pos (by omega)]
                     refine ⟨?_, fun _ => by omega⟩
                     simp only [Bool.and_eq_true, decide_eq_true_eq]
                     omega)
                  | (rw [if_neg (by omega)]
                     refine ⟨?_, fun h => by omega⟩
                     simp only [kB, Bool.or_eq_true, decide_eq_true_eq]
                     first | (left; left; left; assumption) | (left; left; right; omega) | (left; right; omega) | (right; omega))
            · (try simp only [cx, ne_eq] at h6)
              try (exfalso; (first | omega | exact h6 trivial | contradiction); done)
              all_goals
              refine SatL.guard_n rfl rfl rfl rfl ?_
              refine SatL.guard_n rfl rfl rfl rfl ?_
              refine SatL.guard_n rfl rfl rfl rfl ?_
              refine SatL.guard_n rfl rfl rfl rfl ?_
              refine SatL.pu (RunV.pick_t rfl rfl) rfl ?_
              refine SatL.nil (SatE.thenC ?_)
              refine SatC.weak (e' := [(0, _), (2, _), (3, _), (37, _)]) (by repeat constructor) ?_
              refine SatC.cond_t rfl ?_
              refine SatC.seq ?_
              refine SatC.region ?_
              refine SatL.pu (RunV.assign rfl) rfl ?_
              refine SatL.nil (SatE.thenC ?_)
              refine SatC.ret (SatE.blk_ret (SatE.then_ret (SatE.then_ret (SatE.blk_ret (SatE.then_ret ?_)))))
              refine SatE.ret1 rfl rfl ?_
              refine ⟨congrArg Value.bool ?_, hS⟩
              first
              | exact (keyN_no (fun h => by omega)).symm
              | (refine (keyN_no (fun h => ?_)).symm
                 have := h.2.1 i (by omega)
                 rw [keyAt, hd] at this
                 first
                 | (rw [if_pos (by omega)] at this
                    simp only [Bool.and_eq_true, decide_eq_true_eq] at this
                    first
                    | omega
                    | (have h3 := h.2.2
                       rw [show l.length - 1 = i by omega, hd] at h3
                       omega))
                 | (rw [if_neg (by omega)] at this
                    simp only [kB, Bool.or_eq_true, decide_eq_true_eq] at this
                    rcases this with ((h3 | h3) | h3) | h3
                    · simp_all
                    · omega
                    · omega
                    · omega))
              | (refine ((keyN_iff l).2 ⟨hn, fun k hk => (hf k (by omega)).1, fun h => ?_⟩).symm
                 have := (hf (l.length - 1) (by omega)).2 h
                 omega)
          · (try simp only [cx, ne_eq] at h5)
            try (exfalso; (first | omega | exact h5 trivial | contradiction); done)
            all_goals
            refine SatL.guard_n rfl rfl rfl rfl ?_
            refine SatL.guard_n rfl rfl rfl rfl ?_
            refine SatL.guard_n rfl rfl rfl rfl ?_
            refine SatL.guard_n rfl rfl rfl rfl ?_
            refine SatL.pu (RunV.pick_t rfl rfl) rfl ?_
            refine SatL.pu (RunV.move rfl) rfl ?_
            refine SatL.guard_n rfl rfl rfl rfl ?_
            refine SatL.guard_n rfl rfl rfl rfl ?_
            refine SatL.guard_n rfl rfl rfl rfl ?_
            refine SatL.guard_n rfl rfl rfl rfl ?_
            refine SatL.guard_n rfl rfl rfl rfl ?_
            refine SatL.pu (RunV.pick_t rfl rfl) rfl ?_
            refine SatL.nil (SatE.thenC ?_)
            refine SatC.weak (e' := [(0, _), (2, _), (3, _), (37, _)]) (by repeat constructor) ?_
            refine SatC.cond_t rfl ?_
            refine SatC.seq ?_
            refine SatC.region ?_
            refine SatL.pu (RunV.assign rfl) rfl ?_
            refine SatL.nil (SatE.thenC ?_)
            refine SatC.ret (SatE.blk_ret (SatE.then_ret (SatE.then_ret (SatE.blk_ret (SatE.then_ret ?_)))))
            refine SatE.ret1 rfl rfl ?_
            refine ⟨congrArg Value.bool ?_, hS⟩
            first
            | exact (keyN_no (fun h => by omega)).symm
            | (refine (keyN_no (fun h => ?_)).symm
               have := h.2.1 i (by omega)
               rw [keyAt, hd] at this
               first
               | (rw [if_pos (by omega)] at this
                  simp only [Bool.and_eq_true, decide_eq_true_eq] at this
                  first
                  | omega
                  | (have h3 := h.2.2
                     rw [show l.length - 1 = i by omega, hd] at h3
                     omega))
               | (rw [if_neg (by omega)] at this
                  simp only [kB, Bool.or_eq_true, decide_eq_true_eq] at this
                  rcases this with ((h3 | h3) | h3) | h3
                  · simp_all
                  · omega
                  · omega
                  · omega))
            | (refine ((keyN_iff l).2 ⟨hn, fun k hk => (hf k (by omega)).1, fun h => ?_⟩).symm
               have := (hf (l.length - 1) (by omega)).2 h
               omega)
        · (try simp only [cx, ne_eq] at h4)
          try (exfalso; (first | omega | exact h4 trivial | contradiction); done)
          all_goals
          refine SatC.seq ?_
          refine SatC.region ?_
          refine SatL.pu (RunV.move rfl) rfl ?_
          refine SatL.pu (RunV.move rfl) rfl ?_
          refine SatL.pu (RunV.indexB rfl rfl rfl (by omega) (by first | assumption | rfl)) rfl ?_
          refine SatL.op rfl (OpW.enter rfl rfl rfl (rfl) (plain_ref _ _) ?_)
          rintro r2 w2 ⟨rfl, h⟩
          replace hS := St.callN hS h
          refine SatL.pu (RunV.not rfl) rfl ?_
          refine SatL.pu (RunV.move rfl) rfl ?_
          refine SatL.guard rfl rfl rfl (fun h5 => ?_) (fun h5 => ?_)
          · (try simp only [cx, ne_eq] at h5)
            try (exfalso; (first | omega | exact h5 trivial | contradiction); done)
            all_goals
            refine SatL.pu (RunV.move rfl) rfl ?_
            refine SatL.guard_y rfl rfl ?_
            refine SatL.pu (RunV.move rfl) rfl ?_
            refine SatL.guard_y rfl rfl ?_
            refine SatL.pu (RunV.indexB rfl rfl rfl (by omega) (by first | assumption | rfl)) rfl ?_
            refine SatL.guard_y rfl rfl ?_
            refine SatL.pu (RunV.neq rfl rfl) rfl ?_
            refine SatL.pu (RunV.pick_t rfl rfl) rfl ?_
            refine SatL.pu (RunV.move rfl) rfl ?_
            refine SatL.guard rfl rfl rfl (fun h6 => ?_) (fun h6 => ?_)
            · (try simp only [cx, ne_eq] at h6)
              try (exfalso; (first | omega | exact h6 trivial | contradiction); done)
              all_goals
              refine SatL.pu (RunV.move rfl) rfl ?_
              refine SatL.guard_y rfl rfl ?_
              refine SatL.pu (RunV.move rfl) rfl ?_
              refine SatL.guard_y rfl rfl ?_
              refine SatL.pu (RunV.indexB rfl rfl rfl (by omega) (by first | assumption | rfl)) rfl ?_
              refine SatL.guard_y rfl rfl ?_
              refine SatL.pu (RunV.neq rfl rfl) rfl ?_
              refine SatL.pu (RunV.pick_t rfl rfl) rfl ?_
              refine SatL.pu (RunV.move rfl) rfl ?_
              refine SatL.guard rfl rfl rfl (fun h7 => ?_) (fun h7 => ?_)
              · (try simp only [cx, ne_eq] at h7)
                try (exfalso; (first | omega | exact h7 trivial | contradiction); done)
                all_goals
                refine SatL.pu (RunV.move rfl) rfl ?_
                refine SatL.guard_y rfl rfl ?_
                refine SatL.pu (RunV.move rfl) rfl ?_
                refine SatL.guard_y rfl rfl ?_
                refine SatL.pu (RunV.indexB rfl rfl rfl (by omega) (by first | assumption | rfl)) rfl ?_
                refine SatL.guard_y rfl rfl ?_
                refine SatL.pu (RunV.neq rfl rfl) rfl ?_
                refine SatL.pu (RunV.pick_t rfl rfl) rfl ?_
                refine SatL.nil (SatE.thenC ?_)
                refine SatC.weak (e' := [(0, _), (2, _), (3, _), (60, _)]) (by repeat constructor) ?_
                refine SatC.cond rfl (fun h8 => ?_) (fun h8 => ?_)
                · (try simp only [cx, ne_eq] at h8)
                  try (exfalso; (first | omega | exact h8 trivial | contradiction); done)
                  all_goals
                  refine SatC.seq ?_
                  refine SatC.region ?_
                  refine SatL.pu (RunV.assign rfl) rfl ?_
                  refine SatL.nil (SatE.thenC ?_)
                  refine SatC.ret (SatE.blk_ret (SatE.then_ret (SatE.then_ret (SatE.blk_ret (SatE.then_ret ?_)))))
                  refine SatE.ret1 rfl rfl ?_
                  refine ⟨congrArg Value.bool ?_, hS⟩
                  first
                  | exact (keyN_no (fun h => by omega)).symm
                  | (refine (keyN_no (fun h => ?_)).symm
                     have := h.2.1 i (by omega)
                     rw [keyAt, hd] at this
                     first
                     | (rw [if_pos (by omega)] at this
                        simp only [Bool.and_eq_true, decide_eq_true_eq] at this
                        first
                        | omega
                        | (have h3 := h.2.2
                           rw [show l.length - 1 = i by omega, hd] at h3
                           omega))
                     | (rw [if_neg (by omega)] at this
                        simp only [kB, Bool.or_eq_true, decide_eq_true_eq] at this
                        rcases this with ((h3 | h3) | h3) | h3
                        · simp_all
                        · omega
                        · omega
                        · omega))
                  | (refine ((keyN_iff l).2 ⟨hn, fun k hk => (hf k (by omega)).1, fun h => ?_⟩).symm
                     have := (hf (l.length - 1) (by omega)).2 h
                     omega)
                · (try simp only [cx, ne_eq] at h8)
                  try (exfalso; (first | omega | exact h8 trivial | contradiction); done)
                  all_goals
                  refine SatC.skip (SatE.blk_normal (SatE.thenC ?_))
                  refine SatC.region ?_
                  refine SatL.pu (RunV.move rfl) rfl ?_
                  refine SatL.pu (RunV.add rfl rfl (by first | exact wrapI64 (by omega) | rfl)) rfl ?_
                  refine SatL.pu (RunV.assign rfl) rfl ?_
                  refine SatL.nil ?_
                  refine SatE.again (i + 1) ?_ (by first | omega | (dsimp only; omega)) (by repeat constructor)
                  refine ⟨by omega, hn, fun j hj => ?_, hS⟩
                  rcases Nat.lt_or_ge j i with h' | h'
                  · exact hf j h'
                  · obtain rfl : j = i := by omega
                    rw [keyAt, hd]
                    first
                    | (rw [if_pos (by omega)]
                       refine ⟨?_, fun _ => by omega⟩
                       simp only [Bool.and_eq_true, decide_eq_true_eq]
                       omega)
                    | (rw [if_neg (by omega)]
                       refine ⟨?_, fun h => by omega⟩
                       simp only [kB, Bool.or_eq_true, decide_eq_true_eq]
                       first | (left; left; left; assumption) | (left; left; right; omega) | (left; right; omega) | (right; omega))
              · (try simp only [cx, ne_eq] at h7)
                try (exfalso; (first | omega | exact h7 trivial | contradiction); done)
                all_goals
                refine SatL.guard_n rfl rfl rfl rfl ?_
                refine SatL.guard_n rfl rfl rfl rfl ?_
                refine SatL.guard_n rfl rfl rfl rfl ?_
                refine SatL.pu (RunV.pick_f rfl rfl) rfl ?_
                refine SatL.nil (SatE.thenC ?_)
                refine SatC.weak (e' := [(0, _), (2, _), (3, _), (60, _)]) (by repeat constructor) ?_
                refine SatC.cond_f rfl ?_
                refine SatC.skip (SatE.blk_normal (SatE.thenC ?_))
                refine SatC.region ?_
                refine SatL.pu (RunV.move rfl) rfl ?_
                refine SatL.pu (RunV.add rfl rfl (by first | exact wrapI64 (by omega) | rfl)) rfl ?_
                refine SatL.pu (RunV.assign rfl) rfl ?_
                refine SatL.nil ?_
                refine SatE.again (i + 1) ?_ (by first | omega | (dsimp only; omega)) (by repeat constructor)
                refine ⟨by omega, hn, fun j hj => ?_, hS⟩
                rcases Nat.lt_or_ge j i with h' | h'
                · exact hf j h'
                · obtain rfl : j = i := by omega
                  rw [keyAt, hd]
                  first
                  | (rw [if_pos (by omega)]
                     refine ⟨?_, fun _ => by omega⟩
                     simp only [Bool.and_eq_true, decide_eq_true_eq]
                     omega)
                  | (rw [if_neg (by omega)]
                     refine ⟨?_, fun h => by omega⟩
                     simp only [kB, Bool.or_eq_true, decide_eq_true_eq]
                     first | (left; left; left; assumption) | (left; left; right; omega) | (left; right; omega) | (right; omega))
            · (try simp only [cx, ne_eq] at h6)
              try (exfalso; (first | omega | exact h6 trivial | contradiction); done)
              all_goals
              refine SatL.guard_n rfl rfl rfl rfl ?_
              refine SatL.guard_n rfl rfl rfl rfl ?_
              refine SatL.guard_n rfl rfl rfl rfl ?_
              refine SatL.pu (RunV.pick_f rfl rfl) rfl ?_
              refine SatL.pu (RunV.move rfl) rfl ?_
              refine SatL.guard_n rfl rfl rfl rfl ?_
              refine SatL.guard_n rfl rfl rfl rfl ?_
              refine SatL.guard_n rfl rfl rfl rfl ?_
              refine SatL.guard_n rfl rfl rfl rfl ?_
              refine SatL.pu (RunV.pick_f rfl rfl) rfl ?_
              refine SatL.nil (SatE.thenC ?_)
              refine SatC.weak (e' := [(0, _), (2, _), (3, _), (60, _)]) (by repeat constructor) ?_
              refine SatC.cond_f rfl ?_
              refine SatC.skip (SatE.blk_normal (SatE.thenC ?_))
              refine SatC.region ?_
              refine SatL.pu (RunV.move rfl) rfl ?_
              refine SatL.pu (RunV.add rfl rfl (by first | exact wrapI64 (by omega) | rfl)) rfl ?_
              refine SatL.pu (RunV.assign rfl) rfl ?_
              refine SatL.nil ?_
              refine SatE.again (i + 1) ?_ (by first | omega | (dsimp only; omega)) (by repeat constructor)
              refine ⟨by omega, hn, fun j hj => ?_, hS⟩
              rcases Nat.lt_or_ge j i with h' | h'
              · exact hf j h'
              · obtain rfl : j = i := by omega
                rw [keyAt, hd]
                first
                | (rw [if_pos (by omega)]
                   refine ⟨?_, fun _ => by omega⟩
                   simp only [Bool.and_eq_true, decide_eq_true_eq]
                   omega)
                | (rw [if_neg (by omega)]
                   refine ⟨?_, fun h => by omega⟩
                   simp only [kB, Bool.or_eq_true, decide_eq_true_eq]
                   first | (left; left; left; assumption) | (left; left; right; omega) | (left; right; omega) | (right; omega))
          · (try simp only [cx, ne_eq] at h5)
            try (exfalso; (first | omega | exact h5 trivial | contradiction); done)
            all_goals
            refine SatL.guard_n rfl rfl rfl rfl ?_
            refine SatL.guard_n rfl rfl rfl rfl ?_
            refine SatL.guard_n rfl rfl rfl rfl ?_
            refine SatL.pu (RunV.pick_f rfl rfl) rfl ?_
            refine SatL.pu (RunV.move rfl) rfl ?_
            refine SatL.guard_n rfl rfl rfl rfl ?_
            refine SatL.guard_n rfl rfl rfl rfl ?_
            refine SatL.guard_n rfl rfl rfl rfl ?_
            refine SatL.guard_n rfl rfl rfl rfl ?_
            refine SatL.pu (RunV.pick_f rfl rfl) rfl ?_
            refine SatL.pu (RunV.move rfl) rfl ?_
            refine SatL.guard_n rfl rfl rfl rfl ?_
            refine SatL.guard_n rfl rfl rfl rfl ?_
            refine SatL.guard_n rfl rfl rfl rfl ?_
            refine SatL.guard_n rfl rfl rfl rfl ?_
            refine SatL.pu (RunV.pick_f rfl rfl) rfl ?_
            refine SatL.nil (SatE.thenC ?_)
            refine SatC.weak (e' := [(0, _), (2, _), (3, _), (60, _)]) (by repeat constructor) ?_
            refine SatC.cond_f rfl ?_
            refine SatC.skip (SatE.blk_normal (SatE.thenC ?_))
            refine SatC.region ?_
            refine SatL.pu (RunV.move rfl) rfl ?_
            refine SatL.pu (RunV.add rfl rfl (by first | exact wrapI64 (by omega) | rfl)) rfl ?_
            refine SatL.pu (RunV.assign rfl) rfl ?_
            refine SatL.nil ?_
            refine SatE.again (i + 1) ?_ (by first | omega | (dsimp only; omega)) (by repeat constructor)
            refine ⟨by omega, hn, fun j hj => ?_, hS⟩
            rcases Nat.lt_or_ge j i with h' | h'
            · exact hf j h'
            · obtain rfl : j = i := by omega
              rw [keyAt, hd]
              first
              | (rw [if_pos (by omega)]
                 refine ⟨?_, fun _ => by omega⟩
                 simp only [Bool.and_eq_true, decide_eq_true_eq]
                 omega)
              | (rw [if_neg (by omega)]
                 refine ⟨?_, fun h => by omega⟩
                 simp only [kB, Bool.or_eq_true, decide_eq_true_eq]
                 first | (left; left; left; assumption) | (left; left; right; omega) | (left; right; omega) | (right; omega))
      · (try simp only [cx, ne_eq] at h3)
        try (exfalso; (first | omega | exact h3 trivial | contradiction); done)
        all_goals
        refine SatC.exit (SatE.then_exit (SatE.then_exit (SatE.blk_exit (SatE.thenC ?_))))
        refine SatC.seq ?_
        refine SatC.region ?_
        refine SatL.pu (RunV.assign rfl) rfl ?_
        refine SatL.nil (SatE.thenC ?_)
        refine SatC.ret ?_
        refine SatE.ret1 rfl rfl ?_
        refine ⟨congrArg Value.bool ?_, hS⟩
        first
        | exact (keyN_no (fun h => by omega)).symm
        | (refine (keyN_no (fun h => ?_)).symm
           have := h.2.1 i (by omega)
           rw [keyAt, hd] at this
           first
           | (rw [if_pos (by omega)] at this
              simp only [Bool.and_eq_true, decide_eq_true_eq] at this
              first
              | omega
              | (have h3 := h.2.2
                 rw [show l.length - 1 = i by omega, hd] at h3
                 omega))
           | (rw [if_neg (by omega)] at this
              simp only [kB, Bool.or_eq_true, decide_eq_true_eq] at this
              rcases this with ((h3 | h3) | h3) | h3
              · simp_all
              · omega
              · omega
              · omega))
        | (refine ((keyN_iff l).2 ⟨hn, fun k hk => (hf k (by omega)).1, fun h => ?_⟩).symm
           have := (hf (l.length - 1) (by omega)).2 h
           omega)
  · (try simp only [cx, ne_eq] at h1)
    try (exfalso; (first | omega | exact h1 trivial | contradiction); done)
    all_goals
    refine SatL.guard_n rfl rfl rfl rfl ?_
    refine SatL.guard_n rfl rfl rfl rfl ?_
    refine SatL.pu (RunV.pick_t rfl rfl) rfl ?_
    refine SatL.nil (SatE.thenC ?_)
    refine SatC.cond_t rfl ?_
    refine SatC.seq ?_
    refine SatC.region ?_
    refine SatL.pu (RunV.assign rfl) rfl ?_
    refine SatL.nil (SatE.thenC ?_)
    refine SatC.ret (SatE.then_ret ?_)
    refine SatE.ret1 rfl rfl ?_
    refine ⟨congrArg Value.bool ?_, hS⟩
    first
    | exact (keyN_no (fun h => by omega)).symm
    | (refine (keyN_no (fun h => ?_)).symm
       have := h.2.1 i (by omega)
       rw [keyAt, hd] at this
       first
       | (rw [if_pos (by omega)] at this
          simp only [Bool.and_eq_true, decide_eq_true_eq] at this
          first
          | omega
          | (have h3 := h.2.2
             rw [show l.length - 1 = i by omega, hd] at h3
             omega))
       | (rw [if_neg (by omega)] at this
          simp only [kB, Bool.or_eq_true, decide_eq_true_eq] at this
          rcases this with ((h3 | h3) | h3) | h3
          · simp_all
          · omega
          · omega
          · omega))
    | (refine ((keyN_iff l).2 ⟨hn, fun k hk => (hf k (by omega)).1, fun h => ?_⟩).symm
       have := (hf (l.length - 1) (by omega)).2 h
       omega)
end Go.Proofs.Ytkmgnplaokogbaa
