/- NameParts: a text and one of its heads. -/
import Derived.Test.YtkmgnplaokogbaaR
import Derived.Test.YtkmgnplaokogbaaK7
import Derived.Test.YtkmgnplaokogbaaK16
import Derived.Test.YtkmgnplaokogbaaRows
set_option linter.unusedSimpArgs false
set_option linter.unusedVariables false
set_option maxRecDepth 100000
set_option maxHeartbeats 1000000
namespace Go.Proofs.Ytkmgnplaokogbaa
open Go.RowKit Go.ChangeShapes Go.WideShapes Go.ChangeAt
theorem u8_of {n : Int} (h : 0 ≤ n ∧ n ≤ 255) : ∃ a : UInt8, n = (a.toNat : Int) := ⟨UInt8.ofNat n.toNat, by rw [UInt8.toNat_ofNat']; omega⟩
theorem under_self (l : List UInt8) : under l l = true := by simp [under]
theorem key_nil (l : List UInt8) (h : (l.length : Int) = 0) : keyN l = false := keyN_no fun hh => by omega
theorem cut_at (b : Int) (n : Nat) (hb : 0 ≤ b ∧ b ≤ 255) : ∃ k : Nat, k ≤ n ∧ b.tmod ((n : Int) + 1) = (k : Int) := by
  have h0 : 0 ≤ b.tmod ((n : Int) + 1) := Int.tmod_nonneg _ hb.1
  have h1 : b.tmod ((n : Int) + 1) < (n : Int) + 1 := Int.tmod_lt_of_pos _ (by omega)
  generalize b.tmod ((n : Int) + 1) = z at *
  exact ⟨z.toNat, by omega, by omega⟩
theorem under_take (a : List UInt8) (k : Nat) (hk : k ≤ a.length) : under a (a.take k) = (decide (k = 0) || decide (k = a.length) || decide ((a.getD (k - 1) 0).toNat = 47) || decide ((a.getD k 0).toNat = 47)) := by
  have hl : (a.take k).length = k := by rw [List.length_take]; omega
  have hg : 0 < k → (a.take k).getD (k - 1) 0 = a.getD (k - 1) 0 := fun h => by
    simp only [List.getD_eq_getElem?_getD]
    rw [List.getElem?_take_of_lt (by omega)]
  rw [Bool.eq_iff_iff]
  simp only [under, hl, Bool.or_eq_true, decide_eq_true_eq, true_and, hk]
  rcases Nat.eq_zero_or_pos k with h0 | h0
  · simp [h0]
  · rw [hg h0]
    simp only [or_assoc]
theorem ut1 (a : List UInt8) (k : Nat) (hk : k ≤ a.length) (h1 : ¬ (k : Int) = 0) (h2 : ¬ (k : Int) = a.length) (h3 : ¬ ((a.getD k 0).toNat : Int) = 47) : under a (a.take (k : Int).toNat) = decide (((a.getD (k - 1) 0).toNat : Int) = 47) := by
  rw [Int.toNat_natCast, under_take a k hk, decide_eq_false (by omega : ¬ k = 0), decide_eq_false (by omega : ¬ k = a.length), decide_eq_false (by omega : ¬ (a.getD k 0).toNat = 47), Bool.eq_iff_iff]
  simp only [Bool.false_or, Bool.or_false, decide_eq_true_eq]
  omega
theorem ut2 (a : List UInt8) (k : Nat) (hk : k ≤ a.length) (h1 : (k : Int) = 0 ∨ (k : Int) = a.length ∨ ((a.getD k 0).toNat : Int) = 47) : under a (a.take (k : Int).toNat) = true := by
  rw [Int.toNat_natCast, under_take a k hk]
  simp only [Bool.or_eq_true, decide_eq_true_eq]
  omega
theorem parts_any (a : List UInt8) (b : Int) (w : World) (ha : a.length ≤ 140737488351232) (hb : 0 ≤ b ∧ b ≤ 255) : Ret Try.prog 6 #[str a, .int .u8 b] w fun u w' => u = .bool true ∧ St w [] [] w' := by
  have hS := St.init0 w
  obtain ⟨k, hk, hkv⟩ := cut_at b a.length hb
  have hut := under_take a k hk
  have hy : k < a.length → a[(k : Int).toNat]? = some (a.getD k 0) := fun h => by
    obtain ⟨z, hz⟩ := get_some a k h
    rw [getD_of hz]
    exact hz
  have hx : 0 < k → a[((k : Int) - 1).toNat]? = some (a.getD (k - 1) 0) := fun h => by
    obtain ⟨z, hz⟩ := get_some a (k - 1) (by omega)
    rw [getD_of hz, show ((k : Int) - 1).toNat = k - 1 by omega]
    exact hz
  refine Ret.enter Try.func6 Try.ntmps6 rfl rfl ?_
  simp only [argEnv, Nat.reduceAdd]
  refine SatC.seq ?_
  refine SatC.region ?_
  refine SatL.pu (RunV.assign rfl) rfl ?_
  refine SatL.nil (SatE.thenC ?_)
  refine SatC.seq ?_
  refine SatC.seq ?_
  refine SatC.region ?_
  refine SatL.pu (RunV.move rfl) rfl ?_
  refine SatL.pu (RunV.lenB rfl rfl) rfl ?_
  refine SatL.pu (RunV.eql rfl rfl) rfl ?_
  refine SatL.nil (SatE.thenC ?_)
  refine SatC.cond rfl (fun h1 => ?_) (fun h1 => ?_)
  · (try simp only [cx, ne_eq] at h1)
    try (exfalso; (first | omega | exact h1 trivial | contradiction | (have := key_nil a (by assumption); simp_all; done) | (have := under_self a; simp_all; done) | exact h1 rfl | exact h1 (ut1 a k hk (by assumption) (by assumption) (by assumption)) | exact h1 (ut2 a k hk (by omega))); done)
    all_goals
    refine SatC.seq ?_
    refine SatC.region ?_
    refine SatL.pu (RunV.move rfl) rfl ?_
    refine SatL.op rfl (OpW.enter rfl rfl rfl (rfl) (key_any _ _) ?_)
    rintro r1 w1 ⟨rfl, h⟩
    replace hS := St.callN hS h
    refine SatL.pu (RunV.not rfl) rfl ?_
    refine SatL.pu (RunV.move rfl) rfl ?_
    refine SatL.guard rfl rfl rfl (fun h2 => ?_) (fun h2 => ?_)
    · (try simp only [cx, ne_eq] at h2)
      try (exfalso; (first | omega | exact h2 trivial | contradiction | (have := key_nil a (by assumption); simp_all; done) | (have := under_self a; simp_all; done) | exact h2 rfl | exact h2 (ut1 a k hk (by assumption) (by assumption) (by assumption)) | exact h2 (ut2 a k hk (by omega))); done)
      all_goals
      refine SatL.pu (RunV.move rfl) rfl ?_
      refine SatL.guard_y rfl rfl ?_
      refine SatL.pu (RunV.move rfl) rfl ?_
      refine SatL.guard_y rfl rfl ?_
      refine SatL.op rfl (OpW.enter rfl rfl rfl (rfl) (under_any _ _ _ (by omega) (by first | omega | (rw [List.length_take]; omega))) ?_)
      rintro r2 w2 ⟨rfl, h⟩
      replace hS := St.callN hS h
      refine SatL.pu (RunV.pick_t rfl rfl) rfl ?_
      refine SatL.pu (RunV.move rfl) rfl ?_
      refine SatL.guard rfl rfl rfl (fun h3 => ?_) (fun h3 => ?_)
      · (try simp only [cx, ne_eq] at h3)
        try (exfalso; (first | omega | exact h3 trivial | contradiction | (have := key_nil a (by assumption); simp_all; done) | (have := under_self a; simp_all; done) | exact h3 rfl | exact h3 (ut1 a k hk (by assumption) (by assumption) (by assumption)) | exact h3 (ut2 a k hk (by omega))); done)
        all_goals
        refine SatL.op rfl (OpW.enter rfl rfl rfl (rfl) (works_any _) ?_)
        rintro r3 w3 ⟨rfl, h⟩
        replace hS := St.callN hS h
        refine SatL.pu (RunV.pick_t rfl rfl) rfl ?_
        refine SatL.pu (RunV.assign rfl) rfl ?_
        refine SatL.nil (SatE.thenC ?_)
        refine SatC.ret (SatE.then_ret ?_)
        refine SatE.ret1 rfl rfl ?_
        exact ⟨by first | rfl | simp, hS⟩
      · (try simp only [cx, ne_eq] at h3)
        try (exfalso; (first | omega | exact h3 trivial | contradiction | (have := key_nil a (by assumption); simp_all; done) | (have := under_self a; simp_all; done) | exact h3 rfl | exact h3 (ut1 a k hk (by assumption) (by assumption) (by assumption)) | exact h3 (ut2 a k hk (by omega))); done)
        all_goals
        refine SatL.pu (RunV.pick_f rfl rfl) rfl ?_
        refine SatL.pu (RunV.assign rfl) rfl ?_
        refine SatL.nil (SatE.thenC ?_)
        refine SatC.ret (SatE.then_ret ?_)
        refine SatE.ret1 rfl rfl ?_
        exact ⟨by first | rfl | simp, hS⟩
    · (try simp only [cx, ne_eq] at h2)
      try (exfalso; (first | omega | exact h2 trivial | contradiction | (have := key_nil a (by assumption); simp_all; done) | (have := under_self a; simp_all; done) | exact h2 rfl | exact h2 (ut1 a k hk (by assumption) (by assumption) (by assumption)) | exact h2 (ut2 a k hk (by omega))); done)
      all_goals
      refine SatL.guard_n rfl rfl rfl rfl ?_
      refine SatL.guard_n rfl rfl rfl rfl ?_
      refine SatL.pu (RunV.pick_f rfl rfl) rfl ?_
      refine SatL.pu (RunV.move rfl) rfl ?_
      refine SatL.guard_n rfl rfl rfl rfl ?_
      refine SatL.pu (RunV.pick_f rfl rfl) rfl ?_
      refine SatL.pu (RunV.assign rfl) rfl ?_
      refine SatL.nil (SatE.thenC ?_)
      refine SatC.ret (SatE.then_ret ?_)
      refine SatE.ret1 rfl rfl ?_
      exact ⟨by first | rfl | simp, hS⟩
  · (try simp only [cx, ne_eq] at h1)
    try (exfalso; (first | omega | exact h1 trivial | contradiction | (have := key_nil a (by assumption); simp_all; done) | (have := under_self a; simp_all; done) | exact h1 rfl | exact h1 (ut1 a k hk (by assumption) (by assumption) (by assumption)) | exact h1 (ut2 a k hk (by omega))); done)
    all_goals
    refine SatC.skip (SatE.thenC ?_)
    refine SatC.seq ?_
    refine SatC.region ?_
    refine SatL.pu (RunV.move rfl) rfl ?_
    refine SatL.pu (RunV.conv rfl rfl rfl (by first | exact wrapI64 (by omega) | rfl)) rfl ?_
    refine SatL.pu (RunV.move rfl) rfl ?_
    refine SatL.pu (RunV.lenB rfl rfl) rfl ?_
    refine SatL.pu (RunV.add rfl rfl (by first | exact wrapI64 (by omega) | rfl)) rfl ?_
    refine SatL.pu (RunV.rem rfl rfl (by first | decide | omega) rfl) rfl ?_
    refine SatL.pu (RunV.assign rfl) rfl ?_
    refine SatL.nil (SatE.thenC ?_)
    refine SatC.seq ?_
    rw [hkv]
    refine SatC.region ?_
    refine SatL.pu (RunV.move rfl) rfl ?_
    refine SatL.pu (RunV.eql rfl rfl) rfl ?_
    refine SatL.pu (RunV.move rfl) rfl ?_
    refine SatL.guard rfl rfl rfl (fun h2 => ?_) (fun h2 => ?_)
    · (try simp only [cx, ne_eq] at h2)
      try (exfalso; (first | omega | exact h2 trivial | contradiction | (have := key_nil a (by assumption); simp_all; done) | (have := under_self a; simp_all; done) | exact h2 rfl | exact h2 (ut1 a k hk (by assumption) (by assumption) (by assumption)) | exact h2 (ut2 a k hk (by omega))); done)
      all_goals
      refine SatL.pu (RunV.move rfl) rfl ?_
      refine SatL.guard_y rfl rfl ?_
      refine SatL.pu (RunV.move rfl) rfl ?_
      refine SatL.guard_y rfl rfl ?_
      refine SatL.pu (RunV.lenB rfl rfl) rfl ?_
      refine SatL.guard_y rfl rfl ?_
      refine SatL.pu (RunV.eql rfl rfl) rfl ?_
      refine SatL.pu (RunV.pick_f rfl rfl) rfl ?_
      refine SatL.pu (RunV.move rfl) rfl ?_
      refine SatL.guard rfl rfl rfl (fun h3 => ?_) (fun h3 => ?_)
      · (try simp only [cx, ne_eq] at h3)
        try (exfalso; (first | omega | exact h3 trivial | contradiction | (have := key_nil a (by assumption); simp_all; done) | (have := under_self a; simp_all; done) | exact h3 rfl | exact h3 (ut1 a k hk (by assumption) (by assumption) (by assumption)) | exact h3 (ut2 a k hk (by omega))); done)
        all_goals
        refine SatL.pu (RunV.move rfl) rfl ?_
        refine SatL.guard_y rfl rfl ?_
        refine SatL.pu (RunV.move rfl) rfl ?_
        refine SatL.guard_y rfl rfl ?_
        refine SatL.pu (RunV.indexB rfl rfl rfl (by omega) (hy (by omega))) rfl ?_
        refine SatL.guard_y rfl rfl ?_
        refine SatL.pu (RunV.eql rfl rfl) rfl ?_
        refine SatL.pu (RunV.pick_f rfl rfl) rfl ?_
        refine SatL.pu (RunV.move rfl) rfl ?_
        refine SatL.guard rfl rfl rfl (fun h4 => ?_) (fun h4 => ?_)
        · (try simp only [cx, ne_eq] at h4)
          try (exfalso; (first | omega | exact h4 trivial | contradiction | (have := key_nil a (by assumption); simp_all; done) | (have := under_self a; simp_all; done) | exact h4 rfl | exact h4 (ut1 a k hk (by assumption) (by assumption) (by assumption)) | exact h4 (ut2 a k hk (by omega))); done)
          all_goals
          refine SatL.pu (RunV.move rfl) rfl ?_
          refine SatL.guard_y rfl rfl ?_
          refine SatL.pu (RunV.move rfl) rfl ?_
          refine SatL.guard_y rfl rfl ?_
          refine SatL.pu (RunV.sub rfl rfl (by first | exact wrapI64 (by omega) | rfl)) rfl ?_
          refine SatL.guard_y rfl rfl ?_
          refine SatL.pu (RunV.indexB rfl rfl rfl (by omega) (hx (by omega))) rfl ?_
          refine SatL.guard_y rfl rfl ?_
          refine SatL.pu (RunV.eql rfl rfl) rfl ?_
          refine SatL.pu (RunV.pick_f rfl rfl) rfl ?_
          refine SatL.pu (RunV.assign rfl) rfl ?_
          refine SatL.nil (SatE.thenC ?_)
          refine SatC.seq ?_
          refine SatC.weak (e' := [(0, _), (4, _), (5, _), (6, _)]) (by repeat constructor) ?_
          refine SatC.region ?_
          refine SatL.pu (RunV.move rfl) rfl ?_
          refine SatL.pu (RunV.move rfl) rfl ?_
          refine SatL.pu (RunV.move rfl) rfl ?_
          refine SatL.pu (RunV.cutSH rfl rfl rfl (by omega) (by omega)) rfl ?_
          refine SatL.op rfl (OpW.enter rfl rfl rfl (rfl) (under_any _ _ _ (by omega) (by first | omega | (rw [List.length_take]; omega))) ?_)
          rintro r1 w1 ⟨rfl, h⟩
          replace hS := St.callN hS h
          refine SatL.pu (RunV.move rfl) rfl ?_
          refine SatL.pu (RunV.beql rfl rfl rfl) rfl ?_
          refine SatL.pu (RunV.move rfl) rfl ?_
          refine SatL.guard rfl rfl rfl (fun h5 => ?_) (fun h5 => ?_)
          · (try simp only [cx, ne_eq] at h5)
            try (exfalso; (first | omega | exact h5 trivial | contradiction | (have := key_nil a (by assumption); simp_all; done) | (have := under_self a; simp_all; done) | exact h5 rfl | exact h5 (ut1 a k hk (by assumption) (by assumption) (by assumption)) | exact h5 (ut2 a k hk (by omega))); done)
            all_goals
            refine SatL.op rfl (OpW.enter rfl rfl rfl (rfl) (works_any _) ?_)
            rintro r2 w2 ⟨rfl, h⟩
            replace hS := St.callN hS h
            refine SatL.pu (RunV.pick_t rfl rfl) rfl ?_
            refine SatL.pu (RunV.assign rfl) rfl ?_
            refine SatL.nil (SatE.thenC ?_)
            refine SatC.ret ?_
            refine SatE.ret1 rfl rfl ?_
            exact ⟨by first | rfl | simp, hS⟩
          · (try simp only [cx, ne_eq] at h5)
            try (exfalso; (first | omega | exact h5 trivial | contradiction | (have := key_nil a (by assumption); simp_all; done) | (have := under_self a; simp_all; done) | exact h5 rfl | exact h5 (ut1 a k hk (by assumption) (by assumption) (by assumption)) | exact h5 (ut2 a k hk (by omega))); done)
            all_goals
            refine SatL.pu (RunV.pick_f rfl rfl) rfl ?_
            refine SatL.pu (RunV.assign rfl) rfl ?_
            refine SatL.nil (SatE.thenC ?_)
            refine SatC.ret ?_
            refine SatE.ret1 rfl rfl ?_
            exact ⟨by first | rfl | simp, hS⟩
        · (try simp only [cx, ne_eq] at h4)
          try (exfalso; (first | omega | exact h4 trivial | contradiction | (have := key_nil a (by assumption); simp_all; done) | (have := under_self a; simp_all; done) | exact h4 rfl | exact h4 (ut1 a k hk (by assumption) (by assumption) (by assumption)) | exact h4 (ut2 a k hk (by omega))); done)
          all_goals
          refine SatL.guard_n rfl rfl rfl rfl ?_
          refine SatL.guard_n rfl rfl rfl rfl ?_
          refine SatL.guard_n rfl rfl rfl rfl ?_
          refine SatL.guard_n rfl rfl rfl rfl ?_
          refine SatL.pu (RunV.pick_t rfl rfl) rfl ?_
          refine SatL.pu (RunV.assign rfl) rfl ?_
          refine SatL.nil (SatE.thenC ?_)
          refine SatC.seq ?_
          refine SatC.weak (e' := [(0, _), (4, _), (5, _), (6, _)]) (by repeat constructor) ?_
          refine SatC.region ?_
          refine SatL.pu (RunV.move rfl) rfl ?_
          refine SatL.pu (RunV.move rfl) rfl ?_
          refine SatL.pu (RunV.move rfl) rfl ?_
          refine SatL.pu (RunV.cutSH rfl rfl rfl (by omega) (by omega)) rfl ?_
          refine SatL.op rfl (OpW.enter rfl rfl rfl (rfl) (under_any _ _ _ (by omega) (by first | omega | (rw [List.length_take]; omega))) ?_)
          rintro r1 w1 ⟨rfl, h⟩
          replace hS := St.callN hS h
          refine SatL.pu (RunV.move rfl) rfl ?_
          refine SatL.pu (RunV.beql rfl rfl rfl) rfl ?_
          refine SatL.pu (RunV.move rfl) rfl ?_
          refine SatL.guard rfl rfl rfl (fun h5 => ?_) (fun h5 => ?_)
          · (try simp only [cx, ne_eq] at h5)
            try (exfalso; (first | omega | exact h5 trivial | contradiction | (have := key_nil a (by assumption); simp_all; done) | (have := under_self a; simp_all; done) | exact h5 rfl | exact h5 (ut1 a k hk (by assumption) (by assumption) (by assumption)) | exact h5 (ut2 a k hk (by omega))); done)
            all_goals
            refine SatL.op rfl (OpW.enter rfl rfl rfl (rfl) (works_any _) ?_)
            rintro r2 w2 ⟨rfl, h⟩
            replace hS := St.callN hS h
            refine SatL.pu (RunV.pick_t rfl rfl) rfl ?_
            refine SatL.pu (RunV.assign rfl) rfl ?_
            refine SatL.nil (SatE.thenC ?_)
            refine SatC.ret ?_
            refine SatE.ret1 rfl rfl ?_
            exact ⟨by first | rfl | simp, hS⟩
          · (try simp only [cx, ne_eq] at h5)
            try (exfalso; (first | omega | exact h5 trivial | contradiction | (have := key_nil a (by assumption); simp_all; done) | (have := under_self a; simp_all; done) | exact h5 rfl | exact h5 (ut1 a k hk (by assumption) (by assumption) (by assumption)) | exact h5 (ut2 a k hk (by omega))); done)
            all_goals
            refine SatL.pu (RunV.pick_f rfl rfl) rfl ?_
            refine SatL.pu (RunV.assign rfl) rfl ?_
            refine SatL.nil (SatE.thenC ?_)
            refine SatC.ret ?_
            refine SatE.ret1 rfl rfl ?_
            exact ⟨by first | rfl | simp, hS⟩
      · (try simp only [cx, ne_eq] at h3)
        try (exfalso; (first | omega | exact h3 trivial | contradiction | (have := key_nil a (by assumption); simp_all; done) | (have := under_self a; simp_all; done) | exact h3 rfl | exact h3 (ut1 a k hk (by assumption) (by assumption) (by assumption)) | exact h3 (ut2 a k hk (by omega))); done)
        all_goals
        refine SatL.guard_n rfl rfl rfl rfl ?_
        refine SatL.guard_n rfl rfl rfl rfl ?_
        refine SatL.guard_n rfl rfl rfl rfl ?_
        refine SatL.pu (RunV.pick_t rfl rfl) rfl ?_
        refine SatL.pu (RunV.move rfl) rfl ?_
        refine SatL.guard_n rfl rfl rfl rfl ?_
        refine SatL.guard_n rfl rfl rfl rfl ?_
        refine SatL.guard_n rfl rfl rfl rfl ?_
        refine SatL.guard_n rfl rfl rfl rfl ?_
        refine SatL.guard_n rfl rfl rfl rfl ?_
        refine SatL.pu (RunV.pick_t rfl rfl) rfl ?_
        refine SatL.pu (RunV.assign rfl) rfl ?_
        refine SatL.nil (SatE.thenC ?_)
        refine SatC.seq ?_
        refine SatC.weak (e' := [(0, _), (4, _), (5, _), (6, _)]) (by repeat constructor) ?_
        refine SatC.region ?_
        refine SatL.pu (RunV.move rfl) rfl ?_
        refine SatL.pu (RunV.move rfl) rfl ?_
        refine SatL.pu (RunV.move rfl) rfl ?_
        refine SatL.pu (RunV.cutSH rfl rfl rfl (by omega) (by omega)) rfl ?_
        refine SatL.op rfl (OpW.enter rfl rfl rfl (rfl) (under_any _ _ _ (by omega) (by first | omega | (rw [List.length_take]; omega))) ?_)
        rintro r1 w1 ⟨rfl, h⟩
        replace hS := St.callN hS h
        refine SatL.pu (RunV.move rfl) rfl ?_
        refine SatL.pu (RunV.beql rfl rfl rfl) rfl ?_
        refine SatL.pu (RunV.move rfl) rfl ?_
        refine SatL.guard rfl rfl rfl (fun h4 => ?_) (fun h4 => ?_)
        · (try simp only [cx, ne_eq] at h4)
          try (exfalso; (first | omega | exact h4 trivial | contradiction | (have := key_nil a (by assumption); simp_all; done) | (have := under_self a; simp_all; done) | exact h4 rfl | exact h4 (ut1 a k hk (by assumption) (by assumption) (by assumption)) | exact h4 (ut2 a k hk (by omega))); done)
          all_goals
          refine SatL.op rfl (OpW.enter rfl rfl rfl (rfl) (works_any _) ?_)
          rintro r2 w2 ⟨rfl, h⟩
          replace hS := St.callN hS h
          refine SatL.pu (RunV.pick_t rfl rfl) rfl ?_
          refine SatL.pu (RunV.assign rfl) rfl ?_
          refine SatL.nil (SatE.thenC ?_)
          refine SatC.ret ?_
          refine SatE.ret1 rfl rfl ?_
          exact ⟨by first | rfl | simp, hS⟩
        · (try simp only [cx, ne_eq] at h4)
          try (exfalso; (first | omega | exact h4 trivial | contradiction | (have := key_nil a (by assumption); simp_all; done) | (have := under_self a; simp_all; done) | exact h4 rfl | exact h4 (ut1 a k hk (by assumption) (by assumption) (by assumption)) | exact h4 (ut2 a k hk (by omega))); done)
          all_goals
          refine SatL.pu (RunV.pick_f rfl rfl) rfl ?_
          refine SatL.pu (RunV.assign rfl) rfl ?_
          refine SatL.nil (SatE.thenC ?_)
          refine SatC.ret ?_
          refine SatE.ret1 rfl rfl ?_
          exact ⟨by first | rfl | simp, hS⟩
    · (try simp only [cx, ne_eq] at h2)
      try (exfalso; (first | omega | exact h2 trivial | contradiction | (have := key_nil a (by assumption); simp_all; done) | (have := under_self a; simp_all; done) | exact h2 rfl | exact h2 (ut1 a k hk (by assumption) (by assumption) (by assumption)) | exact h2 (ut2 a k hk (by omega))); done)
      all_goals
      refine SatL.guard_n rfl rfl rfl rfl ?_
      refine SatL.guard_n rfl rfl rfl rfl ?_
      refine SatL.guard_n rfl rfl rfl rfl ?_
      refine SatL.pu (RunV.pick_t rfl rfl) rfl ?_
      refine SatL.pu (RunV.move rfl) rfl ?_
      refine SatL.guard_n rfl rfl rfl rfl ?_
      refine SatL.guard_n rfl rfl rfl rfl ?_
      refine SatL.guard_n rfl rfl rfl rfl ?_
      refine SatL.guard_n rfl rfl rfl rfl ?_
      refine SatL.pu (RunV.pick_t rfl rfl) rfl ?_
      refine SatL.pu (RunV.move rfl) rfl ?_
      refine SatL.guard_n rfl rfl rfl rfl ?_
      refine SatL.guard_n rfl rfl rfl rfl ?_
      refine SatL.guard_n rfl rfl rfl rfl ?_
      refine SatL.guard_n rfl rfl rfl rfl ?_
      refine SatL.guard_n rfl rfl rfl rfl ?_
      refine SatL.pu (RunV.pick_t rfl rfl) rfl ?_
      refine SatL.pu (RunV.assign rfl) rfl ?_
      refine SatL.nil (SatE.thenC ?_)
      refine SatC.seq ?_
      refine SatC.weak (e' := [(0, _), (4, _), (5, _), (6, _)]) (by repeat constructor) ?_
      refine SatC.region ?_
      refine SatL.pu (RunV.move rfl) rfl ?_
      refine SatL.pu (RunV.move rfl) rfl ?_
      refine SatL.pu (RunV.move rfl) rfl ?_
      refine SatL.pu (RunV.cutSH rfl rfl rfl (by omega) (by omega)) rfl ?_
      refine SatL.op rfl (OpW.enter rfl rfl rfl (rfl) (under_any _ _ _ (by omega) (by first | omega | (rw [List.length_take]; omega))) ?_)
      rintro r1 w1 ⟨rfl, h⟩
      replace hS := St.callN hS h
      refine SatL.pu (RunV.move rfl) rfl ?_
      refine SatL.pu (RunV.beql rfl rfl rfl) rfl ?_
      refine SatL.pu (RunV.move rfl) rfl ?_
      refine SatL.guard rfl rfl rfl (fun h3 => ?_) (fun h3 => ?_)
      · (try simp only [cx, ne_eq] at h3)
        try (exfalso; (first | omega | exact h3 trivial | contradiction | (have := key_nil a (by assumption); simp_all; done) | (have := under_self a; simp_all; done) | exact h3 rfl | exact h3 (ut1 a k hk (by assumption) (by assumption) (by assumption)) | exact h3 (ut2 a k hk (by omega))); done)
        all_goals
        refine SatL.op rfl (OpW.enter rfl rfl rfl (rfl) (works_any _) ?_)
        rintro r2 w2 ⟨rfl, h⟩
        replace hS := St.callN hS h
        refine SatL.pu (RunV.pick_t rfl rfl) rfl ?_
        refine SatL.pu (RunV.assign rfl) rfl ?_
        refine SatL.nil (SatE.thenC ?_)
        refine SatC.ret ?_
        refine SatE.ret1 rfl rfl ?_
        exact ⟨by first | rfl | simp, hS⟩
      · (try simp only [cx, ne_eq] at h3)
        try (exfalso; (first | omega | exact h3 trivial | contradiction | (have := key_nil a (by assumption); simp_all; done) | (have := under_self a; simp_all; done) | exact h3 rfl | exact h3 (ut1 a k hk (by assumption) (by assumption) (by assumption)) | exact h3 (ut2 a k hk (by omega))); done)
        all_goals
        refine SatL.pu (RunV.pick_f rfl rfl) rfl ?_
        refine SatL.pu (RunV.assign rfl) rfl ?_
        refine SatL.nil (SatE.thenC ?_)
        refine SatC.ret ?_
        refine SatE.ret1 rfl rfl ?_
        exact ⟨by first | rfl | simp, hS⟩
theorem nameParts_lifted (os : Os) (started : os.Started) (H : Type) (enc : TypeId × Value → H) :
    ReturnsInHanded {} Try.checked os 6 .any (Rows.namePartsSpec.pre6 enc Try.prog Try.f6 Rows.namePartsRow.domain false) (Rows.namePartsSpec.post enc Try.prog Try.f6 false true false false) := by
  refine law_returns (C := Try.checked) (b := 4) (by kernel_rfl) started (by kernel_rfl) Try.func6
    (ChangeSpec.witness6 (enc := enc) (C := Try.checked) false ⟨#[], #[.string ⟨#[]⟩, .int .u8 0], []⟩ 8 (by kernel_rfl) (by kernel_rfl) (by kernel_rfl) (by kernel_rfl))
    rfl rfl (by kernel_rfl) (by kernel_rfl) (by kernel_rfl) (fun ds h => ?_) ?_
  · rw [Try.params6] at h
    match ds, h with
    | [_, _], _ => rfl
  intro W base args ds ps hval hA hsz
  rw [Try.params6] at hA hval
  obtain ⟨v0, v1, d0, d1, q0, q1, hargs, rfl, rfl, h0, h1⟩ := trodAll_two hA
  subst hargs
  obtain ⟨a0, rfl, rfl, rfl, b0⟩ := open_string Try.underlying9 (hval 0 9 v0 rfl rfl) h0
  obtain ⟨a1, rfl, rfl, rfl, b1⟩ := open_int Try.underlying5 (hval 1 5 v1 rfl rfl) h1
  replace b1 := bnd_u8 b1
  exact law_done (parts_any a0.data.toList a1 W (sized_string hsz (j := 0) (by rw [Try.params6]; rfl) rfl) b1)
theorem nameParts_holds : Rows.NamePartsSaid :=
  OpenClaim.holds_of_wide 6 Try.f6 rfl rfl rfl rfl rfl rfl rfl ⟨rfl, rfl, rfl, rfl, rfl⟩ rfl rfl rfl rfl rfl (by kernel_rfl) Try.func6 (by kernel_rfl)
    (of_decide_eq_true (by kernel_rfl)) (by unfold Func.isWrapper; first | (rw [if_pos (by decide +kernel)]; kernel_rfl) | (rw [if_neg (by decide +kernel)]; exact ⟨rfl, rfl⟩))
    (fun os started H enc _ => nameParts_lifted os started H enc)
end Go.Proofs.Ytkmgnplaokogbaa
