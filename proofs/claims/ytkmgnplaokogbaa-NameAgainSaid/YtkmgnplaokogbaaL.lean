/- What a key is, by the program: it cuts at the strokes. -/
import Derived.Test.YtkmgnplaokogbaaK
set_option linter.unusedSimpArgs false
set_option linter.unusedVariables false
set_option maxRecDepth 100000
set_option maxHeartbeats 1000000
namespace Go.Proofs.Ytkmgnplaokogbaa
open Go.RowKit Go.Lib
theorem idxb_any (l : List UInt8) (w : World) : Ret Try.prog 65 #[str l, .int .u8 47] w fun v w' => v = .int .i64 (indexByte l 47) ∧ St w [] [] w' := by
  have hS := St.init0 w
  refine Ret.enter Try.func65 Try.ntmps65 rfl rfl ?_
  simp only [argEnv, Nat.reduceAdd]
  refine SatC.seq ?_
  refine SatC.region ?_
  refine SatL.pu (RunV.assign rfl) rfl ?_
  refine SatL.nil (SatE.thenC ?_)
  refine SatC.seq ?_
  refine SatC.region ?_
  refine SatL.pu (RunV.move rfl) rfl ?_
  refine SatL.pu (RunV.move rfl) rfl ?_
  refine SatL.pu (RunV.extern (e := Extern.BytealgIndexByte.indexByte) Try.func75 (by kernel_rfl) (by kernel_rfl) (by kernel_rfl) (by kernel_rfl) rfl (run_indexByteString _ _ _)) rfl ?_
  refine SatL.pu (RunV.assign rfl) rfl ?_
  refine SatL.nil (SatE.thenC ?_)
  refine SatC.ret ?_
  refine SatE.ret1 rfl rfl ?_
  exact ⟨rfl, hS⟩
theorem index_any (l : List UInt8) (w : World) : Ret Try.prog 53 #[str l, str [47]] w fun v w' => v = .int .i64 (indexByte l 47) ∧ St w [] [] w' := by
  have hS := St.init0 w
  refine Ret.enter Try.func53 Try.ntmps53 rfl rfl ?_
  simp only [argEnv, Nat.reduceAdd]
  refine SatC.seq ?_
  refine SatC.region ?_
  refine SatL.pu (RunV.assign rfl) rfl ?_
  refine SatL.nil (SatE.thenC ?_)
  refine SatC.seq ?_
  refine SatC.region ?_
  refine SatL.pu (RunV.move rfl) rfl ?_
  refine SatL.pu (RunV.cast (v' := .int .i64 1) (RunV.lenB rfl rfl) rfl) rfl ?_
  refine SatL.pu (RunV.assign rfl) rfl ?_
  refine SatL.nil (SatE.thenC ?_)
  refine SatC.seq ?_
  refine SatC.block ?_
  refine SatC.seq ?_
  refine SatC.region ?_
  refine SatL.pu (RunV.move rfl) rfl ?_
  refine SatL.pu (RunV.eql rfl rfl) rfl ?_
  refine SatL.pu (RunV.move rfl) rfl ?_
  refine SatL.guard_y rfl rfl ?_
  refine SatL.pu (RunV.move rfl) rfl ?_
  refine SatL.guard_y rfl rfl ?_
  refine SatL.pu (RunV.move rfl) rfl ?_
  refine SatL.guard_y rfl rfl ?_
  refine SatL.pu (RunV.seql rfl rfl) rfl ?_
  refine SatL.pu (RunV.pick_f rfl rfl) rfl ?_
  refine SatL.pu (RunV.assign rfl) rfl ?_
  refine SatL.nil (SatE.thenC ?_)
  refine SatC.cond rfl (fun h1 => ?_) (fun h1 => ?_)
  · (try simp only [cx, ne_eq] at h1)
    try (exfalso; (first | omega | exact h1 trivial | contradiction); done)
    all_goals
    refine SatC.seq ?_
    refine SatC.region ?_
    refine SatL.pu (RunV.assign rfl) rfl ?_
    refine SatL.nil (SatE.thenC ?_)
    refine SatC.ret (SatE.blk_ret (SatE.then_ret ?_))
    refine SatE.ret1 rfl rfl ?_
    subst h1; exact ⟨rfl, hS⟩
  · (try simp only [cx, ne_eq] at h1)
    try (exfalso; (first | omega | exact h1 trivial | contradiction); done)
    all_goals
    refine SatC.seq ?_
    refine SatC.region ?_
    refine SatL.pu (RunV.move rfl) rfl ?_
    refine SatL.pu (RunV.eql rfl rfl) rfl ?_
    refine SatL.pu (RunV.assign rfl) rfl ?_
    refine SatL.nil (SatE.thenC ?_)
    refine SatC.weak (e' := [(0, _), (1, _), (4, _), (5, _), (24, _)]) (by repeat constructor) ?_
    refine SatC.cond_t rfl ?_
    refine SatC.seq ?_
    refine SatC.region ?_
    refine SatL.pu (RunV.move rfl) rfl ?_
    refine SatL.pu (RunV.move rfl) rfl ?_
    refine SatL.pu (RunV.indexB rfl rfl rfl (by omega) (by first | assumption | rfl)) rfl ?_
    refine SatL.op rfl (OpW.enter rfl rfl rfl (rfl) (idxb_any _ _) ?_)
    rintro r1 w1 ⟨rfl, h⟩
    replace hS := St.callN hS h
    refine SatL.pu (RunV.assign rfl) rfl ?_
    refine SatL.nil (SatE.thenC ?_)
    refine SatC.ret (SatE.blk_ret (SatE.then_ret ?_))
    refine SatE.ret1 rfl rfl ?_
    exact ⟨rfl, hS⟩
/-- The part ahead of the first stroke, what is behind it, and whether there is one. -/
def cutR (l : List UInt8) : List UInt8 × List UInt8 × Bool := if 0 ≤ indexByte l 47 then (l.take (indexByte l 47).toNat, l.drop ((indexByte l 47).toNat + 1), true) else (l, [], false)
theorem idx_le (l : List UInt8) : indexByte l 47 + 1 ≤ (l.length : Int) := by
  rcases idx_spec 47 l with ⟨h, _⟩ | ⟨n, h, h2, _⟩ <;> omega
theorem cut0_any (l : List UInt8) (w : World) (hl : l.length ≤ 1000000) : Ret Try.prog 49 #[str l, str [47]] w fun v w' => v = .tuple #[str (cutR l).1, str (cutR l).2.1, .bool (cutR l).2.2] ∧ St w [] [] w' := by
  have hS := St.init0 w
  have hle := idx_le l
  refine Ret.enter Try.func49 Try.ntmps49 rfl rfl ?_
  simp only [argEnv, Nat.reduceAdd]
  refine SatC.seq ?_
  refine SatC.region ?_
  refine SatL.pu (RunV.assign rfl) rfl ?_
  refine SatL.pu (RunV.assign rfl) rfl ?_
  refine SatL.pu (RunV.assign rfl) rfl ?_
  refine SatL.nil (SatE.thenC ?_)
  refine SatC.seq ?_
  refine SatC.seq ?_
  refine SatC.region ?_
  refine SatL.pu (RunV.move rfl) rfl ?_
  refine SatL.pu (RunV.move rfl) rfl ?_
  refine SatL.op rfl (OpW.enter rfl rfl rfl (rfl) (index_any _ _) ?_)
  rintro r1 w1 ⟨rfl, h⟩
  replace hS := St.callN hS h
  refine SatL.pu (RunV.assign rfl) rfl ?_
  refine SatL.nil (SatE.thenC ?_)
  refine SatC.seq ?_
  refine SatC.region ?_
  refine SatL.pu (RunV.move rfl) rfl ?_
  refine SatL.pu (RunV.geq rfl rfl) rfl ?_
  refine SatL.nil (SatE.thenC ?_)
  refine SatC.cond rfl (fun h1 => ?_) (fun h1 => ?_)
  · (try simp only [cx, ne_eq] at h1)
    try (exfalso; (first | omega | exact h1 trivial | contradiction); done)
    all_goals
    refine SatC.seq ?_
    refine SatC.drawnT 12 hS (hS) (by kernel_rfl) ?_
    clear hS
    intro w2 hh hS hD
    refine SatD.tk 0 rfl hD (fun _ hw => RunV.move rfl) ?_
    refine SatD.tk 1 rfl hD (fun _ hw => RunV.move rfl) ?_
    refine SatD.tk 2 rfl hD (fun _ hw => RunV.cutSH rfl rfl rfl (by omega) (by omega)) ?_
    refine SatD.tk 3 rfl hD (fun _ hw => RunV.move rfl) ?_
    refine SatD.tk 4 rfl hD (fun _ hw => RunV.move rfl) ?_
    refine SatD.tk 5 rfl hD (fun _ hw => RunV.move rfl) ?_
    refine SatD.tk 6 rfl hD (fun _ hw => RunV.cast (v' := .int .i64 1) (RunV.lenB rfl rfl) rfl) ?_
    refine SatD.tk 7 rfl hD (fun _ hw => RunV.add rfl rfl (by first | exact wrapI64 (by omega) | rfl)) ?_
    refine SatD.tk 8 rfl hD (fun _ hw => RunV.cutSL rfl rfl rfl (by omega) (by omega)) ?_
    refine SatD.tk 9 rfl hD (fun _ hw => RunV.assign rfl) ?_
    refine SatD.tk 10 rfl hD (fun _ hw => RunV.assign rfl) ?_
    refine SatD.tk 11 rfl hD (fun _ hw => RunV.assign rfl) ?_
    refine SatD.done 0 (by kernel_rfl) (SatE.thenC ?_)
    clear hD
    refine SatC.ret (SatE.then_ret ?_)
    refine SatE.retG3 hS rfl (.tmp rfl) (.tmp rfl) (.tmp rfl) ?_
    rw [cutR, if_pos (by assumption)]
    refine ⟨?_, hS⟩
    rw [show (indexByte l 47 + 1).toNat = (indexByte l 47).toNat + 1 by omega]
  · (try simp only [cx, ne_eq] at h1)
    try (exfalso; (first | omega | exact h1 trivial | contradiction); done)
    all_goals
    refine SatC.skip (SatE.thenC ?_)
    refine SatC.seq ?_
    refine SatC.region ?_
    refine SatL.pu (RunV.move rfl) rfl ?_
    refine SatL.pu (RunV.assign rfl) rfl ?_
    refine SatL.pu (RunV.assign rfl) rfl ?_
    refine SatL.pu (RunV.assign rfl) rfl ?_
    refine SatL.nil (SatE.thenC ?_)
    refine SatC.ret ?_
    refine SatE.retG3 hS rfl (.tmp rfl) (.tmp rfl) (.tmp rfl) ?_
    rw [cutR, if_neg (by omega)]; exact ⟨rfl, hS⟩
theorem cut_any (l : List UInt8) (w : World) (hl : l.length ≤ 1000000) : Ret Try.prog 44 #[str l, str [47]] w fun v w' => v = .tuple #[str (cutR l).1, str (cutR l).2.1, .bool (cutR l).2.2] ∧ St w [] [] w' := by
  have hS := St.init0 w
  refine Ret.enter Try.func44 Try.ntmps44 rfl rfl ?_
  simp only [argEnv, Nat.reduceAdd]
  refine SatC.seq ?_
  refine SatC.region ?_
  refine SatL.pu (RunV.assign rfl) rfl ?_
  refine SatL.pu (RunV.assign rfl) rfl ?_
  refine SatL.pu (RunV.assign rfl) rfl ?_
  refine SatL.nil (SatE.thenC ?_)
  refine SatC.seq ?_
  refine SatC.region ?_
  refine SatL.pu (RunV.move rfl) rfl ?_
  refine SatL.pu (RunV.move rfl) rfl ?_
  refine SatL.op rfl (OpW.enter rfl rfl rfl (rfl) (cut0_any _ _ hl) ?_)
  rintro r1 w1 ⟨rfl, h⟩
  replace hS := St.callN hS h
  refine SatL.pu (RunV.extract rfl rfl) rfl ?_
  refine SatL.pu (RunV.extract rfl rfl) rfl ?_
  refine SatL.pu (RunV.extract rfl rfl) rfl ?_
  refine SatL.pu (RunV.assign rfl) rfl ?_
  refine SatL.pu (RunV.assign rfl) rfl ?_
  refine SatL.pu (RunV.assign rfl) rfl ?_
  refine SatL.nil (SatE.thenC ?_)
  refine SatC.ret ?_
  refine SatE.retG3 hS rfl (.tmp rfl) (.tmp rfl) (.tmp rfl) ?_
  exact ⟨rfl, hS⟩
theorem next_any {b : Nat} {l : List UInt8} {w : World} (hown : Own w [(b, C 37 [str l])]) (hl : l.length ≤ 1000000) : Ret Try.prog 36 #[.pointer (some ⟨b, 0, none⟩)] w fun v w' => v = .tuple #[str (cutR l).1, .bool (cutR l).2.2] ∧ St w [b] [(b, C 37 [str (cutR l).2.1])] w' := by
  have hS := St.init hown
  simp only [List.map_cons, List.map_nil] at hS
  refine Ret.enter Try.func36 Try.ntmps36 rfl rfl ?_
  simp only [argEnv, Nat.reduceAdd]
  refine SatC.seq ?_
  refine SatC.region ?_
  refine SatL.pu (RunV.assign rfl) rfl ?_
  refine SatL.pu (RunV.assign rfl) rfl ?_
  refine SatL.nil (SatE.thenC ?_)
  refine SatC.seq ?_
  refine SatC.region ?_
  refine SatL.pu (RunV.move rfl) rfl ?_
  first | refine SatL.pu (RunV.nil_ptr rfl) rfl ?_ | refine SatL.pu (RunV.nil_func rfl) rfl ?_ | refine SatL.pu (RunV.nil_yield rfl) rfl ?_
  first | refine SatL.pu (RunV.fieldAddrL rfl rfl rfl) rfl ?_ | refine SatL.pu (RunV.fieldAddr rfl rfl rfl) rfl ?_
  refine SatL.pu (RunV.load1 hS rfl rfl (by repeat constructor) rfl) rfl ?_
  refine SatL.op rfl (OpW.enter rfl rfl rfl (rfl) (cut_any _ _ hl) ?_)
  rintro r1 w1 ⟨rfl, h⟩
  replace hS := St.callN hS h
  refine SatL.pu (RunV.move rfl) rfl ?_
  refine SatL.pu (RunV.extract rfl rfl) rfl ?_
  refine SatL.pu (RunV.extract rfl rfl) rfl ?_
  refine SatL.pu (RunV.extract rfl rfl) rfl ?_
  refine SatL.pu (RunV.assign rfl) rfl ?_
  refine SatL.pu (RunV.assign rfl) rfl ?_
  refine SatL.pu (RunV.assign rfl) rfl ?_
  refine SatL.nil (SatE.thenC ?_)
  refine SatC.seq ?_
  refine SatC.region ?_
  refine SatL.pu (RunV.move rfl) rfl ?_
  refine SatL.pu (RunV.move rfl) rfl ?_
  first | refine SatL.pu (RunV.nil_ptr rfl) rfl ?_ | refine SatL.pu (RunV.nil_func rfl) rfl ?_ | refine SatL.pu (RunV.nil_yield rfl) rfl ?_
  first | refine SatL.pu (RunV.fieldAddrL rfl rfl rfl) rfl ?_ | refine SatL.pu (RunV.fieldAddr rfl rfl rfl) rfl ?_
  refine SatL.op rfl (OpW.store hS rfl rfl (by repeat constructor) (by repeat constructor) (by repeat constructor) rfl rfl ?_)
  clear hS
  intro w2 hS
  refine SatL.nil (SatE.thenC ?_)
  refine SatC.seq ?_
  refine SatC.weak (e' := [(2, _), (3, _), (4, _), (6, _)]) (by repeat constructor) ?_
  refine SatC.region ?_
  refine SatL.pu (RunV.move rfl) rfl ?_
  refine SatL.pu (RunV.move rfl) rfl ?_
  refine SatL.pu (RunV.assign rfl) rfl ?_
  refine SatL.pu (RunV.assign rfl) rfl ?_
  refine SatL.nil (SatE.thenC ?_)
  refine SatC.ret ?_
  refine SatE.ret2 rfl rfl rfl ?_
  exact ⟨rfl, hS⟩
def kC (c : UInt8) : Bool := kB (c.toNat : Int)
theorem yesKey (c : UInt8) (w : World) : Ret Try.prog 37 #[byt c] w fun v w' => v = .bool (kC c) ∧ St w [] [] w' := by
  have hS := St.init0 w
  refine Ret.enter Try.func37 Try.ntmps37 rfl rfl ?_
  simp only [argEnv, Nat.reduceAdd]
  refine SatC.seq ?_
  refine SatC.region ?_
  refine SatL.pu (RunV.assign rfl) rfl ?_
  refine SatL.nil (SatE.thenC ?_)
  refine SatC.seq ?_
  refine SatC.region ?_
  refine SatL.pu (RunV.move rfl) rfl ?_
  refine SatL.op rfl (OpW.enter rfl rfl rfl (rfl) (plain_any _ _) ?_)
  rintro r1 w1 ⟨rfl, h⟩
  replace hS := St.callN hS h
  refine SatL.pu (RunV.move rfl) rfl ?_
  refine SatL.guard rfl rfl rfl (fun h1 => ?_) (fun h1 => ?_)
  · (try simp only [cx, ne_eq] at h1)
    try (exfalso; (first | omega | exact h1 trivial | contradiction); done)
    all_goals
    refine SatL.pu (RunV.move rfl) rfl ?_
    refine SatL.guard_y rfl rfl ?_
    refine SatL.pu (RunV.eql rfl rfl) rfl ?_
    refine SatL.pu (RunV.pick_f rfl rfl) rfl ?_
    refine SatL.pu (RunV.move rfl) rfl ?_
    refine SatL.guard rfl rfl rfl (fun h2 => ?_) (fun h2 => ?_)
    · (try simp only [cx, ne_eq] at h2)
      try (exfalso; (first | omega | exact h2 trivial | contradiction); done)
      all_goals
      refine SatL.pu (RunV.move rfl) rfl ?_
      refine SatL.guard_y rfl rfl ?_
      refine SatL.pu (RunV.eql rfl rfl) rfl ?_
      refine SatL.pu (RunV.pick_f rfl rfl) rfl ?_
      refine SatL.pu (RunV.move rfl) rfl ?_
      refine SatL.guard rfl rfl rfl (fun h3 => ?_) (fun h3 => ?_)
      · (try simp only [cx, ne_eq] at h3)
        try (exfalso; (first | omega | exact h3 trivial | contradiction); done)
        all_goals
        refine SatL.pu (RunV.move rfl) rfl ?_
        refine SatL.guard_y rfl rfl ?_
        refine SatL.pu (RunV.eql rfl rfl) rfl ?_
        refine SatL.pu (RunV.pick_f rfl rfl) rfl ?_
        refine SatL.pu (RunV.assign rfl) rfl ?_
        refine SatL.nil (SatE.thenC ?_)
        refine SatC.ret ?_
        refine SatE.ret1 rfl rfl ?_
        refine ⟨congrArg Value.bool ?_, hS⟩
        rw [kC, kB, Bool.eq_iff_iff]
        simp_all
        try omega
      · (try simp only [cx, ne_eq] at h3)
        try (exfalso; (first | omega | exact h3 trivial | contradiction); done)
        all_goals
        refine SatL.guard_n rfl rfl rfl rfl ?_
        refine SatL.pu (RunV.pick_t rfl rfl) rfl ?_
        refine SatL.pu (RunV.assign rfl) rfl ?_
        refine SatL.nil (SatE.thenC ?_)
        refine SatC.ret ?_
        refine SatE.ret1 rfl rfl ?_
        refine ⟨congrArg Value.bool ?_, hS⟩
        rw [kC, kB, Bool.eq_iff_iff]
        simp_all
        try omega
    · (try simp only [cx, ne_eq] at h2)
      try (exfalso; (first | omega | exact h2 trivial | contradiction); done)
      all_goals
      refine SatL.guard_n rfl rfl rfl rfl ?_
      refine SatL.pu (RunV.pick_t rfl rfl) rfl ?_
      refine SatL.pu (RunV.move rfl) rfl ?_
      refine SatL.guard_n rfl rfl rfl rfl ?_
      refine SatL.guard_n rfl rfl rfl rfl ?_
      refine SatL.pu (RunV.pick_t rfl rfl) rfl ?_
      refine SatL.pu (RunV.assign rfl) rfl ?_
      refine SatL.nil (SatE.thenC ?_)
      refine SatC.ret ?_
      refine SatE.ret1 rfl rfl ?_
      refine ⟨congrArg Value.bool ?_, hS⟩
      rw [kC, kB, Bool.eq_iff_iff]
      simp_all
      try omega
  · (try simp only [cx, ne_eq] at h1)
    try (exfalso; (first | omega | exact h1 trivial | contradiction); done)
    all_goals
    refine SatL.guard_n rfl rfl rfl rfl ?_
    refine SatL.pu (RunV.pick_t rfl rfl) rfl ?_
    refine SatL.pu (RunV.move rfl) rfl ?_
    refine SatL.guard_n rfl rfl rfl rfl ?_
    refine SatL.guard_n rfl rfl rfl rfl ?_
    refine SatL.pu (RunV.pick_t rfl rfl) rfl ?_
    refine SatL.pu (RunV.move rfl) rfl ?_
    refine SatL.guard_n rfl rfl rfl rfl ?_
    refine SatL.guard_n rfl rfl rfl rfl ?_
    refine SatL.pu (RunV.pick_t rfl rfl) rfl ?_
    refine SatL.pu (RunV.assign rfl) rfl ?_
    refine SatL.nil (SatE.thenC ?_)
    refine SatC.ret ?_
    refine SatE.ret1 rfl rfl ?_
    refine ⟨congrArg Value.bool ?_, hS⟩
    rw [kC, kB, Bool.eq_iff_iff]
    simp_all
    try omega
/-- What is known when the first i bytes are cut away: each is right, and the last one of them is a stroke. -/
def CutAt (l : List UInt8) (i : Nat) : Prop := i ≤ l.length ∧ (∀ k, k < i → keyAt l k = true) ∧ (0 < i → (l.getD (i - 1) 0).toNat = 47)
theorem getD_drop' (l : List UInt8) (i k : Nat) : (l.drop i).getD k 0 = l.getD (i + k) 0 := by
  rw [List.getD_eq_getElem?_getD, List.getElem?_drop, List.getD_eq_getElem?_getD]
theorem at_part {l : List UInt8} {i n : Nat} (h : CutAt l i) (hn : ¬ (47 : UInt8) ∈ (l.drop i).take n) (hall : ((l.drop i).take n).all kC = true) (hle : i + n ≤ l.length) : ∀ k, k < i + n → keyAt l k = true := by
  intro k hk
  rcases Nat.lt_or_ge k i with h' | h'
  · exact h.2.1 k h'
  · obtain ⟨y, hy⟩ := get_some l k (by omega)
    have hm : y ∈ (l.drop i).take n := by
      apply List.mem_of_getElem? (i := k - i)
      rw [List.getElem?_take, if_pos (by omega), List.getElem?_drop, show i + (k - i) = k by omega]
      exact hy
    have h47 : ¬ y.toNat = 47 := fun e => hn (by
      have : y = 47 := by apply UInt8.toNat_inj.1; rw [e]; rfl
      rw [← this]; exact hm)
    rw [keyAt, getD_of hy, if_neg h47]
    exact List.all_eq_true.1 hall y hm
/-- A part that is no part: the text is no key. -/
theorem bad_part {l : List UInt8} {i : Nat} (h : CutAt l i) (hlen : 1 ≤ l.length) (hb : (cutR (l.drop i)).1 = [] ∨ (cutR (l.drop i)).1.all kC = false) : keyN l = false := by
  refine keyN_no fun hk => ?_
  obtain ⟨hk1, hk2, hk3⟩ := hk
  rw [cutR] at hb
  rcases idx_spec 47 (l.drop i) with ⟨e, hno⟩ | ⟨n, e, hlt, hat, hno⟩
  · rw [if_neg (by omega)] at hb
    rcases hb with hb | hb
    · have hi : l.length ≤ i := List.drop_eq_nil_iff.1 hb
      have : i = l.length := by have := h.1; omega
      subst this
      exact hk3 (h.2.2 (by omega))
    · obtain ⟨y, hy, hf⟩ := List.all_eq_false.1 hb
      obtain ⟨k, hk⟩ := List.getElem?_of_mem hy
      rw [List.getElem?_drop] at hk
      have h1 := hk2 (i + k) (List.getElem?_eq_some_iff.1 hk).1
      rw [keyAt, getD_of hk, if_neg (fun e => hno (by
        have : y = 47 := by apply UInt8.toNat_inj.1; rw [e]; rfl
        rw [← this]; exact hy))] at h1
      exact hf h1
  · rw [if_pos (by omega), e] at hb
    simp only [Int.toNat_natCast] at hb
    rw [List.length_drop] at hlt
    rw [List.getElem?_drop] at hat
    rcases hb with hb | hb
    · have hn0 : n = 0 := by
        have := congrArg List.length hb
        rw [List.length_take, List.length_drop, List.length_nil] at this
        omega
      subst hn0
      rw [Nat.add_zero] at hat
      have h1 := hk2 i (List.getElem?_eq_some_iff.1 hat).1
      rw [keyAt, getD_of hat, if_pos (show UInt8.toNat 47 = 47 from rfl)] at h1
      simp only [Bool.and_eq_true, decide_eq_true_eq] at h1
      exact h1.2 (h.2.2 (by omega))
    · obtain ⟨y, hy, hf⟩ := List.all_eq_false.1 hb
      obtain ⟨k, hk⟩ := List.getElem?_of_mem hy
      rw [List.getElem?_take] at hk
      split at hk
      · rw [List.getElem?_drop] at hk
        have h1 := hk2 (i + k) (List.getElem?_eq_some_iff.1 hk).1
        rw [keyAt, getD_of hk, if_neg (fun e => hno (by
          have : y = 47 := by apply UInt8.toNat_inj.1; rw [e]; rfl
          rw [← this]; exact hy))] at h1
        exact hf h1
      · cases hk
/-- The last part: the text is a key. -/
theorem last_part {l : List UInt8} {i : Nat} (h : CutAt l i) (hlen : 1 ≤ l.length ∧ l.length ≤ 32) (h1 : ¬ (cutR (l.drop i)).1 = []) (h2 : (cutR (l.drop i)).1.all kC = true) (h3 : (cutR (l.drop i)).2.2 = false) : keyN l = true := by
  rw [cutR] at h1 h2 h3
  rcases idx_spec 47 (l.drop i) with ⟨e, hno⟩ | ⟨n, e, hlt, hat, hno⟩
  · rw [if_neg (by omega)] at h1 h2 h3
    have hil : i < l.length := by
      rcases Nat.lt_or_ge i l.length with h' | h'
      · exact h'
      · exact absurd (List.drop_eq_nil_of_le h') h1
    have hall := at_part (n := l.length - i) h (by rw [List.take_of_length_le (by rw [List.length_drop]; exact Nat.le_refl _)]; exact hno) (by rw [List.take_of_length_le (by rw [List.length_drop]; exact Nat.le_refl _)]; exact h2) (by omega)
    refine (keyN_iff l).2 ⟨hlen, fun k hk => hall k (by omega), fun h47 => ?_⟩
    obtain ⟨y, hy⟩ := get_some l (l.length - 1) (by omega)
    rw [getD_of hy] at h47
    refine hno ?_
    have hyy : y = 47 := by apply UInt8.toNat_inj.1; rw [h47]; rfl
    rw [← hyy]
    apply List.mem_of_getElem? (i := l.length - 1 - i)
    rw [List.getElem?_drop, show i + (l.length - 1 - i) = l.length - 1 by omega]
    exact hy
  · rw [if_pos (by omega)] at h3
    cases h3
/-- A part that is right, with a stroke behind it. -/
theorem next_part {l : List UInt8} {i : Nat} (h : CutAt l i) (h1 : ¬ (cutR (l.drop i)).1 = []) (h2 : (cutR (l.drop i)).1.all kC = true) (h3 : (cutR (l.drop i)).2.2 = true) : ∃ j, i < j ∧ CutAt l j ∧ (cutR (l.drop i)).2.1 = l.drop j := by
  rw [cutR] at h1 h2 h3 ⊢
  rcases idx_spec 47 (l.drop i) with ⟨e, hno⟩ | ⟨n, e, hlt, hat, hno⟩
  · rw [if_neg (by omega)] at h3
    cases h3
  · rw [if_pos (by omega), e] at h1 h2 ⊢
    simp only [Int.toNat_natCast] at h1 h2 ⊢
    rw [List.length_drop] at hlt
    rw [List.getElem?_drop] at hat
    have hn : 0 < n := by
      rcases Nat.eq_zero_or_pos n with rfl | h'
      · simp at h1
      · exact h'
    have hall := at_part h hno h2 (by omega)
    refine ⟨i + n + 1, by omega, ⟨by omega, fun k hk => ?_, fun _ => by rw [Nat.add_sub_cancel, getD_of hat]; rfl⟩, by rw [List.drop_drop]; congr 1⟩
    rcases Nat.lt_or_ge k (i + n) with h' | h'
    · exact hall k h'
    · obtain rfl : k = i + n := by omega
      rw [keyAt, getD_of hat, if_pos (show UInt8.toNat 47 = 47 from rfl)]
      simp only [Bool.and_eq_true, decide_eq_true_eq]
      refine ⟨by omega, fun e47 => ?_⟩
      obtain ⟨y, hy⟩ := get_some l (i + n - 1) (by omega)
      rw [getD_of hy] at e47
      refine hno ?_
      have hyy : y = 47 := by apply UInt8.toNat_inj.1; rw [e47]; rfl
      rw [← hyy]
      apply List.mem_of_getElem? (i := n - 1)
      rw [List.getElem?_take, if_pos (by omega), List.getElem?_drop, show i + (n - 1) = i + n - 1 by omega]
      exact hy
theorem key_any (l : List UInt8) (w : World) : Ret Try.prog 18 #[str l] w fun v w' => v = .bool (keyN l) ∧ St w [] [] w' := by
  have hS := St.init0 w
  refine Ret.enter Try.func18 Try.ntmps18 rfl rfl ?_
  simp only [argEnv, Nat.reduceAdd]
  refine SatC.seq ?_
  refine SatC.region ?_
  refine SatL.pu (RunV.assign rfl) rfl ?_
  refine SatL.nil (SatE.thenC ?_)
  refine SatC.seq ?_
  refine SatC.seq ?_
  refine SatC.region ?_
  refine SatL.pu (RunV.move rfl) rfl ?_
  refine SatL.pu (RunV.lenB rfl rfl) rfl ?_
  refine SatL.pu (RunV.lss rfl rfl) rfl ?_
  refine SatL.pu (RunV.move rfl) rfl ?_
  refine SatL.guard rfl rfl rfl (fun h1 => ?_) (fun h1 => ?_)
  · (try simp only [cx, ne_eq] at h1)
    try (exfalso; (first | omega | exact h1 trivial | contradiction); done)
    all_goals
    refine SatL.pu (RunV.move rfl) rfl ?_
    refine SatL.guard_y rfl rfl ?_
    refine SatL.pu (RunV.lenB rfl rfl) rfl ?_
    refine SatL.guard_y rfl rfl ?_
    refine SatL.pu (RunV.gtr rfl rfl) rfl ?_
    refine SatL.pu (RunV.pick_f rfl rfl) rfl ?_
    refine SatL.nil (SatE.thenC ?_)
    refine SatC.cond rfl (fun h2 => ?_) (fun h2 => ?_)
    · (try simp only [cx, ne_eq] at h2)
      try (exfalso; (first | omega | exact h2 trivial | contradiction); done)
      all_goals
      refine SatC.seq ?_
      refine SatC.region ?_
      refine SatL.pu (RunV.assign rfl) rfl ?_
      refine SatL.nil (SatE.thenC ?_)
      refine SatC.ret (SatE.then_ret ?_)
      refine SatE.ret1 rfl rfl ?_
      refine ⟨congrArg Value.bool ?_, hS.sub (List.nil_sublist _)⟩
      first
      | exact (keyN_no (fun h => by omega)).symm
      | exact (bad_part hc hn.1 (.inl (by assumption))).symm
      | exact (bad_part hc hn.1 (.inr (by assumption))).symm
      | exact (last_part hc hn (by assumption) (by assumption) (by assumption)).symm
    · (try simp only [cx, ne_eq] at h2)
      try (exfalso; (first | omega | exact h2 trivial | contradiction); done)
      all_goals
      refine SatC.skip (SatE.thenC ?_)
      refine SatC.seq ?_
      refine SatC.region ?_
      refine SatL.pu (RunV.move rfl) rfl ?_
      refine SatL.pu (RunV.build rfl (by simp [go_sem]; try rfl)) rfl ?_
      refine SatL.op rfl (OpW.box hS rfl rfl (by repeat constructor) ?_)
      clear hS
      intro b16 w1 _ hS
      refine SatL.pu (RunV.mkFunc1 rfl rfl) rfl ?_
      refine SatL.pu (RunV.assign rfl) rfl ?_
      refine SatL.nil (SatE.thenC ?_)
      refine SatC.block ?_
      refine SatC.loopK (G := Nat) (V := fun i => []) (Cn := [(3, _), (2, _)]) (I := fun i w' => (1 ≤ l.length ∧ l.length ≤ 32) ∧ CutAt l i ∧ St w [] [(b16, C 37 [str (l.drop i)])] w') (μ := fun i => l.length - i) 0 ?_ (by repeat constructor) ?_
      · exact ⟨⟨by omega, by omega⟩, ⟨by omega, fun k h => by omega, fun h => by omega⟩, hS⟩
      clear hS
      rintro i w2 ⟨hn, hc, hS⟩
      refine SatC.weak (e' := [(2, _), (3, _)]) (by repeat constructor) ?_
      refine SatC.block ?_
      refine SatC.seq ?_
      refine SatC.region ?_
      refine SatL.pu (RunV.move rfl) rfl ?_
      refine SatL.op rfl (OpW.enterF (fs := [.pointer (some ⟨b16, 0, none⟩)]) (cap := []) rfl rfl rfl (rfl) (next_any (hS.ownT (by repeat constructor)) (by rw [List.length_drop]; omega)) ?_)
      rintro r3 w3 ⟨rfl, h⟩
      replace hS := hS.callT (A := [(b16, C 37 [str (l.drop i)])]) (by repeat constructor) h
      refine SatL.pu (RunV.move rfl) rfl ?_
      refine SatL.pu (RunV.extract rfl rfl) rfl ?_
      refine SatL.pu (RunV.extract rfl rfl) rfl ?_
      refine SatL.pu (RunV.assign rfl) rfl ?_
      refine SatL.pu (RunV.assign rfl) rfl ?_
      refine SatL.nil (SatE.thenC ?_)
      refine SatC.seq ?_
      refine SatC.seq ?_
      refine SatC.region ?_
      refine SatL.pu (RunV.move rfl) rfl ?_
      refine SatL.pu (RunV.seql rfl rfl) rfl ?_
      refine SatL.pu (RunV.move rfl) rfl ?_
      refine SatL.guard rfl rfl rfl (fun h3 => ?_) (fun h3 => ?_)
      · (try simp only [cx, ne_eq] at h3)
        try (exfalso; (first | omega | exact h3 trivial | contradiction); done)
        all_goals
        refine SatL.pu (RunV.move rfl) rfl ?_
        refine SatL.guard_y rfl rfl ?_
        refine SatL.op rfl (OpW.enter rfl rfl rfl (rfl) (all_any kC (by kernel_rfl) yesKey _ (by rw [cutR]; split <;> simp only [List.length_take, List.length_drop] <;> omega) _) ?_)
        rintro r4 w4 ⟨rfl, h⟩
        replace hS := St.callN hS h
        refine SatL.guard_y rfl rfl ?_
        refine SatL.pu (RunV.not rfl) rfl ?_
        refine SatL.pu (RunV.pick_f rfl rfl) rfl ?_
        refine SatL.nil (SatE.thenC ?_)
        refine SatC.weak (e' := [(2, _), (3, _), (5, _), (29, _)]) (by repeat constructor) ?_
        refine SatC.cond rfl (fun h4 => ?_) (fun h4 => ?_)
        · (try simp only [cx, ne_eq] at h4)
          try (exfalso; (first | omega | exact h4 trivial | contradiction); done)
          all_goals
          refine SatC.seq ?_
          refine SatC.region ?_
          refine SatL.pu (RunV.assign rfl) rfl ?_
          refine SatL.nil (SatE.thenC ?_)
          refine SatC.ret (SatE.then_ret (SatE.blk_ret (SatE.then_ret (SatE.blk_ret ?_))))
          refine SatE.ret1 rfl rfl ?_
          refine ⟨congrArg Value.bool ?_, hS.sub (List.nil_sublist _)⟩
          first
          | exact (keyN_no (fun h => by omega)).symm
          | exact (bad_part hc hn.1 (.inl (by assumption))).symm
          | exact (bad_part hc hn.1 (.inr (by assumption))).symm
          | exact (last_part hc hn (by assumption) (by assumption) (by assumption)).symm
        · (try simp only [cx, ne_eq] at h4)
          try (exfalso; (first | omega | exact h4 trivial | contradiction); done)
          all_goals
          refine SatC.skip (SatE.thenC ?_)
          refine SatC.seq ?_
          refine SatC.region ?_
          refine SatL.pu (RunV.move rfl) rfl ?_
          refine SatL.pu (RunV.not rfl) rfl ?_
          refine SatL.nil (SatE.thenC ?_)
          refine SatC.cond rfl (fun h5 => ?_) (fun h5 => ?_)
          · (try simp only [cx, ne_eq] at h5)
            try (exfalso; (first | omega | exact h5 trivial | contradiction); done)
            all_goals
            refine SatC.seq ?_
            refine SatC.region ?_
            refine SatL.pu (RunV.assign rfl) rfl ?_
            refine SatL.nil (SatE.thenC ?_)
            refine SatC.ret (SatE.blk_ret (SatE.then_ret (SatE.blk_ret ?_)))
            refine SatE.ret1 rfl rfl ?_
            refine ⟨congrArg Value.bool ?_, hS.sub (List.nil_sublist _)⟩
            first
            | exact (keyN_no (fun h => by omega)).symm
            | exact (bad_part hc hn.1 (.inl (by assumption))).symm
            | exact (bad_part hc hn.1 (.inr (by assumption))).symm
            | exact (last_part hc hn (by assumption) (by assumption) (by assumption)).symm
          · (try simp only [cx, ne_eq] at h5)
            try (exfalso; (first | omega | exact h5 trivial | contradiction); done)
            all_goals
            refine SatC.skip (SatE.blk_normal ?_)
            obtain ⟨j, hj1, hj2, hj3⟩ := next_part hc (by assumption) (by assumption) (by assumption)
            rw [hj3] at hS
            exact SatE.again j ⟨hn, hj2, hS.sel (by repeat constructor)⟩ (by have := hj2.1; omega) (by repeat constructor)
      · (try simp only [cx, ne_eq] at h3)
        try (exfalso; (first | omega | exact h3 trivial | contradiction); done)
        all_goals
        refine SatL.guard_n rfl rfl rfl rfl ?_
        refine SatL.guard_n rfl rfl rfl rfl ?_
        refine SatL.pu (RunV.pick_t rfl rfl) rfl ?_
        refine SatL.nil (SatE.thenC ?_)
        refine SatC.weak (e' := [(2, _), (3, _), (5, _), (29, _)]) (by repeat constructor) ?_
        refine SatC.cond_t rfl ?_
        refine SatC.seq ?_
        refine SatC.region ?_
        refine SatL.pu (RunV.assign rfl) rfl ?_
        refine SatL.nil (SatE.thenC ?_)
        refine SatC.ret (SatE.then_ret (SatE.blk_ret (SatE.then_ret (SatE.blk_ret ?_))))
        refine SatE.ret1 rfl rfl ?_
        refine ⟨congrArg Value.bool ?_, hS.sub (List.nil_sublist _)⟩
        first
        | exact (keyN_no (fun h => by omega)).symm
        | exact (bad_part hc hn.1 (.inl (by assumption))).symm
        | exact (bad_part hc hn.1 (.inr (by assumption))).symm
        | exact (last_part hc hn (by assumption) (by assumption) (by assumption)).symm
  · (try simp only [cx, ne_eq] at h1)
    try (exfalso; (first | omega | exact h1 trivial | contradiction); done)
    all_goals
    refine SatL.guard_n rfl rfl rfl rfl ?_
    refine SatL.guard_n rfl rfl rfl rfl ?_
    refine SatL.pu (RunV.pick_t rfl rfl) rfl ?_
    refine SatL.nil (SatE.thenC ?_)
    refine SatC.cond_t rfl ?_
    refine SatC.seq ?_
    refine SatC.region ?_
    refine SatL.pu (RunV.assign rfl) rfl ?_
    refine SatL.nil (SatE.thenC ?_)
    refine SatC.ret (SatE.then_ret ?_)
    refine SatE.ret1 rfl rfl ?_
    refine ⟨congrArg Value.bool ?_, hS.sub (List.nil_sublist _)⟩
    first
    | exact (keyN_no (fun h => by omega)).symm
    | exact (bad_part hc hn.1 (.inl (by assumption))).symm
    | exact (bad_part hc hn.1 (.inr (by assumption))).symm
    | exact (last_part hc hn (by assumption) (by assumption) (by assumption)).symm
end Go.Proofs.Ytkmgnplaokogbaa
