/- A file's beginning alone; a file has another one's bytes. -/
import Derived.Test.YtahholhggohbnaaDd
set_option linter.unusedSimpArgs false
set_option linter.unusedVariables false
set_option maxRecDepth 100000
set_option maxHeartbeats 4000000
namespace Go.Proofs.Ytahholhggohbnaa
open Go.RowKit
theorem lenA_at {p s : List Fi} {x : Fi} {n : Int} (hp : p.length = n.toNat) : lenA (ab (p ++ x :: s)) n = x.b.length := by
  unfold lenA ab
  rw [List.map_append, List.map_cons, List.getElem?_append_right (by rw [List.length_map]; omega), List.length_map, hp, Nat.sub_self]
  rfl
theorem get_ab {fs : List Fi} {x : Fi} {i : Nat} (h : fs[i]? = some x) : (ab fs)[i]?.getD ([], 0) = (x.b, x.s) := by
  unfold ab
  rw [List.getElem?_map, h]
  rfl
theorem ab_set (fs : List Fi) (i : Nat) (x : Fi) : ab (fs.set i x) = (ab fs).set i (x.b, x.s) := by
  unfold ab
  rw [List.map_set]
theorem SlF.set {fs : List Fi} {i : Nat} {y : Fi} (h : SlF fs) (hy : Sl 5 1 y.v (y.b.map by1c) y.B) : SlF (fs.set i y) := by
  intro z hz
  rcases List.mem_or_eq_of_mem_set hz with hz | rfl
  · exact h z hz
  · exact hy
section
variable {b : Nat} {room fuse : Int} {down : Bool} {fs : List Fi} {w : World}
theorem ask_cut {b3 b4 b5 : Nat} {n m : Int} {fa : List Fa} (hab : ab fs = fa) (h4 : fs.length = 4) (hvf : VF fs) (hown : Own w [(b3, C 24 [.pointer (some ⟨b, 0, none⟩)]), (b4, C 3 [.int .i64 n]), (b5, C 3 [.int .i64 m]), (b, C 53 (dcs room fuse down fs))]) :
    Ret Try.prog 41 #[.pointer (some ⟨b4, 0, none⟩), .pointer (some ⟨b5, 0, none⟩), .pointer (some ⟨b3, 0, none⟩)] w fun u w' => u = .bool (decide ((0 ≤ n ∧ n < 4) ∧ 0 ≤ m ∧ m ≤ lenA fa n)) ∧ St w [] [] w' := by
  have hS := St.init hown
  simp only [List.map_cons, List.map_nil] at hS
  by_cases hn : 0 ≤ n ∧ n < 4
  · obtain ⟨p, x, s, hfs, hp⟩ := split_at (l := fs) (n := n.toNat) (by omega)
    subst hfs
    obtain ⟨xb, xo, xc, hxv⟩ := hvf x (by simp)
    have hlA := lenA_at (s := s) (x := x) hp
    rw [hab] at hlA
    refine Ret.enter Try.func41 Try.ntmps41 rfl rfl ?_
    simp only [argEnv, Nat.reduceAdd]
    refine SatC.seq ?_
    refine SatC.region ?_
    refine SatL.pu (RunV.assign rfl) rfl ?_
    refine SatL.nil (SatE.thenC ?_)
    refine SatC.seq ?_
    refine SatC.drawnT 19 hS (hS) (by kernel_rfl) ?_
    clear hS
    intro w1 hh hS hD
    refine SatD.tk 0 rfl hD (fun _ hw => RunV.load1 hw rfl rfl (by repeat constructor) rfl) ?_
    refine SatD.ef 1 rfl (OpW.enter rfl rfl rfl (rfl) (there_any n _) ?_)
    rintro r2 w2 ⟨rfl, h⟩
    replace hS := St.callN hS h
    refine keepS (hS.sel (by repeat constructor)) (fun hD => ?_)
    refine SatD.tk 2 rfl hD (fun _ hw => RunV.move rfl) ?_
    refine SatD.ways 6 rfl (fun h1 => ?_) (fun h1 => ?_)
    · (try simp only [cx, ne_eq] at h1)
      try (exfalso; (first | omega | exact h1 trivial | contradiction | (simp at h1; done)); done)
      all_goals
      refine SatD.tk 3 rfl hD (fun _ hw => RunV.load1 hw rfl rfl (by repeat constructor) rfl) ?_
      refine SatD.tk 4 rfl hD (fun _ hw => RunV.geq rfl rfl) ?_
      refine SatD.tk 5 rfl hD (fun _ hw => RunV.pick_t rfl rfl) ?_
      refine SatD.tk 6 rfl hD (fun _ hw => RunV.move rfl) ?_
      refine SatD.ways 10 rfl (fun h2 => ?_) (fun h2 => ?_)
      · (try simp only [cx, ne_eq] at h2)
        try (exfalso; (first | omega | exact h2 trivial | contradiction | (simp at h2; done)); done)
        all_goals
        refine SatD.tk 7 rfl hD (fun _ hw => RunV.load1 hw rfl rfl (by repeat constructor) rfl) ?_
        refine SatD.tk 8 rfl hD (fun _ hw => RunV.load1 hw rfl rfl (by repeat constructor) rfl) ?_
        refine SatD.tk 9 rfl hD (fun _ hw => RunV.load1 hw rfl rfl (by repeat constructor) rfl) ?_
        first | refine SatD.tk 10 rfl hD (fun _ hw => RunV.nil_ptr rfl) ?_ | refine SatD.tk 10 rfl hD (fun _ hw => RunV.nil_func rfl) ?_ | refine SatD.tk 10 rfl hD (fun _ hw => RunV.nil_yield rfl) ?_
        first | refine SatD.tk 11 rfl hD (fun _ hw => RunV.fieldAddrL rfl rfl rfl) ?_ | refine SatD.tk 11 rfl hD (fun _ hw => RunV.fieldAddr rfl rfl rfl) ?_
        refine SatD.tk 12 rfl hD (fun _ hw => RunV.indexA rfl rfl rfl (by omega) (by omega) rfl) ?_
        first | refine SatD.tk 13 rfl hD (fun _ hw => RunV.fieldAddrL rfl rfl rfl) ?_ | refine SatD.tk 13 rfl hD (fun _ hw => RunV.fieldAddr rfl rfl rfl) ?_
        refine SatD.tk 14 rfl hD (fun _ hw => RunV.load1 hw rfl rfl (by repeat constructor) (dget (j := 0) (by omega) rfl)) ?_
        first | refine SatD.tk 15 rfl hD (fun _ hw => RunV.lenR (by assumption) rfl rfl) ?_ | refine SatD.tk 15 rfl hD (fun _ hw => RunV.lenS rfl rfl) ?_
        refine SatD.tk 16 rfl hD (fun _ hw => RunV.leq rfl rfl) ?_
        refine SatD.tk 17 rfl hD (fun _ hw => RunV.pick_t rfl rfl) ?_
        refine SatD.tk 18 rfl hD (fun _ hw => RunV.assign rfl) ?_
        refine SatD.done 0 (by kernel_rfl) (SatE.thenC ?_)
        clear hD
        refine SatC.ret ?_
        refine SatE.ret1 rfl rfl ?_
        refine ⟨congrArg Value.bool ?_, St.ro hown hS (by repeat constructor)⟩
        rw [hlA, Bool.eq_iff_iff]; simp only [decide_eq_true_eq, Bool.false_eq_true, false_iff]; omega
      · (try simp only [cx, ne_eq] at h2)
        try (exfalso; (first | omega | exact h2 trivial | contradiction | (simp at h2; done)); done)
        all_goals
        refine SatD.sk 7 rfl [] hD ?_
        refine SatD.sk 8 rfl [] hD ?_
        refine SatD.sk 9 rfl [] hD ?_
        refine SatD.sk 10 rfl [] hD ?_
        refine SatD.sk 11 rfl [] hD ?_
        refine SatD.sk 12 rfl [] hD ?_
        refine SatD.sk 13 rfl [] hD ?_
        refine SatD.sk 14 rfl [] hD ?_
        refine SatD.sk 15 rfl [] hD ?_
        refine SatD.sk 16 rfl [] hD ?_
        refine SatD.tk 17 rfl hD (fun _ hw => RunV.pick_f rfl rfl) ?_
        refine SatD.tk 18 rfl hD (fun _ hw => RunV.assign rfl) ?_
        refine SatD.done 0 (by kernel_rfl) (SatE.thenC ?_)
        clear hD
        refine SatC.ret ?_
        refine SatE.ret1 rfl rfl ?_
        refine ⟨congrArg Value.bool ?_, St.ro hown hS (by repeat constructor)⟩
        rw [hlA, Bool.eq_iff_iff]; simp only [decide_eq_true_eq, Bool.false_eq_true, false_iff]; omega
    · (try simp only [cx, ne_eq] at h1)
      try (exfalso; (first | omega | exact h1 trivial | contradiction | (simp at h1; done)); done)
      all_goals
      refine SatD.sk 3 rfl [] hD ?_
      refine SatD.sk 4 rfl [] hD ?_
      refine SatD.tk 5 rfl hD (fun _ hw => RunV.pick_f rfl rfl) ?_
      refine SatD.tk 6 rfl hD (fun _ hw => RunV.move rfl) ?_
      refine SatD.sk 7 rfl [] hD ?_
      refine SatD.sk 8 rfl [] hD ?_
      refine SatD.sk 9 rfl [] hD ?_
      refine SatD.sk 10 rfl [] hD ?_
      refine SatD.sk 11 rfl [] hD ?_
      refine SatD.sk 12 rfl [] hD ?_
      refine SatD.sk 13 rfl [] hD ?_
      refine SatD.sk 14 rfl [] hD ?_
      refine SatD.sk 15 rfl [] hD ?_
      refine SatD.sk 16 rfl [] hD ?_
      refine SatD.tk 17 rfl hD (fun _ hw => RunV.pick_f rfl rfl) ?_
      refine SatD.tk 18 rfl hD (fun _ hw => RunV.assign rfl) ?_
      refine SatD.done 0 (by kernel_rfl) (SatE.thenC ?_)
      clear hD
      refine SatC.ret ?_
      refine SatE.ret1 rfl rfl ?_
      refine ⟨congrArg Value.bool ?_, St.ro hown hS (by repeat constructor)⟩
      rw [hlA, Bool.eq_iff_iff]; simp only [decide_eq_true_eq, Bool.false_eq_true, false_iff]; omega
  · refine Ret.enter Try.func41 Try.ntmps41 rfl rfl ?_
    simp only [argEnv, Nat.reduceAdd]
    refine SatC.seq ?_
    refine SatC.region ?_
    refine SatL.pu (RunV.assign rfl) rfl ?_
    refine SatL.nil (SatE.thenC ?_)
    refine SatC.seq ?_
    refine SatC.drawnT 19 hS (hS) (by kernel_rfl) ?_
    clear hS
    intro w1 hh hS hD
    refine SatD.tk 0 rfl hD (fun _ hw => RunV.load1 hw rfl rfl (by repeat constructor) rfl) ?_
    refine SatD.ef 1 rfl (OpW.enter rfl rfl rfl (rfl) (there_any n _) ?_)
    rintro r2 w2 ⟨rfl, h⟩
    replace hS := St.callN hS h
    refine keepS (hS.sel (by repeat constructor)) (fun hD => ?_)
    refine SatD.tk 2 rfl hD (fun _ hw => RunV.move rfl) ?_
    refine SatD.ways 6 rfl (fun h1 => ?_) (fun h1 => ?_)
    · (try simp only [cx, ne_eq] at h1)
      try (exfalso; (first | omega | exact h1 trivial | contradiction | (omega)); done)
      all_goals
      refine SatD.tk 3 rfl hD (fun _ hw => RunV.load1 hw rfl rfl (by repeat constructor) rfl) ?_
      refine SatD.tk 4 rfl hD (fun _ hw => RunV.geq rfl rfl) ?_
      refine SatD.tk 5 rfl hD (fun _ hw => RunV.pick_t rfl rfl) ?_
      refine SatD.tk 6 rfl hD (fun _ hw => RunV.move rfl) ?_
      refine SatD.ways 10 rfl (fun h2 => ?_) (fun h2 => ?_)
      · (try simp only [cx, ne_eq] at h2)
        try (exfalso; (first | omega | exact h2 trivial | contradiction | (omega)); done)
        all_goals
        refine SatD.tk 7 rfl hD (fun _ hw => RunV.load1 hw rfl rfl (by repeat constructor) rfl) ?_
        refine SatD.tk 8 rfl hD (fun _ hw => RunV.load1 hw rfl rfl (by repeat constructor) rfl) ?_
        refine SatD.tk 9 rfl hD (fun _ hw => RunV.load1 hw rfl rfl (by repeat constructor) rfl) ?_
        first | refine SatD.tk 10 rfl hD (fun _ hw => RunV.nil_ptr rfl) ?_ | refine SatD.tk 10 rfl hD (fun _ hw => RunV.nil_func rfl) ?_ | refine SatD.tk 10 rfl hD (fun _ hw => RunV.nil_yield rfl) ?_
        first | refine SatD.tk 11 rfl hD (fun _ hw => RunV.fieldAddrL rfl rfl rfl) ?_ | refine SatD.tk 11 rfl hD (fun _ hw => RunV.fieldAddr rfl rfl rfl) ?_
        refine SatD.tk 12 rfl hD (fun _ hw => RunV.indexA rfl rfl rfl (by omega) (by omega) rfl) ?_
        first | refine SatD.tk 13 rfl hD (fun _ hw => RunV.fieldAddrL rfl rfl rfl) ?_ | refine SatD.tk 13 rfl hD (fun _ hw => RunV.fieldAddr rfl rfl rfl) ?_
        refine SatD.tk 14 rfl hD (fun _ hw => RunV.load1 hw rfl rfl (by repeat constructor) rfl) ?_
        first | refine SatD.tk 15 rfl hD (fun _ hw => RunV.lenR (by assumption) rfl rfl) ?_ | refine SatD.tk 15 rfl hD (fun _ hw => RunV.lenS rfl rfl) ?_
        refine SatD.tk 16 rfl hD (fun _ hw => RunV.leq rfl rfl) ?_
        refine SatD.tk 17 rfl hD (fun _ hw => RunV.pick_t rfl rfl) ?_
        refine SatD.tk 18 rfl hD (fun _ hw => RunV.assign rfl) ?_
        refine SatD.done 0 (by kernel_rfl) (SatE.thenC ?_)
        clear hD
        refine SatC.ret ?_
        refine SatE.ret1 rfl rfl ?_
        refine ⟨congrArg Value.bool ?_, St.ro hown hS (by repeat constructor)⟩
        rw [Bool.eq_iff_iff]; simp only [decide_eq_true_eq, Bool.false_eq_true, false_iff]; omega
      · (try simp only [cx, ne_eq] at h2)
        try (exfalso; (first | omega | exact h2 trivial | contradiction | (omega)); done)
        all_goals
        refine SatD.sk 7 rfl [] hD ?_
        refine SatD.sk 8 rfl [] hD ?_
        refine SatD.sk 9 rfl [] hD ?_
        refine SatD.sk 10 rfl [] hD ?_
        refine SatD.sk 11 rfl [] hD ?_
        refine SatD.sk 12 rfl [] hD ?_
        refine SatD.sk 13 rfl [] hD ?_
        refine SatD.sk 14 rfl [] hD ?_
        refine SatD.sk 15 rfl [] hD ?_
        refine SatD.sk 16 rfl [] hD ?_
        refine SatD.tk 17 rfl hD (fun _ hw => RunV.pick_f rfl rfl) ?_
        refine SatD.tk 18 rfl hD (fun _ hw => RunV.assign rfl) ?_
        refine SatD.done 0 (by kernel_rfl) (SatE.thenC ?_)
        clear hD
        refine SatC.ret ?_
        refine SatE.ret1 rfl rfl ?_
        refine ⟨congrArg Value.bool ?_, St.ro hown hS (by repeat constructor)⟩
        rw [Bool.eq_iff_iff]; simp only [decide_eq_true_eq, Bool.false_eq_true, false_iff]; omega
    · (try simp only [cx, ne_eq] at h1)
      try (exfalso; (first | omega | exact h1 trivial | contradiction | (omega)); done)
      all_goals
      refine SatD.sk 3 rfl [] hD ?_
      refine SatD.sk 4 rfl [] hD ?_
      refine SatD.tk 5 rfl hD (fun _ hw => RunV.pick_f rfl rfl) ?_
      refine SatD.tk 6 rfl hD (fun _ hw => RunV.move rfl) ?_
      refine SatD.sk 7 rfl [] hD ?_
      refine SatD.sk 8 rfl [] hD ?_
      refine SatD.sk 9 rfl [] hD ?_
      refine SatD.sk 10 rfl [] hD ?_
      refine SatD.sk 11 rfl [] hD ?_
      refine SatD.sk 12 rfl [] hD ?_
      refine SatD.sk 13 rfl [] hD ?_
      refine SatD.sk 14 rfl [] hD ?_
      refine SatD.sk 15 rfl [] hD ?_
      refine SatD.sk 16 rfl [] hD ?_
      refine SatD.tk 17 rfl hD (fun _ hw => RunV.pick_f rfl rfl) ?_
      refine SatD.tk 18 rfl hD (fun _ hw => RunV.assign rfl) ?_
      refine SatD.done 0 (by kernel_rfl) (SatE.thenC ?_)
      clear hD
      refine SatC.ret ?_
      refine SatE.ret1 rfl rfl ?_
      refine ⟨congrArg Value.bool ?_, St.ro hown hS (by repeat constructor)⟩
      rw [Bool.eq_iff_iff]; simp only [decide_eq_true_eq, Bool.false_eq_true, false_iff]; omega
theorem do_cut {bd bn bm : Nat} {n m : Int} {p s : List Fi} {x : Fi} (h4 : (p ++ x :: s).length = 4) (hn : 0 ≤ n ∧ n < 4) (hp : p.length = n.toNat) (hxl : x.b.length ≤ 4000000) (hm : 0 ≤ m ∧ m ≤ x.b.length) (hxsl : Sl 5 1 x.v (x.b.map by1c) x.B) (hown : Own w ((bd, C 24 [.pointer (some ⟨b, 0, none⟩)]) :: (bn, C 3 [.int .i64 n]) :: (bm, C 3 [.int .i64 m]) :: (b, C 53 (dcs room fuse down (p ++ x :: s))) :: x.B)) :
    Ret Try.prog 40 #[.pointer (some ⟨bd, 0, none⟩), .pointer (some ⟨bn, 0, none⟩), .pointer (some ⟨bm, 0, none⟩)] w fun u w' => ∃ v' B', Sl 5 1 v' ((x.b.take m.toNat).map by1c) B' ∧ St w (bd :: bn :: bm :: b :: x.B.map Prod.fst) ((bd, C 24 [.pointer (some ⟨b, 0, none⟩)]) :: (bn, C 3 [.int .i64 n]) :: (bm, C 3 [.int .i64 m]) :: (b, C 53 (dcs room fuse down (p ++ ⟨v', x.b.take m.toNat, m, B'⟩ :: s))) :: B') w' := by
  have hS := St.init hown
  simp only [List.map_cons, List.map_nil] at hS
  generalize hX : (bd :: bn :: bm :: b :: x.B.map Prod.fst) = X at hS ⊢
  obtain ⟨xc, hxv⟩ := hxsl.slv
  rw [List.length_map] at hxv
  refine Ret.enter Try.func40 Try.ntmps40 rfl rfl ?_
  simp only [argEnv, Nat.reduceAdd]
  refine SatC.drawnT 18 hS (hS) (by kernel_rfl) ?_
  clear hS
  intro w1 hh hS hD
  refine SatD.tk 0 rfl hD (fun _ hw => RunV.load1 hw rfl rfl (by repeat constructor) rfl) ?_
  refine SatD.tk 1 rfl hD (fun _ hw => RunV.load1 hw rfl rfl (by repeat constructor) rfl) ?_
  refine SatD.tk 3 rfl hD (fun _ hw => RunV.load1 hw rfl rfl (by repeat constructor) rfl) ?_
  refine SatD.tk 4 rfl hD (fun _ hw => RunV.load1 hw rfl rfl (by repeat constructor) rfl) ?_
  first | refine SatD.tk 5 rfl hD (fun _ hw => RunV.nil_ptr rfl) ?_ | refine SatD.tk 5 rfl hD (fun _ hw => RunV.nil_func rfl) ?_ | refine SatD.tk 5 rfl hD (fun _ hw => RunV.nil_yield rfl) ?_
  first | refine SatD.tk 6 rfl hD (fun _ hw => RunV.fieldAddrL rfl rfl rfl) ?_ | refine SatD.tk 6 rfl hD (fun _ hw => RunV.fieldAddr rfl rfl rfl) ?_
  refine SatD.tk 7 rfl hD (fun _ hw => RunV.indexA rfl rfl rfl (by omega) (by omega) rfl) ?_
  first | refine SatD.tk 8 rfl hD (fun _ hw => RunV.fieldAddrL rfl rfl rfl) ?_ | refine SatD.tk 8 rfl hD (fun _ hw => RunV.fieldAddr rfl rfl rfl) ?_
  refine SatD.tk 9 rfl hD (fun _ hw => RunV.load1 hw rfl rfl (by repeat constructor) (dget (j := 0) (by omega) rfl)) ?_
  refine SatD.tk 10 rfl hD (fun _ hw => RunV.load1 hw rfl rfl (by repeat constructor) rfl) ?_
  refine SatD.tk 11 rfl hD (fun _ hw => RunV.cutHv hxv rfl rfl rfl rfl (by omega) (by omega)) ?_
  refine SatD.tk 13 rfl hD (fun _ hw => RunV.load1 hw rfl rfl (by repeat constructor) rfl) ?_
  first | refine SatD.tkp 15 rfl [17, 16] hD (fun _ hw => RunV.nil_ptr rfl) ?_ | refine SatD.tkp 15 rfl [17, 16] hD (fun _ hw => RunV.nil_func rfl) ?_ | refine SatD.tkp 15 rfl [17, 16] hD (fun _ hw => RunV.nil_yield rfl) ?_
  first | refine SatD.tkp 16 rfl [17] hD (fun _ hw => RunV.fieldAddrL rfl rfl rfl) ?_ | refine SatD.tkp 16 rfl [17] hD (fun _ hw => RunV.fieldAddr rfl rfl rfl) ?_
  refine SatD.ef 2 rfl (OpW.buildSlice0 hS rfl rfl rfl ?_)
  clear hS
  intro v5 b5 w2 _ hsl5 hv5 hS
  refine keepS (hS.sel (by repeat constructor)) (fun hD => ?_)
  refine SatD.ef 12 rfl (OpW.appendB (news := (x.b.take m.toNat).map by1c) hsl5 hS (by repeat constructor) (SlV.cutV 1 hxv (Nat.zero_le m.toNat) (by omega)) (by rw [Nat.zero_mul, Nat.add_zero, List.map_take]; exact (hxsl.rd hS (by repeat constructor)).take) (by rw [List.length_map, List.length_take]; omega) rfl rfl rfl rfl rfl rfl rfl (by1c_one' _) (by simp only [List.length_nil]; omega) (by simp only [List.length_nil]; omega) rfl ?_)
  clear hS
  intro v15 B15 w3 hsl15 hS
  rw [List.nil_append] at hsl15
  refine keepS (hS.sel (by repeat constructor)) (fun hD => ?_)
  refine SatD.tk 14 rfl hD (fun _ hw => RunV.build (v := .agg #[v15, .int .i64 m]) rfl (by obtain ⟨c1, h1⟩ := hsl15.slv; obtain ⟨A1, rfl, _⟩ := h1.eq; simp [go_sem]; try rfl)) ?_
  refine SatD.tk 17 rfl hD (fun _ hw => RunV.indexA rfl rfl rfl (by omega) (by omega) rfl) ?_
  refine SatD.effF (by kernel_rfl) rfl rfl (OpW.storeRowAt (T := 53) (vs := [v15, .int .i64 m]) (cs := dcs room fuse down (p ++ x :: s)) hS rfl rfl .agg (by rw [dcs_len h4]; simp; omega) (drow (y := ⟨v15, x.b.take m.toNat, m, B15⟩) (by omega)) (by repeat constructor) rfl (by simp only [List.all_cons, List.all_nil, hsl15.one, Bool.and_true]; rfl) ?_)
  clear hS
  intro w4 hS
  refine SatD.done 0 (by kernel_rfl) ?_
  clear hD
  refine SatE.fin0 rfl ?_
  exact ⟨v15, B15, hsl15, hS.sel (by repeat constructor)⟩
end
end Go.Proofs.Ytahholhggohbnaa
