/- SumLaid: the sum of three rows of one length, laid over one another, is their sums, laid over one another: true at every input, with no condition. -/
import Derived.Test.YtpajeienbdnkfaaE
import Derived.Test.YtpajeienbdnkfaaK13
import Derived.Test.YtpajeienbdnkfaaRows
set_option linter.unusedSimpArgs false
set_option linter.unusedVariables false
set_option maxRecDepth 100000
set_option maxHeartbeats 1000000
namespace Go.Proofs.Ytpajeienbdnkfaa
open Go.RowKit Go.ChangeShapes Go.WideShapes Go.ChangeAt
theorem toU8 {n : Int} (h : 0 ≤ n ∧ n ≤ 255) : ∃ a : BitVec 8, n = (a.toNat : Int) := ⟨BitVec.ofNat 8 n.toNat, by rw [BitVec.toNat_ofNat]; omega⟩
def mix (a b c : List (BitVec 8)) (n i : Nat) : List (BitVec 8) := (List.range n).map fun j => if j < i then a.getD j 0#8 ^^^ b.getD j 0#8 ^^^ c.getD j 0#8 else a.getD j 0#8
theorem mix_len (a b c : List (BitVec 8)) (n i : Nat) : (mix a b c n i).length = n := by simp [mix]
theorem get_D {l : List (BitVec 8)} {i : Nat} {x : BitVec 8} (h : l[i]? = some x) : l.getD i 0#8 = x := by simp [h]
theorem mix_at {a b c : List (BitVec 8)} {n i : Nat} {x : BitVec 8} (hi : i < n) (ha : a[i]? = some x) : (mix a b c n i)[i]? = some x := by
  simp [mix, hi, ha]
theorem mix_next {a b c : List (BitVec 8)} {n i : Nat} {x y z : BitVec 8} (hi : i < n) (ha : a[i]? = some x) (hb : b[i]? = some y) (hc : c[i]? = some z) : (mix a b c n i).set i (x ^^^ y ^^^ z) = mix a b c n (i + 1) := by
  apply List.ext_getElem?
  intro j
  rw [List.getElem?_set, mix_len]
  by_cases hj : i = j
  · subst hj
    simp [mix, hi, ha, hb, hc]
  · rw [if_neg hj]
    by_cases hjn : j < n
    · simp only [mix, List.getElem?_map, List.getElem?_range hjn, Option.map_some]
      by_cases h1 : j < i
      · rw [if_pos h1, if_pos (show j < i + 1 by omega)]
      · rw [if_neg h1, if_neg (show ¬ j < i + 1 by omega)]
    · rw [List.getElem?_eq_none (by rw [mix_len]; omega), List.getElem?_eq_none (by rw [mix_len]; omega)]
theorem mix_0 (a b c : List (BitVec 8)) (n : Nat) (h : n ≤ a.length) : mix a b c n 0 = a.take n := by
  apply List.ext_getElem?
  intro j
  by_cases hj : j < n
  · obtain ⟨x, hx⟩ := get_some a j (by omega)
    simp [mix, hj, hx]
  · rw [List.getElem?_eq_none (by rw [mix_len]; omega), List.getElem?_eq_none (by rw [List.length_take]; omega)]
theorem mix_n (a b c : List (BitVec 8)) (n : Nat) (h1 : n ≤ a.length) (h2 : n ≤ b.length) (h3 : n ≤ c.length) : mix a b c n n = List.zipWith (· ^^^ ·) (List.zipWith (· ^^^ ·) (a.take n) (b.take n)) (c.take n) := by
  apply List.ext_getElem?
  intro j
  by_cases hj : j < n
  · obtain ⟨x, hx⟩ := get_some a j (by omega)
    obtain ⟨y, hy⟩ := get_some b j (by omega)
    obtain ⟨z, hz⟩ := get_some c j (by omega)
    simp [mix, hj, hx, hy, hz, List.getElem?_zipWith, List.getElem?_take]
  · rw [List.getElem?_eq_none (by rw [mix_len]; omega), List.getElem?_eq_none (by simp only [List.length_zipWith, List.length_take]; omega)]
theorem mix_sum {a b c : List (BitVec 8)} {n : Nat} (h1 : n ≤ a.length) (h2 : n ≤ b.length) (h3 : n ≤ c.length) : (((crc 0#32 (a.take n) ^^^ crc 0#32 (b.take n) ^^^ crc 0#32 (c.take n)).toNat : Int) = ((crc 0#32 (mix a b c n n)).toNat : Int)) := by
  rw [mix_n a b c n h1 h2 h3, crc_laid _ _ _ (by simp only [List.length_take]; omega) (by simp only [List.length_take]; omega)]
theorem sum_cut {w w0 : World} {X : List Nat} {L : List (Nat × Obj)} {bt : Nat} {v : Value} {bs : List (BitVec 8)} (hS : St w0 X L w) (hm : Has L bt (C 22 [v])) (hr : RdRow w v 1 (bs.map by1)) : Ret Try.prog 9 #[.slice (some ⟨bt, 0, none⟩) 1 1] w fun u w' => u = u32 (crc 0#32 bs) ∧ St w [] [] w' :=
  sum_any _ [(v, bs)] _ (RdRow.of ⟨⟨_, rfl, fun _ => rfl⟩, Nat.le_refl _⟩ rfl (by simp) (RdC.own (post := []) hS hm (by simp)) (by decide)) (fun p hp => (by obtain rfl := List.mem_singleton.1 hp; exact hr))
theorem laid_any (va vb vc : Value) (a b c : List (BitVec 8)) (w : World) (ha : RdRow w va 1 (a.map by1)) (hb : RdRow w vb 1 (b.map by1)) (hc : RdRow w vc 1 (c.map by1)) (hn : a.length ≤ 140737488351232) : Ret Try.prog 5 #[va, vb, vc] w fun u w' => u = .bool true ∧ St w [] [] w' := by
  have hS := St.init0 w
  obtain ⟨ba, oa, ca, hva, hma, hca, hlta⟩ := ha.open
  obtain ⟨bb, ob, cb, hvb, hmb, hcb, hltb⟩ := hb.open
  obtain ⟨bc, oc, cc, hvc, hmc, hcc, hltc⟩ := hc.open
  simp only [List.length_map] at hva hma hvb hmb hvc hmc
  refine Ret.enter Try.func5 Try.ntmps5 rfl rfl ?_
  simp only [argEnv, Nat.reduceAdd]
  refine SatC.seq ?_
  refine SatC.region ?_
  refine SatL.pu (RunV.assign rfl) rfl ?_
  refine SatL.nil (SatE.thenC ?_)
  refine SatC.seq ?_
  refine SatC.region ?_
  refine SatL.pu (RunV.move rfl) rfl ?_
  first | refine SatL.pu (RunV.lenR (by assumption) rfl rfl) rfl ?_ | refine SatL.pu (RunV.lenS rfl rfl) rfl ?_
  refine SatL.pu (RunV.assign rfl) rfl ?_
  refine SatL.nil (SatE.thenC ?_)
  refine SatC.merge (G := Nat) (V := fun n => [(7, .int .i64 (n : Int))]) (Cn := [(0, _), (1, _), (2, _), (6, _)]) (I := fun n w' => n ≤ a.length ∧ n ≤ b.length ∧ St w [] [] w') (by repeat constructor) ?_ ?_
  · skip
    refine SatC.seq ?_
    refine SatC.region ?_
    refine SatL.pu (RunV.move rfl) rfl ?_
    first | refine SatL.pu (RunV.lenR (by assumption) rfl rfl) rfl ?_ | refine SatL.pu (RunV.lenS rfl rfl) rfl ?_
    refine SatL.pu (RunV.move rfl) rfl ?_
    refine SatL.pu (RunV.lss rfl rfl) rfl ?_
    refine SatL.nil (SatE.thenC ?_)
    refine SatC.cond rfl (fun h1 => ?_) (fun h1 => ?_)
    · (try simp only [cx, ne_eq] at h1)
      try (exfalso; (first | omega | exact h1 trivial | contradiction); done)
      all_goals
      refine SatC.region ?_
      refine SatL.pu (RunV.move rfl) rfl ?_
      first | refine SatL.pu (RunV.lenR (by assumption) rfl rfl) rfl ?_ | refine SatL.pu (RunV.lenS rfl rfl) rfl ?_
      refine SatL.pu (RunV.assign rfl) rfl ?_
      refine SatL.nil ?_
      refine SatE.met (b.length) ?_ (by repeat constructor)
      exact ⟨by omega, by omega, hS⟩
    · (try simp only [cx, ne_eq] at h1)
      try (exfalso; (first | omega | exact h1 trivial | contradiction); done)
      all_goals
      refine SatC.skip ?_
      refine SatE.met (a.length) ?_ (by repeat constructor)
      exact ⟨by omega, by omega, hS⟩
  · clear hS
    rintro n w61 ⟨hna, hnb, hS⟩
    refine SatC.weak (e' := [(0, _), (1, _), (2, _), (6, _), (7, _)]) (by repeat constructor) ?_
    refine SatC.merge (G := Nat) (V := fun n => [(7, .int .i64 (n : Int))]) (Cn := [(0, _), (1, _), (2, _), (6, _)]) (I := fun n w' => n ≤ a.length ∧ n ≤ b.length ∧ n ≤ c.length ∧ St w [] [] w') (by repeat constructor) ?_ ?_
    · skip
      refine SatC.seq ?_
      refine SatC.region ?_
      refine SatL.pu (RunV.move rfl) rfl ?_
      first | refine SatL.pu (RunV.lenR (by assumption) rfl rfl) rfl ?_ | refine SatL.pu (RunV.lenS rfl rfl) rfl ?_
      refine SatL.pu (RunV.move rfl) rfl ?_
      refine SatL.pu (RunV.lss rfl rfl) rfl ?_
      refine SatL.nil (SatE.thenC ?_)
      refine SatC.cond rfl (fun h1 => ?_) (fun h1 => ?_)
      · (try simp only [cx, ne_eq] at h1)
        try (exfalso; (first | omega | exact h1 trivial | contradiction); done)
        all_goals
        refine SatC.region ?_
        refine SatL.pu (RunV.move rfl) rfl ?_
        first | refine SatL.pu (RunV.lenR (by assumption) rfl rfl) rfl ?_ | refine SatL.pu (RunV.lenS rfl rfl) rfl ?_
        refine SatL.pu (RunV.assign rfl) rfl ?_
        refine SatL.nil ?_
        refine SatE.met (c.length) ?_ (by repeat constructor)
        exact ⟨by omega, by omega, by omega, hS⟩
      · (try simp only [cx, ne_eq] at h1)
        try (exfalso; (first | omega | exact h1 trivial | contradiction); done)
        all_goals
        refine SatC.skip ?_
        refine SatE.met (n) ?_ (by repeat constructor)
        exact ⟨by omega, by omega, by omega, hS⟩
    · clear hS
      rintro n w122 ⟨hna, hnb, hnc, hS⟩
      refine SatC.weak (e' := [(0, _), (1, _), (2, _), (6, _), (7, _)]) (by repeat constructor) ?_
      refine SatC.seq ?_
      refine SatC.region ?_
      refine SatL.op rfl (OpW.buildSlice0 hS rfl rfl rfl ?_)
      clear hS
      intro v4 b4 w123 _ hsl4 hv4 hS
      refine SatL.pu (RunV.move rfl) rfl ?_
      refine SatL.pu (RunV.move rfl) rfl ?_
      refine SatL.pu (RunV.cutHv hva rfl rfl rfl rfl (by omega) (by omega)) rfl ?_
      refine SatL.op rfl (OpW.appendB (news := (a.take n).map by1) hsl4 hS (by repeat constructor) (SlV.cutV 1 hva (Nat.zero_le n) hna) (by rw [Nat.zero_mul, Nat.add_zero, List.map_take]; exact (hca.st hS List.not_mem_nil).take) (by rw [List.length_map, List.length_take]; omega) rfl rfl rfl rfl rfl rfl rfl (by1_one _) (by simp only [List.length_nil]; omega) (by simp only [List.length_nil]; omega) rfl ?_)
      clear hS
      intro v6 B6 w124 hsl6 hS
      rw [List.nil_append, ← mix_0 a b c n hna] at hsl6
      refine SatL.pu (RunV.assign rfl) rfl ?_
      refine SatL.nil (SatE.thenC ?_)
      refine SatC.seq ?_
      refine SatC.seq ?_
      refine SatC.region ?_
      refine SatL.pu (RunV.assign rfl) rfl ?_
      refine SatL.nil (SatE.thenC ?_)
      refine SatC.block ?_
      refine SatC.loopK (G := Nat × Value × List (Nat × Obj)) (V := fun ⟨i, u, B⟩ => [(9, .int .i64 (i : Int)), (8, u)]) (Cn := [(0, _), (1, _), (2, _), (6, _), (7, _)]) (I := fun ⟨i, u, B⟩ w' => i ≤ n ∧ Sl 5 1 u ((mix a b c n i).map by1) B ∧ St w [] B w') (μ := fun ⟨i, u, B⟩ => n - i) (0, v6, B6) ?_ (by repeat constructor) ?_
      · exact ⟨by omega, hsl6, hS.sel (by repeat constructor)⟩
      clear hS
      rintro ⟨i, u, B⟩ w125 ⟨hi, hsl, hS⟩
      refine SatC.weak (e' := [(0, _), (1, _), (2, _), (6, _), (7, _), (8, _), (9, _)]) (by repeat constructor) ?_
      refine SatC.seq ?_
      refine SatC.seq ?_
      refine SatC.region ?_
      refine SatL.pu (RunV.move rfl) rfl ?_
      refine SatL.pu (RunV.move rfl) rfl ?_
      refine SatL.pu (RunV.lss rfl rfl) rfl ?_
      refine SatL.nil (SatE.thenC ?_)
      refine SatC.cond rfl (fun h1 => ?_) (fun h1 => ?_)
      · (try simp only [cx, ne_eq] at h1)
        try (exfalso; (first | omega | exact h1 trivial | contradiction); done)
        all_goals
        refine SatC.skip (SatE.thenC ?_)
        refine SatC.seq ?_
        refine SatC.block ?_
        obtain ⟨c5, hv5⟩ := hsl.slv
        rw [List.length_map, mix_len] at hv5
        obtain ⟨x, hx⟩ := get_some a i (by omega)
        obtain ⟨y, hy⟩ := get_some b i (by omega)
        obtain ⟨z, hz⟩ := get_some c i (by omega)
        refine SatC.drawnT 17 hS (hS) (by kernel_rfl) ?_
        clear hS
        intro w126 hh hS hD
        refine SatD.tk 0 rfl hD (fun _ hw => RunV.move rfl) ?_
        refine SatD.tk 1 rfl hD (fun _ hw => RunV.move rfl) ?_
        refine SatD.tk 2 rfl hD (fun _ hw => RunV.move rfl) ?_
        refine SatD.tk 3 rfl hD (fun _ hw => RunV.move rfl) ?_
        first | refine SatD.tk 4 rfl hD (fun _ hw => RunV.indexR (by assumption) rfl rfl rfl (by omega) (by omega) rfl) ?_ | refine SatD.tk 4 rfl hD (fun _ hw => RunV.indexS rfl rfl rfl (by omega) (by omega) rfl) ?_
        refine SatD.tk 5 rfl hD (fun _ hw => RunV.loadR1z (Sl.rd hsl hw (by repeat constructor)) rfl rfl (by exact map_get (mix_at (by omega) hx)) rfl) ?_
        refine SatD.tk 6 rfl hD (fun _ hw => RunV.move rfl) ?_
        refine SatD.tk 7 rfl hD (fun _ hw => RunV.move rfl) ?_
        first | refine SatD.tk 8 rfl hD (fun _ hw => RunV.indexR (by assumption) rfl rfl rfl (by omega) (by omega) rfl) ?_ | refine SatD.tk 8 rfl hD (fun _ hw => RunV.indexS rfl rfl rfl (by omega) (by omega) rfl) ?_
        refine SatD.tk 9 rfl hD (fun _ hw => RunV.loadR1z (RdC.st hcb hw List.not_mem_nil) rfl rfl (by exact map_get hy) rfl) ?_
        refine SatD.tk 10 rfl hD (fun _ hw => RunV.xor8 rfl rfl) ?_
        refine SatD.tk 11 rfl hD (fun _ hw => RunV.move rfl) ?_
        refine SatD.tk 12 rfl hD (fun _ hw => RunV.move rfl) ?_
        first | refine SatD.tk 13 rfl hD (fun _ hw => RunV.indexR (by assumption) rfl rfl rfl (by omega) (by omega) rfl) ?_ | refine SatD.tk 13 rfl hD (fun _ hw => RunV.indexS rfl rfl rfl (by omega) (by omega) rfl) ?_
        refine SatD.tk 14 rfl hD (fun _ hw => RunV.loadR1z (RdC.st hcc hw List.not_mem_nil) rfl rfl (by exact map_get hz) rfl) ?_
        refine SatD.tk 15 rfl hD (fun _ hw => RunV.xor8 rfl rfl) ?_
        first | refine SatD.tk 16 rfl hD (fun _ hw => RunV.indexR (by assumption) rfl rfl rfl (by omega) (by omega) rfl) ?_ | refine SatD.tk 16 rfl hD (fun _ hw => RunV.indexS rfl rfl rfl (by omega) (by omega) rfl) ?_
        refine SatD.effF (by kernel_rfl) rfl rfl (OpW.storeSl hsl hS (by repeat constructor) rfl rfl (by repeat constructor) rfl (by rw [List.length_map, mix_len]; omega) rfl rfl ?_)
        clear hS
        intro B2 w127 hsl2 hS
        rw [← List.map_set, show ((i : Int)).toNat = i from rfl, mix_next (n := n) (by omega) hx hy hz] at hsl2
        refine SatD.done 0 (by kernel_rfl) (SatE.blk_normal (SatE.thenC ?_))
        clear hD
        refine SatC.weak (e' := [(0, _), (1, _), (2, _), (6, _), (7, _), (8, _), (9, _)]) (by repeat constructor) ?_
        refine SatC.region ?_
        refine SatL.pu (RunV.move rfl) rfl ?_
        refine SatL.pu (RunV.add rfl rfl (by first | exact wrapI64 (by omega) | rfl)) rfl ?_
        refine SatL.pu (RunV.assign rfl) rfl ?_
        refine SatL.nil ?_
        refine SatE.again ((i + 1, u, B2)) ?_ (by first | omega | (dsimp only; omega)) (by repeat constructor)
        exact ⟨by omega, hsl2, hS.sel (by repeat constructor)⟩
      · (try simp only [cx, ne_eq] at h1)
        try (exfalso; (first | omega | exact h1 trivial | contradiction); done)
        all_goals
        refine SatC.exit (SatE.then_exit (SatE.then_exit (SatE.blk_exit (SatE.thenC ?_))))
        refine SatC.seq ?_
        obtain rfl : i = n := by omega
        have hlu : ((mix a b c i i).map by1).length ≤ 9223372036854775807 := by rw [List.length_map, mix_len]; omega
        refine SatC.drawnT 25 hS (hS.sel (R := []) .nil) (by kernel_rfl) ?_
        clear hS
        intro w126 hh hS hD
        refine SatD.tk 0 rfl hD (fun _ hw => RunV.move rfl) ?_
        refine SatD.tk 1 rfl hD (fun _ hw => RunV.move rfl) ?_
        refine SatD.tk 2 rfl hD (fun _ hw => RunV.cutHv hva rfl rfl rfl rfl (by omega) (by omega)) ?_
        refine SatD.tk 5 rfl hD (fun _ hw => RunV.move rfl) ?_
        refine SatD.tk 6 rfl hD (fun _ hw => RunV.move rfl) ?_
        refine SatD.tk 7 rfl hD (fun _ hw => RunV.cutHv hvb rfl rfl rfl rfl (by omega) (by omega)) ?_
        refine SatD.tk 11 rfl hD (fun _ hw => RunV.move rfl) ?_
        refine SatD.tk 12 rfl hD (fun _ hw => RunV.move rfl) ?_
        refine SatD.tk 13 rfl hD (fun _ hw => RunV.cutHv hvc rfl rfl rfl rfl (by omega) (by omega)) ?_
        refine SatD.tk 17 rfl hD (fun _ hw => RunV.move rfl) ?_
        apply SatD.node4 (fuelN := 6) (listedN := #[true, true, true, true, true, true, true, true, true, true, true, true, true, true, true, true, true, true, true, false, false, false, false, false, false])
        intro hN1
        apply SatD.node4 (fuelN := 8) (listedN := #[true, true, true, true, true, true, true, true, true, true, true, true, true, true, true, false, false, true, true, false, false, false, false, false, false])
        intro hN2
        apply SatD.node3 (fuelN := 9) (listedN := #[true, true, true, true, true, true, true, true, true, true, true, true, true, true, true, false, false, true, false, false, false, false, false, false, false])
        intro hN3
        apply SatD.node3 (fuelN := 9) (listedN := #[true, true, true, true, true, true, true, true, true, true, true, true, true, true, false, false, false, true, true, false, false, false, false, false, false])
        intro hN4
        apply SatD.node4 (fuelN := 10) (listedN := #[true, true, true, true, true, true, true, true, true, false, false, true, true, true, true, false, false, true, true, false, false, false, false, false, false])
        intro hN5
        apply SatD.node3 (fuelN := 11) (listedN := #[true, true, true, true, true, true, true, true, true, false, false, true, true, true, true, false, false, true, false, false, false, false, false, false, false])
        intro hN6
        apply SatD.node3 (fuelN := 11) (listedN := #[true, true, true, true, true, true, true, true, true, false, false, true, true, true, false, false, false, true, true, false, false, false, false, false, false])
        intro hN7
        apply SatD.node3 (fuelN := 11) (listedN := #[true, true, true, true, true, true, true, true, false, false, false, true, true, true, true, false, false, true, true, false, false, false, false, false, false])
        intro hN8
        apply SatD.node4 (fuelN := 11) (listedN := #[true, true, true, true, false, true, true, true, true, false, false, true, true, true, true, false, false, true, true, false, false, false, false, false, false])
        intro hN9
        apply SatD.node2 (fuelN := 12) (listedN := #[true, true, true, true, true, true, true, true, true, false, false, true, true, true, false, false, false, true, false, false, false, false, false, false, false])
        intro hN10
        apply SatD.node2 (fuelN := 12) (listedN := #[true, true, true, true, true, true, true, true, false, false, false, true, true, true, true, false, false, true, false, false, false, false, false, false, false])
        intro hN11
        apply SatD.node2 (fuelN := 12) (listedN := #[true, true, true, true, true, true, true, true, false, false, false, true, true, true, false, false, false, true, true, false, false, false, false, false, false])
        intro hN12
        apply SatD.node3 (fuelN := 12) (listedN := #[true, true, true, true, false, true, true, true, true, false, false, true, true, true, true, false, false, true, false, false, false, false, false, false, false])
        intro hN13
        apply SatD.node3 (fuelN := 12) (listedN := #[true, true, true, true, false, true, true, true, true, false, false, true, true, true, false, false, false, true, true, false, false, false, false, false, false])
        intro hN14
        apply SatD.node3 (fuelN := 12) (listedN := #[true, true, true, true, false, true, true, true, false, false, false, true, true, true, true, false, false, true, true, false, false, false, false, false, false])
        intro hN15
        apply SatD.node3 (fuelN := 12) (listedN := #[true, true, true, false, false, true, true, true, true, false, false, true, true, true, true, false, false, true, true, false, false, false, false, false, false])
        intro hN16
        apply SatD.node2 (fuelN := 13) (listedN := #[true, true, true, true, false, true, true, true, true, false, false, true, true, true, false, false, false, true, false, false, false, false, false, false, false])
        intro hN17
        apply SatD.node2 (fuelN := 13) (listedN := #[true, true, true, true, false, true, true, true, false, false, false, true, true, true, true, false, false, true, false, false, false, false, false, false, false])
        intro hN18
        apply SatD.node2 (fuelN := 13) (listedN := #[true, true, true, true, false, true, true, true, false, false, false, true, true, true, false, false, false, true, true, false, false, false, false, false, false])
        intro hN19
        apply SatD.node2 (fuelN := 13) (listedN := #[true, true, true, false, false, true, true, true, true, false, false, true, true, true, true, false, false, true, false, false, false, false, false, false, false])
        intro hN20
        apply SatD.node2 (fuelN := 13) (listedN := #[true, true, true, false, false, true, true, true, true, false, false, true, true, true, false, false, false, true, true, false, false, false, false, false, false])
        intro hN21
        apply SatD.node2 (fuelN := 13) (listedN := #[true, true, true, false, false, true, true, true, false, false, false, true, true, true, true, false, false, true, true, false, false, false, false, false, false])
        intro hN22
        · skip
          refine SatD.effs [3, 8, 14, 18] (by kernel_rfl) ⟨⟨_, rfl, rfl, OpW.buildSlice1 hS rfl rfl rfl rfl rfl (.one (cut_one hva _ _ _)) rfl rfl rfl ?_⟩, ⟨_, rfl, rfl, OpW.buildSlice1 hS rfl rfl rfl rfl rfl (.one (cut_one hvb _ _ _)) rfl rfl rfl ?_⟩, ⟨_, rfl, rfl, OpW.buildSlice1 hS rfl rfl rfl rfl rfl (.one (cut_one hvc _ _ _)) rfl rfl rfl ?_⟩, ⟨_, rfl, rfl, OpW.buildSlice1 hS rfl rfl rfl rfl rfl (.one hsl.one) rfl rfl rfl ?_⟩, trivial⟩
          · skip
            intro b54 w127 _ hS
            refine keepS (hS.sel .nil) (fun hD => ?_)
            refine SatD.effs [4, 8, 14, 18] (by kernel_rfl) ⟨⟨_, rfl, rfl, OpW.enter rfl rfl rfl (rfl) (sum_cut hS (by repeat constructor) (rd_take hva (hca.st hS List.not_mem_nil) hna hma)) ?_⟩, ⟨_, rfl, rfl, OpW.buildSlice1 hS rfl rfl rfl rfl rfl (.one (cut_one hvb _ _ _)) rfl rfl rfl ?_⟩, ⟨_, rfl, rfl, OpW.buildSlice1 hS rfl rfl rfl rfl rfl (.one (cut_one hvc _ _ _)) rfl rfl rfl ?_⟩, ⟨_, rfl, rfl, OpW.buildSlice1 hS rfl rfl rfl rfl rfl (.one hsl.one) rfl rfl rfl ?_⟩, trivial⟩
            · skip
              rintro r128 w128 ⟨rfl, h⟩
              replace hS := St.callN hS h
              refine keepS (hS.sel .nil) (fun hD => ?_)
              refine SatD.effs [8, 14, 18] (by kernel_rfl) ⟨⟨_, rfl, rfl, OpW.buildSlice1 hS rfl rfl rfl rfl rfl (.one (cut_one hvb _ _ _)) rfl rfl rfl ?_⟩, ⟨_, rfl, rfl, OpW.buildSlice1 hS rfl rfl rfl rfl rfl (.one (cut_one hvc _ _ _)) rfl rfl rfl ?_⟩, ⟨_, rfl, rfl, OpW.buildSlice1 hS rfl rfl rfl rfl rfl (.one hsl.one) rfl rfl rfl ?_⟩, trivial⟩
              · skip
                intro b59 w129 _ hS
                refine keepS (hS.sel .nil) (fun hD => ?_)
                replace hS := hS.pick 1 rfl rfl
                refine SatD.relist (l' := #[true, true, true, true, true, true, true, true, true, false, false, true, true, true, false, false, false, true, false, false, false, false, false, false, false]) (by kernel_rfl) ?_
                refine SatD.weak (e' := [(6, _), (55, _), (59, _), (64, _), (68, _)]) (by repeat constructor) ?_
                exact hN10 b54 b59 _ hS hD
              · skip
                intro b65 w129 _ hS
                refine keepS (hS.sel .nil) (fun hD => ?_)
                replace hS := hS.pick 1 rfl rfl
                refine SatD.relist (l' := #[true, true, true, true, true, true, true, true, false, false, false, true, true, true, true, false, false, true, false, false, false, false, false, false, false]) (by kernel_rfl) ?_
                refine SatD.weak (e' := [(6, _), (55, _), (58, _), (65, _), (68, _)]) (by repeat constructor) ?_
                exact hN11 b54 b65 _ hS hD
              · skip
                intro b69 w129 _ hS
                refine keepS (hS.sel .nil) (fun hD => ?_)
                replace hS := hS.pick 1 rfl rfl
                refine SatD.relist (l' := #[true, true, true, true, true, true, true, true, false, false, false, true, true, true, false, false, false, true, true, false, false, false, false, false, false]) (by kernel_rfl) ?_
                refine SatD.weak (e' := [(6, _), (55, _), (58, _), (64, _), (69, _)]) (by repeat constructor) ?_
                exact hN12 b54 b69 _ hS hD
            · skip
              intro b59 w128 _ hS
              refine keepS (hS.sel .nil) (fun hD => ?_)
              replace hS := hS.pick 1 rfl rfl
              refine SatD.relist (l' := #[true, true, true, true, false, true, true, true, true, false, false, true, true, true, false, false, false, true, false, false, false, false, false, false, false]) (by kernel_rfl) ?_
              refine SatD.weak (e' := [(6, _), (54, _), (59, _), (64, _), (68, _)]) (by repeat constructor) ?_
              exact hN17 b54 b59 _ hS hD
            · skip
              intro b65 w128 _ hS
              refine keepS (hS.sel .nil) (fun hD => ?_)
              replace hS := hS.pick 1 rfl rfl
              refine SatD.relist (l' := #[true, true, true, true, false, true, true, true, false, false, false, true, true, true, true, false, false, true, false, false, false, false, false, false, false]) (by kernel_rfl) ?_
              refine SatD.weak (e' := [(6, _), (54, _), (58, _), (65, _), (68, _)]) (by repeat constructor) ?_
              exact hN18 b54 b65 _ hS hD
            · skip
              intro b69 w128 _ hS
              refine keepS (hS.sel .nil) (fun hD => ?_)
              replace hS := hS.pick 1 rfl rfl
              refine SatD.relist (l' := #[true, true, true, true, false, true, true, true, false, false, false, true, true, true, false, false, false, true, true, false, false, false, false, false, false]) (by kernel_rfl) ?_
              refine SatD.weak (e' := [(6, _), (54, _), (58, _), (64, _), (69, _)]) (by repeat constructor) ?_
              exact hN19 b54 b69 _ hS hD
          · skip
            intro b59 w127 _ hS
            refine keepS (hS.sel .nil) (fun hD => ?_)
            refine SatD.effs [3, 14, 18] (by kernel_rfl) ⟨⟨_, rfl, rfl, OpW.buildSlice1 hS rfl rfl rfl rfl rfl (.one (cut_one hva _ _ _)) rfl rfl rfl ?_⟩, ⟨_, rfl, rfl, OpW.buildSlice1 hS rfl rfl rfl rfl rfl (.one (cut_one hvc _ _ _)) rfl rfl rfl ?_⟩, ⟨_, rfl, rfl, OpW.buildSlice1 hS rfl rfl rfl rfl rfl (.one hsl.one) rfl rfl rfl ?_⟩, trivial⟩
            · skip
              intro b54 w128 _ hS
              refine keepS (hS.sel .nil) (fun hD => ?_)
              replace hS := hS.pick 1 rfl rfl
              replace hS := hS.pick 1 rfl rfl
              refine SatD.relist (l' := #[true, true, true, true, false, true, true, true, true, false, false, true, true, true, false, false, false, true, false, false, false, false, false, false, false]) (by kernel_rfl) ?_
              refine SatD.weak (e' := [(6, _), (54, _), (59, _), (64, _), (68, _)]) (by repeat constructor) ?_
              exact hN17 b54 b59 _ hS hD
            · skip
              intro b65 w128 _ hS
              refine keepS (hS.sel .nil) (fun hD => ?_)
              replace hS := hS.pick 1 rfl rfl
              refine SatD.relist (l' := #[true, true, true, false, false, true, true, true, true, false, false, true, true, true, true, false, false, true, false, false, false, false, false, false, false]) (by kernel_rfl) ?_
              refine SatD.weak (e' := [(6, _), (53, _), (59, _), (65, _), (68, _)]) (by repeat constructor) ?_
              exact hN20 b59 b65 _ hS hD
            · skip
              intro b69 w128 _ hS
              refine keepS (hS.sel .nil) (fun hD => ?_)
              replace hS := hS.pick 1 rfl rfl
              refine SatD.relist (l' := #[true, true, true, false, false, true, true, true, true, false, false, true, true, true, false, false, false, true, true, false, false, false, false, false, false]) (by kernel_rfl) ?_
              refine SatD.weak (e' := [(6, _), (53, _), (59, _), (64, _), (69, _)]) (by repeat constructor) ?_
              exact hN21 b59 b69 _ hS hD
          · skip
            intro b65 w127 _ hS
            refine keepS (hS.sel .nil) (fun hD => ?_)
            refine SatD.effs [3, 8, 18] (by kernel_rfl) ⟨⟨_, rfl, rfl, OpW.buildSlice1 hS rfl rfl rfl rfl rfl (.one (cut_one hva _ _ _)) rfl rfl rfl ?_⟩, ⟨_, rfl, rfl, OpW.buildSlice1 hS rfl rfl rfl rfl rfl (.one (cut_one hvb _ _ _)) rfl rfl rfl ?_⟩, ⟨_, rfl, rfl, OpW.buildSlice1 hS rfl rfl rfl rfl rfl (.one hsl.one) rfl rfl rfl ?_⟩, trivial⟩
            · skip
              intro b54 w128 _ hS
              refine keepS (hS.sel .nil) (fun hD => ?_)
              replace hS := hS.pick 1 rfl rfl
              replace hS := hS.pick 1 rfl rfl
              refine SatD.relist (l' := #[true, true, true, true, false, true, true, true, false, false, false, true, true, true, true, false, false, true, false, false, false, false, false, false, false]) (by kernel_rfl) ?_
              refine SatD.weak (e' := [(6, _), (54, _), (58, _), (65, _), (68, _)]) (by repeat constructor) ?_
              exact hN18 b54 b65 _ hS hD
            · skip
              intro b59 w128 _ hS
              refine keepS (hS.sel .nil) (fun hD => ?_)
              replace hS := hS.pick 1 rfl rfl
              replace hS := hS.pick 1 rfl rfl
              refine SatD.relist (l' := #[true, true, true, false, false, true, true, true, true, false, false, true, true, true, true, false, false, true, false, false, false, false, false, false, false]) (by kernel_rfl) ?_
              refine SatD.weak (e' := [(6, _), (53, _), (59, _), (65, _), (68, _)]) (by repeat constructor) ?_
              exact hN20 b59 b65 _ hS hD
            · skip
              intro b69 w128 _ hS
              refine keepS (hS.sel .nil) (fun hD => ?_)
              replace hS := hS.pick 1 rfl rfl
              refine SatD.relist (l' := #[true, true, true, false, false, true, true, true, false, false, false, true, true, true, true, false, false, true, true, false, false, false, false, false, false]) (by kernel_rfl) ?_
              refine SatD.weak (e' := [(6, _), (53, _), (58, _), (65, _), (69, _)]) (by repeat constructor) ?_
              exact hN22 b65 b69 _ hS hD
          · skip
            intro b69 w127 _ hS
            refine keepS (hS.sel .nil) (fun hD => ?_)
            refine SatD.effs [3, 8, 14] (by kernel_rfl) ⟨⟨_, rfl, rfl, OpW.buildSlice1 hS rfl rfl rfl rfl rfl (.one (cut_one hva _ _ _)) rfl rfl rfl ?_⟩, ⟨_, rfl, rfl, OpW.buildSlice1 hS rfl rfl rfl rfl rfl (.one (cut_one hvb _ _ _)) rfl rfl rfl ?_⟩, ⟨_, rfl, rfl, OpW.buildSlice1 hS rfl rfl rfl rfl rfl (.one (cut_one hvc _ _ _)) rfl rfl rfl ?_⟩, trivial⟩
            · skip
              intro b54 w128 _ hS
              refine keepS (hS.sel .nil) (fun hD => ?_)
              replace hS := hS.pick 1 rfl rfl
              replace hS := hS.pick 1 rfl rfl
              refine SatD.relist (l' := #[true, true, true, true, false, true, true, true, false, false, false, true, true, true, false, false, false, true, true, false, false, false, false, false, false]) (by kernel_rfl) ?_
              refine SatD.weak (e' := [(6, _), (54, _), (58, _), (64, _), (69, _)]) (by repeat constructor) ?_
              exact hN19 b54 b69 _ hS hD
            · skip
              intro b59 w128 _ hS
              refine keepS (hS.sel .nil) (fun hD => ?_)
              replace hS := hS.pick 1 rfl rfl
              replace hS := hS.pick 1 rfl rfl
              refine SatD.relist (l' := #[true, true, true, false, false, true, true, true, true, false, false, true, true, true, false, false, false, true, true, false, false, false, false, false, false]) (by kernel_rfl) ?_
              refine SatD.weak (e' := [(6, _), (53, _), (59, _), (64, _), (69, _)]) (by repeat constructor) ?_
              exact hN21 b59 b69 _ hS hD
            · skip
              intro b65 w128 _ hS
              refine keepS (hS.sel .nil) (fun hD => ?_)
              replace hS := hS.pick 1 rfl rfl
              replace hS := hS.pick 1 rfl rfl
              refine SatD.relist (l' := #[true, true, true, false, false, true, true, true, false, false, false, true, true, true, true, false, false, true, true, false, false, false, false, false, false]) (by kernel_rfl) ?_
              refine SatD.weak (e' := [(6, _), (53, _), (58, _), (65, _), (69, _)]) (by repeat constructor) ?_
              exact hN22 b65 b69 _ hS hD
        · intro b65 b69 w130 hS hD
          refine SatD.effs [3, 8] (by kernel_rfl) ⟨⟨_, rfl, rfl, OpW.buildSlice1 hS rfl rfl rfl rfl rfl (.one (cut_one hva _ _ _)) rfl rfl rfl ?_⟩, ⟨_, rfl, rfl, OpW.buildSlice1 hS rfl rfl rfl rfl rfl (.one (cut_one hvb _ _ _)) rfl rfl rfl ?_⟩, trivial⟩
          · skip
            intro b54 w131 _ hS
            refine keepS (hS.sel .nil) (fun hD => ?_)
            replace hS := hS.pick 2 rfl rfl
            replace hS := hS.pick 2 rfl rfl
            replace hS := hS.pick 2 rfl rfl
            refine SatD.relist (l' := #[true, true, true, true, false, true, true, true, false, false, false, true, true, true, true, false, false, true, true, false, false, false, false, false, false]) (by kernel_rfl) ?_
            refine SatD.weak (e' := [(6, _), (54, _), (58, _), (65, _), (69, _)]) (by repeat constructor) ?_
            exact hN15 b54 b65 b69 _ hS hD
          · skip
            intro b59 w131 _ hS
            refine keepS (hS.sel .nil) (fun hD => ?_)
            replace hS := hS.pick 2 rfl rfl
            replace hS := hS.pick 2 rfl rfl
            replace hS := hS.pick 2 rfl rfl
            refine SatD.relist (l' := #[true, true, true, false, false, true, true, true, true, false, false, true, true, true, true, false, false, true, true, false, false, false, false, false, false]) (by kernel_rfl) ?_
            refine SatD.weak (e' := [(6, _), (53, _), (59, _), (65, _), (69, _)]) (by repeat constructor) ?_
            exact hN16 b59 b65 b69 _ hS hD
        · intro b59 b69 w130 hS hD
          refine SatD.effs [3, 14] (by kernel_rfl) ⟨⟨_, rfl, rfl, OpW.buildSlice1 hS rfl rfl rfl rfl rfl (.one (cut_one hva _ _ _)) rfl rfl rfl ?_⟩, ⟨_, rfl, rfl, OpW.buildSlice1 hS rfl rfl rfl rfl rfl (.one (cut_one hvc _ _ _)) rfl rfl rfl ?_⟩, trivial⟩
          · skip
            intro b54 w131 _ hS
            refine keepS (hS.sel .nil) (fun hD => ?_)
            replace hS := hS.pick 2 rfl rfl
            replace hS := hS.pick 2 rfl rfl
            replace hS := hS.pick 2 rfl rfl
            refine SatD.relist (l' := #[true, true, true, true, false, true, true, true, true, false, false, true, true, true, false, false, false, true, true, false, false, false, false, false, false]) (by kernel_rfl) ?_
            refine SatD.weak (e' := [(6, _), (54, _), (59, _), (64, _), (69, _)]) (by repeat constructor) ?_
            exact hN14 b54 b59 b69 _ hS hD
          · skip
            intro b65 w131 _ hS
            refine keepS (hS.sel .nil) (fun hD => ?_)
            replace hS := hS.pick 2 rfl rfl
            replace hS := hS.pick 1 rfl rfl
            replace hS := hS.pick 2 rfl rfl
            refine SatD.relist (l' := #[true, true, true, false, false, true, true, true, true, false, false, true, true, true, true, false, false, true, true, false, false, false, false, false, false]) (by kernel_rfl) ?_
            refine SatD.weak (e' := [(6, _), (53, _), (59, _), (65, _), (69, _)]) (by repeat constructor) ?_
            exact hN16 b59 b65 b69 _ hS hD
        · intro b59 b65 w130 hS hD
          refine SatD.effs [3, 18] (by kernel_rfl) ⟨⟨_, rfl, rfl, OpW.buildSlice1 hS rfl rfl rfl rfl rfl (.one (cut_one hva _ _ _)) rfl rfl rfl ?_⟩, ⟨_, rfl, rfl, OpW.buildSlice1 hS rfl rfl rfl rfl rfl (.one hsl.one) rfl rfl rfl ?_⟩, trivial⟩
          · skip
            intro b54 w131 _ hS
            refine keepS (hS.sel .nil) (fun hD => ?_)
            replace hS := hS.pick 2 rfl rfl
            replace hS := hS.pick 2 rfl rfl
            replace hS := hS.pick 2 rfl rfl
            refine SatD.relist (l' := #[true, true, true, true, false, true, true, true, true, false, false, true, true, true, true, false, false, true, false, false, false, false, false, false, false]) (by kernel_rfl) ?_
            refine SatD.weak (e' := [(6, _), (54, _), (59, _), (65, _), (68, _)]) (by repeat constructor) ?_
            exact hN13 b54 b59 b65 _ hS hD
          · skip
            intro b69 w131 _ hS
            refine keepS (hS.sel .nil) (fun hD => ?_)
            replace hS := hS.pick 2 rfl rfl
            replace hS := hS.pick 2 rfl rfl
            refine SatD.relist (l' := #[true, true, true, false, false, true, true, true, true, false, false, true, true, true, true, false, false, true, true, false, false, false, false, false, false]) (by kernel_rfl) ?_
            refine SatD.weak (e' := [(6, _), (53, _), (59, _), (65, _), (69, _)]) (by repeat constructor) ?_
            exact hN16 b59 b65 b69 _ hS hD
        · intro b54 b69 w130 hS hD
          refine SatD.effs [4, 8, 14] (by kernel_rfl) ⟨⟨_, rfl, rfl, OpW.enter rfl rfl rfl (rfl) (sum_cut hS (by repeat constructor) (rd_take hva (hca.st hS List.not_mem_nil) hna hma)) ?_⟩, ⟨_, rfl, rfl, OpW.buildSlice1 hS rfl rfl rfl rfl rfl (.one (cut_one hvb _ _ _)) rfl rfl rfl ?_⟩, ⟨_, rfl, rfl, OpW.buildSlice1 hS rfl rfl rfl rfl rfl (.one (cut_one hvc _ _ _)) rfl rfl rfl ?_⟩, trivial⟩
          · skip
            rintro r131 w131 ⟨rfl, h⟩
            replace hS := St.callN hS h
            refine keepS (hS.sel .nil) (fun hD => ?_)
            replace hS := hS.pick 1 rfl rfl
            replace hS := hS.pick 1 rfl rfl
            refine SatD.relist (l' := #[true, true, true, true, true, true, true, true, false, false, false, true, true, true, false, false, false, true, true, false, false, false, false, false, false]) (by kernel_rfl) ?_
            refine SatD.weak (e' := [(6, _), (55, _), (58, _), (64, _), (69, _)]) (by repeat constructor) ?_
            exact hN12 b54 b69 _ hS hD
          · skip
            intro b59 w131 _ hS
            refine keepS (hS.sel .nil) (fun hD => ?_)
            replace hS := hS.pick 2 rfl rfl
            replace hS := hS.pick 1 rfl rfl
            replace hS := hS.pick 2 rfl rfl
            refine SatD.relist (l' := #[true, true, true, true, false, true, true, true, true, false, false, true, true, true, false, false, false, true, true, false, false, false, false, false, false]) (by kernel_rfl) ?_
            refine SatD.weak (e' := [(6, _), (54, _), (59, _), (64, _), (69, _)]) (by repeat constructor) ?_
            exact hN14 b54 b59 b69 _ hS hD
          · skip
            intro b65 w131 _ hS
            refine keepS (hS.sel .nil) (fun hD => ?_)
            replace hS := hS.pick 2 rfl rfl
            replace hS := hS.pick 1 rfl rfl
            replace hS := hS.pick 2 rfl rfl
            refine SatD.relist (l' := #[true, true, true, true, false, true, true, true, false, false, false, true, true, true, true, false, false, true, true, false, false, false, false, false, false]) (by kernel_rfl) ?_
            refine SatD.weak (e' := [(6, _), (54, _), (58, _), (65, _), (69, _)]) (by repeat constructor) ?_
            exact hN15 b54 b65 b69 _ hS hD
        · intro b54 b65 w130 hS hD
          refine SatD.effs [4, 8, 18] (by kernel_rfl) ⟨⟨_, rfl, rfl, OpW.enter rfl rfl rfl (rfl) (sum_cut hS (by repeat constructor) (rd_take hva (hca.st hS List.not_mem_nil) hna hma)) ?_⟩, ⟨_, rfl, rfl, OpW.buildSlice1 hS rfl rfl rfl rfl rfl (.one (cut_one hvb _ _ _)) rfl rfl rfl ?_⟩, ⟨_, rfl, rfl, OpW.buildSlice1 hS rfl rfl rfl rfl rfl (.one hsl.one) rfl rfl rfl ?_⟩, trivial⟩
          · skip
            rintro r131 w131 ⟨rfl, h⟩
            replace hS := St.callN hS h
            refine keepS (hS.sel .nil) (fun hD => ?_)
            replace hS := hS.pick 1 rfl rfl
            replace hS := hS.pick 1 rfl rfl
            refine SatD.relist (l' := #[true, true, true, true, true, true, true, true, false, false, false, true, true, true, true, false, false, true, false, false, false, false, false, false, false]) (by kernel_rfl) ?_
            refine SatD.weak (e' := [(6, _), (55, _), (58, _), (65, _), (68, _)]) (by repeat constructor) ?_
            exact hN11 b54 b65 _ hS hD
          · skip
            intro b59 w131 _ hS
            refine keepS (hS.sel .nil) (fun hD => ?_)
            replace hS := hS.pick 2 rfl rfl
            replace hS := hS.pick 1 rfl rfl
            replace hS := hS.pick 2 rfl rfl
            refine SatD.relist (l' := #[true, true, true, true, false, true, true, true, true, false, false, true, true, true, true, false, false, true, false, false, false, false, false, false, false]) (by kernel_rfl) ?_
            refine SatD.weak (e' := [(6, _), (54, _), (59, _), (65, _), (68, _)]) (by repeat constructor) ?_
            exact hN13 b54 b59 b65 _ hS hD
          · skip
            intro b69 w131 _ hS
            refine keepS (hS.sel .nil) (fun hD => ?_)
            replace hS := hS.pick 2 rfl rfl
            replace hS := hS.pick 2 rfl rfl
            refine SatD.relist (l' := #[true, true, true, true, false, true, true, true, false, false, false, true, true, true, true, false, false, true, true, false, false, false, false, false, false]) (by kernel_rfl) ?_
            refine SatD.weak (e' := [(6, _), (54, _), (58, _), (65, _), (69, _)]) (by repeat constructor) ?_
            exact hN15 b54 b65 b69 _ hS hD
        · intro b54 b59 w130 hS hD
          refine SatD.effs [4, 14, 18] (by kernel_rfl) ⟨⟨_, rfl, rfl, OpW.enter rfl rfl rfl (rfl) (sum_cut hS (by repeat constructor) (rd_take hva (hca.st hS List.not_mem_nil) hna hma)) ?_⟩, ⟨_, rfl, rfl, OpW.buildSlice1 hS rfl rfl rfl rfl rfl (.one (cut_one hvc _ _ _)) rfl rfl rfl ?_⟩, ⟨_, rfl, rfl, OpW.buildSlice1 hS rfl rfl rfl rfl rfl (.one hsl.one) rfl rfl rfl ?_⟩, trivial⟩
          · skip
            rintro r131 w131 ⟨rfl, h⟩
            replace hS := St.callN hS h
            refine keepS (hS.sel .nil) (fun hD => ?_)
            replace hS := hS.pick 1 rfl rfl
            replace hS := hS.pick 1 rfl rfl
            refine SatD.relist (l' := #[true, true, true, true, true, true, true, true, true, false, false, true, true, true, false, false, false, true, false, false, false, false, false, false, false]) (by kernel_rfl) ?_
            refine SatD.weak (e' := [(6, _), (55, _), (59, _), (64, _), (68, _)]) (by repeat constructor) ?_
            exact hN10 b54 b59 _ hS hD
          · skip
            intro b65 w131 _ hS
            refine keepS (hS.sel .nil) (fun hD => ?_)
            replace hS := hS.pick 2 rfl rfl
            replace hS := hS.pick 2 rfl rfl
            refine SatD.relist (l' := #[true, true, true, true, false, true, true, true, true, false, false, true, true, true, true, false, false, true, false, false, false, false, false, false, false]) (by kernel_rfl) ?_
            refine SatD.weak (e' := [(6, _), (54, _), (59, _), (65, _), (68, _)]) (by repeat constructor) ?_
            exact hN13 b54 b59 b65 _ hS hD
          · skip
            intro b69 w131 _ hS
            refine keepS (hS.sel .nil) (fun hD => ?_)
            replace hS := hS.pick 2 rfl rfl
            replace hS := hS.pick 2 rfl rfl
            refine SatD.relist (l' := #[true, true, true, true, false, true, true, true, true, false, false, true, true, true, false, false, false, true, true, false, false, false, false, false, false]) (by kernel_rfl) ?_
            refine SatD.weak (e' := [(6, _), (54, _), (59, _), (64, _), (69, _)]) (by repeat constructor) ?_
            exact hN14 b54 b59 b69 _ hS hD
        · intro b59 b65 b69 w133 hS hD
          refine SatD.ef 3 rfl (OpW.buildSlice1 hS rfl rfl rfl rfl rfl (.one (cut_one hva _ _ _)) rfl rfl rfl ?_)
          intro b54 w134 _ hS
          refine keepS (hS.sel .nil) (fun hD => ?_)
          replace hS := hS.pick 3 rfl rfl
          replace hS := hS.pick 3 rfl rfl
          replace hS := hS.pick 3 rfl rfl
          replace hS := hS.pick 3 rfl rfl
          refine SatD.relist (l' := #[true, true, true, true, false, true, true, true, true, false, false, true, true, true, true, false, false, true, true, false, false, false, false, false, false]) (by kernel_rfl) ?_
          refine SatD.weak (e' := [(6, _), (54, _), (59, _), (65, _), (69, _)]) (by repeat constructor) ?_
          exact hN9 b54 b59 b65 b69 _ hS hD
        · intro b54 b65 b69 w133 hS hD
          refine SatD.effs [4, 8] (by kernel_rfl) ⟨⟨_, rfl, rfl, OpW.enter rfl rfl rfl (rfl) (sum_cut hS (by repeat constructor) (rd_take hva (hca.st hS List.not_mem_nil) hna hma)) ?_⟩, ⟨_, rfl, rfl, OpW.buildSlice1 hS rfl rfl rfl rfl rfl (.one (cut_one hvb _ _ _)) rfl rfl rfl ?_⟩, trivial⟩
          · skip
            rintro r134 w134 ⟨rfl, h⟩
            replace hS := St.callN hS h
            refine keepS (hS.sel .nil) (fun hD => ?_)
            replace hS := hS.pick 2 rfl rfl
            replace hS := hS.pick 2 rfl rfl
            replace hS := hS.pick 2 rfl rfl
            refine SatD.relist (l' := #[true, true, true, true, true, true, true, true, false, false, false, true, true, true, true, false, false, true, true, false, false, false, false, false, false]) (by kernel_rfl) ?_
            refine SatD.weak (e' := [(6, _), (55, _), (58, _), (65, _), (69, _)]) (by repeat constructor) ?_
            exact hN8 b54 b65 b69 _ hS hD
          · skip
            intro b59 w134 _ hS
            refine keepS (hS.sel .nil) (fun hD => ?_)
            replace hS := hS.pick 3 rfl rfl
            replace hS := hS.pick 3 rfl rfl
            replace hS := hS.pick 2 rfl rfl
            replace hS := hS.pick 3 rfl rfl
            refine SatD.relist (l' := #[true, true, true, true, false, true, true, true, true, false, false, true, true, true, true, false, false, true, true, false, false, false, false, false, false]) (by kernel_rfl) ?_
            refine SatD.weak (e' := [(6, _), (54, _), (59, _), (65, _), (69, _)]) (by repeat constructor) ?_
            exact hN9 b54 b59 b65 b69 _ hS hD
        · intro b54 b59 b69 w133 hS hD
          refine SatD.effs [4, 14] (by kernel_rfl) ⟨⟨_, rfl, rfl, OpW.enter rfl rfl rfl (rfl) (sum_cut hS (by repeat constructor) (rd_take hva (hca.st hS List.not_mem_nil) hna hma)) ?_⟩, ⟨_, rfl, rfl, OpW.buildSlice1 hS rfl rfl rfl rfl rfl (.one (cut_one hvc _ _ _)) rfl rfl rfl ?_⟩, trivial⟩
          · skip
            rintro r134 w134 ⟨rfl, h⟩
            replace hS := St.callN hS h
            refine keepS (hS.sel .nil) (fun hD => ?_)
            replace hS := hS.pick 2 rfl rfl
            replace hS := hS.pick 2 rfl rfl
            replace hS := hS.pick 2 rfl rfl
            refine SatD.relist (l' := #[true, true, true, true, true, true, true, true, true, false, false, true, true, true, false, false, false, true, true, false, false, false, false, false, false]) (by kernel_rfl) ?_
            refine SatD.weak (e' := [(6, _), (55, _), (59, _), (64, _), (69, _)]) (by repeat constructor) ?_
            exact hN7 b54 b59 b69 _ hS hD
          · skip
            intro b65 w134 _ hS
            refine keepS (hS.sel .nil) (fun hD => ?_)
            replace hS := hS.pick 3 rfl rfl
            replace hS := hS.pick 1 rfl rfl
            replace hS := hS.pick 3 rfl rfl
            replace hS := hS.pick 3 rfl rfl
            refine SatD.relist (l' := #[true, true, true, true, false, true, true, true, true, false, false, true, true, true, true, false, false, true, true, false, false, false, false, false, false]) (by kernel_rfl) ?_
            refine SatD.weak (e' := [(6, _), (54, _), (59, _), (65, _), (69, _)]) (by repeat constructor) ?_
            exact hN9 b54 b59 b65 b69 _ hS hD
        · intro b54 b59 b65 w133 hS hD
          refine SatD.effs [4, 18] (by kernel_rfl) ⟨⟨_, rfl, rfl, OpW.enter rfl rfl rfl (rfl) (sum_cut hS (by repeat constructor) (rd_take hva (hca.st hS List.not_mem_nil) hna hma)) ?_⟩, ⟨_, rfl, rfl, OpW.buildSlice1 hS rfl rfl rfl rfl rfl (.one hsl.one) rfl rfl rfl ?_⟩, trivial⟩
          · skip
            rintro r134 w134 ⟨rfl, h⟩
            replace hS := St.callN hS h
            refine keepS (hS.sel .nil) (fun hD => ?_)
            replace hS := hS.pick 2 rfl rfl
            replace hS := hS.pick 2 rfl rfl
            replace hS := hS.pick 2 rfl rfl
            refine SatD.relist (l' := #[true, true, true, true, true, true, true, true, true, false, false, true, true, true, true, false, false, true, false, false, false, false, false, false, false]) (by kernel_rfl) ?_
            refine SatD.weak (e' := [(6, _), (55, _), (59, _), (65, _), (68, _)]) (by repeat constructor) ?_
            exact hN6 b54 b59 b65 _ hS hD
          · skip
            intro b69 w134 _ hS
            refine keepS (hS.sel .nil) (fun hD => ?_)
            replace hS := hS.pick 3 rfl rfl
            replace hS := hS.pick 3 rfl rfl
            replace hS := hS.pick 3 rfl rfl
            refine SatD.relist (l' := #[true, true, true, true, false, true, true, true, true, false, false, true, true, true, true, false, false, true, true, false, false, false, false, false, false]) (by kernel_rfl) ?_
            refine SatD.weak (e' := [(6, _), (54, _), (59, _), (65, _), (69, _)]) (by repeat constructor) ?_
            exact hN9 b54 b59 b65 b69 _ hS hD
        · intro b54 b69 w131 hS hD
          refine SatD.effs [8, 14] (by kernel_rfl) ⟨⟨_, rfl, rfl, OpW.buildSlice1 hS rfl rfl rfl rfl rfl (.one (cut_one hvb _ _ _)) rfl rfl rfl ?_⟩, ⟨_, rfl, rfl, OpW.buildSlice1 hS rfl rfl rfl rfl rfl (.one (cut_one hvc _ _ _)) rfl rfl rfl ?_⟩, trivial⟩
          · skip
            intro b59 w132 _ hS
            refine keepS (hS.sel .nil) (fun hD => ?_)
            replace hS := hS.pick 2 rfl rfl
            replace hS := hS.pick 1 rfl rfl
            replace hS := hS.pick 2 rfl rfl
            refine SatD.relist (l' := #[true, true, true, true, true, true, true, true, true, false, false, true, true, true, false, false, false, true, true, false, false, false, false, false, false]) (by kernel_rfl) ?_
            refine SatD.weak (e' := [(6, _), (55, _), (59, _), (64, _), (69, _)]) (by repeat constructor) ?_
            exact hN7 b54 b59 b69 _ hS hD
          · skip
            intro b65 w132 _ hS
            refine keepS (hS.sel .nil) (fun hD => ?_)
            replace hS := hS.pick 2 rfl rfl
            replace hS := hS.pick 1 rfl rfl
            replace hS := hS.pick 2 rfl rfl
            refine SatD.relist (l' := #[true, true, true, true, true, true, true, true, false, false, false, true, true, true, true, false, false, true, true, false, false, false, false, false, false]) (by kernel_rfl) ?_
            refine SatD.weak (e' := [(6, _), (55, _), (58, _), (65, _), (69, _)]) (by repeat constructor) ?_
            exact hN8 b54 b65 b69 _ hS hD
        · intro b54 b65 w131 hS hD
          refine SatD.effs [8, 18] (by kernel_rfl) ⟨⟨_, rfl, rfl, OpW.buildSlice1 hS rfl rfl rfl rfl rfl (.one (cut_one hvb _ _ _)) rfl rfl rfl ?_⟩, ⟨_, rfl, rfl, OpW.buildSlice1 hS rfl rfl rfl rfl rfl (.one hsl.one) rfl rfl rfl ?_⟩, trivial⟩
          · skip
            intro b59 w132 _ hS
            refine keepS (hS.sel .nil) (fun hD => ?_)
            replace hS := hS.pick 2 rfl rfl
            replace hS := hS.pick 1 rfl rfl
            replace hS := hS.pick 2 rfl rfl
            refine SatD.relist (l' := #[true, true, true, true, true, true, true, true, true, false, false, true, true, true, true, false, false, true, false, false, false, false, false, false, false]) (by kernel_rfl) ?_
            refine SatD.weak (e' := [(6, _), (55, _), (59, _), (65, _), (68, _)]) (by repeat constructor) ?_
            exact hN6 b54 b59 b65 _ hS hD
          · skip
            intro b69 w132 _ hS
            refine keepS (hS.sel .nil) (fun hD => ?_)
            replace hS := hS.pick 2 rfl rfl
            replace hS := hS.pick 2 rfl rfl
            refine SatD.relist (l' := #[true, true, true, true, true, true, true, true, false, false, false, true, true, true, true, false, false, true, true, false, false, false, false, false, false]) (by kernel_rfl) ?_
            refine SatD.weak (e' := [(6, _), (55, _), (58, _), (65, _), (69, _)]) (by repeat constructor) ?_
            exact hN8 b54 b65 b69 _ hS hD
        · intro b54 b59 w131 hS hD
          refine SatD.effs [9, 14, 18] (by kernel_rfl) ⟨⟨_, rfl, rfl, OpW.enter rfl rfl rfl (rfl) (sum_cut hS (by repeat constructor) (rd_take hvb (hcb.st hS List.not_mem_nil) hnb hmb)) ?_⟩, ⟨_, rfl, rfl, OpW.buildSlice1 hS rfl rfl rfl rfl rfl (.one (cut_one hvc _ _ _)) rfl rfl rfl ?_⟩, ⟨_, rfl, rfl, OpW.buildSlice1 hS rfl rfl rfl rfl rfl (.one hsl.one) rfl rfl rfl ?_⟩, trivial⟩
          · skip
            rintro r132 w132 ⟨rfl, h⟩
            replace hS := St.callN hS h
            refine keepS (hS.sel .nil) (fun hD => ?_)
            refine SatD.tk 10 rfl hD (fun _ hw => RunV.xor32 rfl rfl) ?_
            refine SatD.effs [14, 18] (by kernel_rfl) ⟨⟨_, rfl, rfl, OpW.buildSlice1 hS rfl rfl rfl rfl rfl (.one (cut_one hvc _ _ _)) rfl rfl rfl ?_⟩, ⟨_, rfl, rfl, OpW.buildSlice1 hS rfl rfl rfl rfl rfl (.one hsl.one) rfl rfl rfl ?_⟩, trivial⟩
            · skip
              intro b65 w133 _ hS
              refine keepS (hS.sel .nil) (fun hD => ?_)
              replace hS := hS.pick 2 rfl rfl
              replace hS := hS.pick 2 rfl rfl
              refine SatD.relist (l' := #[true, true, true, true, true, true, true, true, true, true, true, true, true, true, true, false, false, true, false, false, false, false, false, false, false]) (by kernel_rfl) ?_
              refine SatD.weak (e' := [(6, _), (61, _), (65, _), (68, _)]) (by repeat constructor) ?_
              exact hN3 b54 b59 b65 _ hS hD
            · skip
              intro b69 w133 _ hS
              refine keepS (hS.sel .nil) (fun hD => ?_)
              replace hS := hS.pick 2 rfl rfl
              replace hS := hS.pick 2 rfl rfl
              refine SatD.relist (l' := #[true, true, true, true, true, true, true, true, true, true, true, true, true, true, false, false, false, true, true, false, false, false, false, false, false]) (by kernel_rfl) ?_
              refine SatD.weak (e' := [(6, _), (61, _), (64, _), (69, _)]) (by repeat constructor) ?_
              exact hN4 b54 b59 b69 _ hS hD
          · skip
            intro b65 w132 _ hS
            refine keepS (hS.sel .nil) (fun hD => ?_)
            replace hS := hS.pick 2 rfl rfl
            replace hS := hS.pick 2 rfl rfl
            refine SatD.relist (l' := #[true, true, true, true, true, true, true, true, true, false, false, true, true, true, true, false, false, true, false, false, false, false, false, false, false]) (by kernel_rfl) ?_
            refine SatD.weak (e' := [(6, _), (55, _), (59, _), (65, _), (68, _)]) (by repeat constructor) ?_
            exact hN6 b54 b59 b65 _ hS hD
          · skip
            intro b69 w132 _ hS
            refine keepS (hS.sel .nil) (fun hD => ?_)
            replace hS := hS.pick 2 rfl rfl
            replace hS := hS.pick 2 rfl rfl
            refine SatD.relist (l' := #[true, true, true, true, true, true, true, true, true, false, false, true, true, true, false, false, false, true, true, false, false, false, false, false, false]) (by kernel_rfl) ?_
            refine SatD.weak (e' := [(6, _), (55, _), (59, _), (64, _), (69, _)]) (by repeat constructor) ?_
            exact hN7 b54 b59 b69 _ hS hD
        · intro b54 b59 b65 b69 w136 hS hD
          refine SatD.ef 4 rfl (OpW.enter rfl rfl rfl (rfl) (sum_cut hS (by repeat constructor) (rd_take hva (hca.st hS List.not_mem_nil) hna hma)) ?_)
          rintro r137 w137 ⟨rfl, h⟩
          replace hS := St.callN hS h
          refine keepS (hS.sel .nil) (fun hD => ?_)
          replace hS := hS.pick 3 rfl rfl
          replace hS := hS.pick 3 rfl rfl
          replace hS := hS.pick 3 rfl rfl
          replace hS := hS.pick 3 rfl rfl
          refine SatD.relist (l' := #[true, true, true, true, true, true, true, true, true, false, false, true, true, true, true, false, false, true, true, false, false, false, false, false, false]) (by kernel_rfl) ?_
          refine SatD.weak (e' := [(6, _), (55, _), (59, _), (65, _), (69, _)]) (by repeat constructor) ?_
          exact hN5 b54 b59 b65 b69 _ hS hD
        · intro b54 b65 b69 w136 hS hD
          refine SatD.ef 8 rfl (OpW.buildSlice1 hS rfl rfl rfl rfl rfl (.one (cut_one hvb _ _ _)) rfl rfl rfl ?_)
          intro b59 w137 _ hS
          refine keepS (hS.sel .nil) (fun hD => ?_)
          replace hS := hS.pick 3 rfl rfl
          replace hS := hS.pick 3 rfl rfl
          replace hS := hS.pick 2 rfl rfl
          replace hS := hS.pick 3 rfl rfl
          refine SatD.relist (l' := #[true, true, true, true, true, true, true, true, true, false, false, true, true, true, true, false, false, true, true, false, false, false, false, false, false]) (by kernel_rfl) ?_
          refine SatD.weak (e' := [(6, _), (55, _), (59, _), (65, _), (69, _)]) (by repeat constructor) ?_
          exact hN5 b54 b59 b65 b69 _ hS hD
        · intro b54 b59 b69 w136 hS hD
          refine SatD.effs [9, 14] (by kernel_rfl) ⟨⟨_, rfl, rfl, OpW.enter rfl rfl rfl (rfl) (sum_cut hS (by repeat constructor) (rd_take hvb (hcb.st hS List.not_mem_nil) hnb hmb)) ?_⟩, ⟨_, rfl, rfl, OpW.buildSlice1 hS rfl rfl rfl rfl rfl (.one (cut_one hvc _ _ _)) rfl rfl rfl ?_⟩, trivial⟩
          · skip
            rintro r137 w137 ⟨rfl, h⟩
            replace hS := St.callN hS h
            refine keepS (hS.sel .nil) (fun hD => ?_)
            refine SatD.tk 10 rfl hD (fun _ hw => RunV.xor32 rfl rfl) ?_
            replace hS := hS.pick 2 rfl rfl
            replace hS := hS.pick 2 rfl rfl
            replace hS := hS.pick 2 rfl rfl
            refine SatD.relist (l' := #[true, true, true, true, true, true, true, true, true, true, true, true, true, true, false, false, false, true, true, false, false, false, false, false, false]) (by kernel_rfl) ?_
            refine SatD.weak (e' := [(6, _), (61, _), (64, _), (69, _)]) (by repeat constructor) ?_
            exact hN4 b54 b59 b69 _ hS hD
          · skip
            intro b65 w137 _ hS
            refine keepS (hS.sel .nil) (fun hD => ?_)
            replace hS := hS.pick 3 rfl rfl
            replace hS := hS.pick 1 rfl rfl
            replace hS := hS.pick 3 rfl rfl
            replace hS := hS.pick 3 rfl rfl
            refine SatD.relist (l' := #[true, true, true, true, true, true, true, true, true, false, false, true, true, true, true, false, false, true, true, false, false, false, false, false, false]) (by kernel_rfl) ?_
            refine SatD.weak (e' := [(6, _), (55, _), (59, _), (65, _), (69, _)]) (by repeat constructor) ?_
            exact hN5 b54 b59 b65 b69 _ hS hD
        · intro b54 b59 b65 w136 hS hD
          refine SatD.effs [9, 18] (by kernel_rfl) ⟨⟨_, rfl, rfl, OpW.enter rfl rfl rfl (rfl) (sum_cut hS (by repeat constructor) (rd_take hvb (hcb.st hS List.not_mem_nil) hnb hmb)) ?_⟩, ⟨_, rfl, rfl, OpW.buildSlice1 hS rfl rfl rfl rfl rfl (.one hsl.one) rfl rfl rfl ?_⟩, trivial⟩
          · skip
            rintro r137 w137 ⟨rfl, h⟩
            replace hS := St.callN hS h
            refine keepS (hS.sel .nil) (fun hD => ?_)
            refine SatD.tk 10 rfl hD (fun _ hw => RunV.xor32 rfl rfl) ?_
            replace hS := hS.pick 2 rfl rfl
            replace hS := hS.pick 2 rfl rfl
            replace hS := hS.pick 2 rfl rfl
            refine SatD.relist (l' := #[true, true, true, true, true, true, true, true, true, true, true, true, true, true, true, false, false, true, false, false, false, false, false, false, false]) (by kernel_rfl) ?_
            refine SatD.weak (e' := [(6, _), (61, _), (65, _), (68, _)]) (by repeat constructor) ?_
            exact hN3 b54 b59 b65 _ hS hD
          · skip
            intro b69 w137 _ hS
            refine keepS (hS.sel .nil) (fun hD => ?_)
            replace hS := hS.pick 3 rfl rfl
            replace hS := hS.pick 3 rfl rfl
            replace hS := hS.pick 3 rfl rfl
            refine SatD.relist (l' := #[true, true, true, true, true, true, true, true, true, false, false, true, true, true, true, false, false, true, true, false, false, false, false, false, false]) (by kernel_rfl) ?_
            refine SatD.weak (e' := [(6, _), (55, _), (59, _), (65, _), (69, _)]) (by repeat constructor) ?_
            exact hN5 b54 b59 b65 b69 _ hS hD
        · intro b54 b59 b65 b69 w139 hS hD
          refine SatD.ef 9 rfl (OpW.enter rfl rfl rfl (rfl) (sum_cut hS (by repeat constructor) (rd_take hvb (hcb.st hS List.not_mem_nil) hnb hmb)) ?_)
          rintro r140 w140 ⟨rfl, h⟩
          replace hS := St.callN hS h
          refine keepS (hS.sel .nil) (fun hD => ?_)
          refine SatD.tk 10 rfl hD (fun _ hw => RunV.xor32 rfl rfl) ?_
          replace hS := hS.pick 3 rfl rfl
          replace hS := hS.pick 3 rfl rfl
          replace hS := hS.pick 3 rfl rfl
          replace hS := hS.pick 3 rfl rfl
          refine SatD.relist (l' := #[true, true, true, true, true, true, true, true, true, true, true, true, true, true, true, false, false, true, true, false, false, false, false, false, false]) (by kernel_rfl) ?_
          refine SatD.weak (e' := [(6, _), (61, _), (65, _), (69, _)]) (by repeat constructor) ?_
          exact hN2 b54 b59 b65 b69 _ hS hD
        · intro b54 b59 b69 w135 hS hD
          refine SatD.ef 14 rfl (OpW.buildSlice1 hS rfl rfl rfl rfl rfl (.one (cut_one hvc _ _ _)) rfl rfl rfl ?_)
          intro b65 w136 _ hS
          refine keepS (hS.sel .nil) (fun hD => ?_)
          replace hS := hS.pick 3 rfl rfl
          replace hS := hS.pick 1 rfl rfl
          replace hS := hS.pick 3 rfl rfl
          replace hS := hS.pick 3 rfl rfl
          refine SatD.relist (l' := #[true, true, true, true, true, true, true, true, true, true, true, true, true, true, true, false, false, true, true, false, false, false, false, false, false]) (by kernel_rfl) ?_
          refine SatD.weak (e' := [(6, _), (61, _), (65, _), (69, _)]) (by repeat constructor) ?_
          exact hN2 b54 b59 b65 b69 _ hS hD
        · intro b54 b59 b65 w135 hS hD
          refine SatD.effs [15, 18] (by kernel_rfl) ⟨⟨_, rfl, rfl, OpW.enter rfl rfl rfl (rfl) (sum_cut hS (by repeat constructor) (rd_take hvc (hcc.st hS List.not_mem_nil) hnc hmc)) ?_⟩, ⟨_, rfl, rfl, OpW.buildSlice1 hS rfl rfl rfl rfl rfl (.one hsl.one) rfl rfl rfl ?_⟩, trivial⟩
          · skip
            rintro r136 w136 ⟨rfl, h⟩
            replace hS := St.callN hS h
            refine keepS (hS.sel .nil) (fun hD => ?_)
            refine SatD.tk 16 rfl hD (fun _ hw => RunV.xor32 rfl rfl) ?_
            refine SatD.ef 18 rfl (OpW.buildSlice1 hS rfl rfl rfl rfl rfl (.one hsl.one) rfl rfl rfl ?_)
            intro b69 w137 _ hS
            refine keepS (hS.sel .nil) (fun hD => ?_)
            replace hS := hS.pick 3 rfl rfl
            replace hS := hS.pick 3 rfl rfl
            replace hS := hS.pick 3 rfl rfl
            refine SatD.relist (l' := #[true, true, true, true, true, true, true, true, true, true, true, true, true, true, true, true, true, true, true, false, false, false, false, false, false]) (by kernel_rfl) ?_
            refine SatD.weak (e' := [(6, _), (67, _), (69, _)]) (by repeat constructor) ?_
            exact hN1 b54 b59 b65 b69 _ hS hD
          · skip
            intro b69 w136 _ hS
            refine keepS (hS.sel .nil) (fun hD => ?_)
            replace hS := hS.pick 3 rfl rfl
            replace hS := hS.pick 3 rfl rfl
            replace hS := hS.pick 3 rfl rfl
            refine SatD.relist (l' := #[true, true, true, true, true, true, true, true, true, true, true, true, true, true, true, false, false, true, true, false, false, false, false, false, false]) (by kernel_rfl) ?_
            refine SatD.weak (e' := [(6, _), (61, _), (65, _), (69, _)]) (by repeat constructor) ?_
            exact hN2 b54 b59 b65 b69 _ hS hD
        · intro b54 b59 b65 b69 w142 hS hD
          refine SatD.ef 15 rfl (OpW.enter rfl rfl rfl (rfl) (sum_cut hS (by repeat constructor) (rd_take hvc (hcc.st hS List.not_mem_nil) hnc hmc)) ?_)
          rintro r143 w143 ⟨rfl, h⟩
          replace hS := St.callN hS h
          refine keepS (hS.sel .nil) (fun hD => ?_)
          refine SatD.tk 16 rfl hD (fun _ hw => RunV.xor32 rfl rfl) ?_
          replace hS := hS.pick 3 rfl rfl
          replace hS := hS.pick 3 rfl rfl
          replace hS := hS.pick 3 rfl rfl
          replace hS := hS.pick 3 rfl rfl
          refine SatD.relist (l' := #[true, true, true, true, true, true, true, true, true, true, true, true, true, true, true, true, true, true, true, false, false, false, false, false, false]) (by kernel_rfl) ?_
          refine SatD.weak (e' := [(6, _), (67, _), (69, _)]) (by repeat constructor) ?_
          exact hN1 b54 b59 b65 b69 _ hS hD
        · intro b54 b59 b65 b69 w139 hS hD
          refine SatD.ef 19 rfl (OpW.enter rfl rfl rfl (rfl) (sum_cut hS (by repeat constructor) (hsl.row hS (by repeat constructor) hlu)) ?_)
          rintro r140 w140 ⟨rfl, h⟩
          replace hS := St.callN hS h
          refine keepS (hS.sel .nil) (fun hD => ?_)
          refine SatD.tk 20 rfl hD (fun _ hw => RunV.cast (RunV.eql rfl rfl) (congrArg Value.bool (decide_eq_true (mix_sum hna hnb hnc)))) ?_
          refine SatD.tk 21 rfl hD (fun _ hw => RunV.move rfl) ?_
          refine SatD.ef 22 rfl (OpW.enter rfl rfl rfl (rfl) (works_any _) ?_)
          rintro r141 w141 ⟨rfl, h⟩
          replace hS := St.callN hS h
          refine keepS (hS.sel .nil) (fun hD => ?_)
          refine SatD.tk 23 rfl hD (fun _ hw => RunV.pick_t rfl rfl) ?_
          refine SatD.tk 24 rfl hD (fun _ hw => RunV.assign rfl) ?_
          refine SatD.done 0 (by kernel_rfl) (SatE.thenC ?_)
          clear hD
          refine SatC.ret ?_
          refine SatE.ret1 rfl rfl ?_
          exact ⟨by first | rfl | simp, hS.sub (List.nil_sublist _)⟩
theorem sumLaid_lifted (os : Os) (started : os.Started) (H : Type) (enc : TypeId × Value → H) :
    ReturnsInHanded {} Try.checked os 5 .any (Rows.sumLaidSpec.pre6 enc Try.prog Try.f5 Rows.sumLaidRow.domain false) (Rows.sumLaidSpec.post enc Try.prog Try.f5 false true false false) := by
  refine law_returns (C := Try.checked) (b := 4) (by kernel_rfl) started (by kernel_rfl) Try.func5
    (ChangeSpec.witness6 (enc := enc) (C := Try.checked) false ⟨#[], #[.slice none 0 0, .slice none 0 0, .slice none 0 0], []⟩ 8 (by kernel_rfl) (by kernel_rfl) (by kernel_rfl) (by kernel_rfl))
    rfl rfl (by kernel_rfl) (by kernel_rfl) (by kernel_rfl) (fun ds h => ?_) ?_
  · rw [Try.params5] at h
    match ds, h with
    | [_, _, _], _ => rfl
  intro W base args ds ps hval hA hsz
  rw [Try.params5] at hA hval
  obtain ⟨v0, v1, v2, d0, d1, d2, q0, q1, q2, hargs, rfl, rfl, h0, h1, h2⟩ := trodAll_three hA
  subst hargs
  obtain ⟨xs0, hr0, hx0⟩ := open_rows (l := [5]) 6 Try.underlying22 (by kernel_rfl) (by kernel_rfl) (by decide) (hval 0 22 v0 rfl rfl) h0
  obtain ⟨ys0, rfl, hy0⟩ := rows_map (enc' := by1) (q := fun _ => True) (fun r hr => by
    obtain ⟨u0, rfl, l0⟩ := allLeaf_list1 hr
    obtain ⟨n0, rfl, e0⟩ := leaf_int Try.underlying5 l0
    obtain ⟨a, rfl⟩ := toU8 (bnd_u8 e0); exact ⟨a, rfl, trivial⟩) xs0 hx0
  obtain ⟨xs1, hr1, hx1⟩ := open_rows (l := [5]) 6 Try.underlying22 (by kernel_rfl) (by kernel_rfl) (by decide) (hval 1 22 v1 rfl rfl) h1
  obtain ⟨ys1, rfl, hy1⟩ := rows_map (enc' := by1) (q := fun _ => True) (fun r hr => by
    obtain ⟨u0, rfl, l0⟩ := allLeaf_list1 hr
    obtain ⟨n0, rfl, e0⟩ := leaf_int Try.underlying5 l0
    obtain ⟨a, rfl⟩ := toU8 (bnd_u8 e0); exact ⟨a, rfl, trivial⟩) xs1 hx1
  obtain ⟨xs2, hr2, hx2⟩ := open_rows (l := [5]) 6 Try.underlying22 (by kernel_rfl) (by kernel_rfl) (by decide) (hval 2 22 v2 rfl rfl) h2
  obtain ⟨ys2, rfl, hy2⟩ := rows_map (enc' := by1) (q := fun _ => True) (fun r hr => by
    obtain ⟨u0, rfl, l0⟩ := allLeaf_list1 hr
    obtain ⟨n0, rfl, e0⟩ := leaf_int Try.underlying5 l0
    obtain ⟨a, rfl⟩ := toU8 (bnd_u8 e0); exact ⟨a, rfl, trivial⟩) xs2 hx2
  exact law_done (laid_any _ _ _ ys0 ys1 ys2 W hr0 hr1 hr2 (by have := rows_len (n := 1) hsz (j := 0) (by rw [Try.params5]; rfl) rfl Try.underlying22 (by kernel_rfl) (hval 0 22 v0 rfl rfl) h0 hr0; rw [List.length_map] at this; omega))
theorem sumLaid_holds : Rows.SumLaidSaid :=
  OpenClaim.holds_of_wide 5 Try.f5 rfl rfl rfl rfl rfl rfl rfl ⟨rfl, rfl, rfl, rfl, rfl⟩ rfl rfl rfl rfl rfl (by kernel_rfl) Try.func5 (by kernel_rfl)
    (of_decide_eq_true (by kernel_rfl)) (by unfold Func.isWrapper; first | (rw [if_pos (by decide +kernel)]; kernel_rfl) | (rw [if_neg (by decide +kernel)]; exact ⟨rfl, rfl⟩))
    (fun os started H enc _ => sumLaid_lifted os started H enc)
end Go.Proofs.Ytpajeienbdnkfaa
