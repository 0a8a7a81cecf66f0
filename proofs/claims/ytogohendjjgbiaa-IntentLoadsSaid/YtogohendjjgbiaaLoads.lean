/- Any intentions are loaded as they are, or are refused, just as the document says. No condition. -/
import Derived.Test.YtogohendjjgbiaaIn
import Derived.Test.YtogohendjjgbiaaK7
import Derived.Test.YtogohendjjgbiaaK16
import Derived.Test.YtogohendjjgbiaaRows
set_option linter.unusedSimpArgs false
set_option linter.unusedVariables false
set_option maxRecDepth 100000
set_option maxHeartbeats 4000000
namespace Go.Proofs.Ytogohendjjgbiaa
open Go.RowKit Go.ChangeShapes Go.WideShapes Go.ChangeAt
def OkAt (last : Int) (l : List Itn) (j : Nat) : Prop := ∀ x, l[j]? = some x → patI x.s = true ∧ patI x.d = true ∧ x.m ≤ x.x ∧ x.x ≤ last ∧ (0 < j → ∀ y, l[j - 1]? = some y → firstI y x = true)
def MayP (most last : Int) (l : List Itn) : Prop := (l.length : Int) ≤ most ∧ ∀ j, j < l.length → OkAt last l j
theorem may_not {most last : Int} {l : List Itn} {k : Nat} {y : Itn} (hy : l[k]? = some y) (h : ¬ OkAt last l k) : ¬ MayP most last l := fun hm => h (hm.2 k (List.getElem?_eq_some_iff.1 hy).1)
theorem not_ok {last : Int} {l : List Itn} {k : Nat} {y z : Itn} (hy : l[k]? = some y) (hz : l[k - 1]? = some z) (h : patI y.s = false ∨ patI y.d = false ∨ y.x < y.m ∨ last < y.x ∨ 0 < k ∧ firstI z y = false) : ¬ OkAt last l k := fun ho => by
  obtain ⟨e1, e2, e3, e4, e5⟩ := ho y hy
  rcases h with h | h | h | h | ⟨h0, h⟩
  · rw [e1] at h; cases h
  · rw [e2] at h; cases h
  · omega
  · omega
  · rw [e5 h0 z hz] at h; cases h
theorem is_ok {last : Int} {l : List Itn} {k : Nat} {y z : Itn} (hy : l[k]? = some y) (hz : l[k - 1]? = some z) (h1 : patI y.s = true) (h2 : patI y.d = true) (h3 : y.m ≤ y.x) (h4 : y.x ≤ last) (h5 : k = 0 ∨ firstI z y = true) : OkAt last l k := fun x hx => by
  rw [hy] at hx
  cases hx
  refine ⟨h1, h2, h3, h4, fun h0 z' hz' => ?_⟩
  rw [hz] at hz'
  cases hz'
  rcases h5 with h5 | h5
  · omega
  · exact h5
theorem may_any (n last : Int) (v : Value) (l : List Itn) (w : World) (hr : RdRow w v 5 (l.map ic)) : Ret Try.prog 20 #[.int .i64 n, v, .int .u64 last] w fun u w' => ∃ q : Bool, u = .bool q ∧ (q = true ↔ MayP (min (max n 1) 64) last l) ∧ St w [] [] w' := by
  obtain ⟨bb, oo, cc, hv0, hl, hrd, _⟩ := hr.open
  rw [List.length_map] at hv0 hl
  have hS := St.init0 w
  refine Ret.enter Try.func20 Try.ntmps20 rfl rfl ?_
  simp only [argEnv, Nat.reduceAdd]
  refine SatC.seq ?_
  refine SatC.region ?_
  refine SatL.pu (RunV.assign rfl) rfl ?_
  refine SatL.nil (SatE.thenC ?_)
  refine SatC.seq ?_
  refine SatC.seq ?_
  refine SatC.region ?_
  refine SatL.pu (RunV.move rfl) rfl ?_
  refine SatL.pu (RunV.lenR hv0 rfl rfl) rfl ?_
  refine SatL.pu (RunV.move rfl) rfl ?_
  refine SatL.op rfl (OpW.enter rfl rfl rfl (rfl) (rnew_any n _) ?_)
  rintro r1 w1 ⟨rb, rfl, h⟩
  replace hS := hS.call0 h
  first | refine SatL.pu (RunV.nil_ptr rfl) rfl ?_ | refine SatL.pu (RunV.nil_func rfl) rfl ?_ | refine SatL.pu (RunV.nil_yield rfl) rfl ?_
  first | refine SatL.pu (RunV.fieldAddrL rfl rfl rfl) rfl ?_ | refine SatL.pu (RunV.fieldAddr rfl rfl rfl) rfl ?_
  refine SatL.pu (RunV.load1 hS rfl rfl (by repeat constructor) rfl) rfl ?_
  refine SatL.pu (RunV.gtr rfl rfl) rfl ?_
  refine SatL.nil (SatE.thenC ?_)
  refine SatC.cond rfl (fun h1 => ?_) (fun h1 => ?_)
  · (try simp only [cx, ne_eq] at h1)
    try (exfalso; (first | omega | exact h1 trivial | contradiction | (first | omega | exact h1 rfl | (simp at h1; done))); done)
    all_goals
    refine SatC.seq ?_
    refine SatC.region ?_
    refine SatL.pu (RunV.assign rfl) rfl ?_
    refine SatL.nil (SatE.thenC ?_)
    refine SatC.ret (SatE.then_ret ?_)
    refine SatE.ret1 rfl rfl ?_
    exact ⟨false, rfl, ⟨fun h => (by cases h), fun h => by have := h.1; omega⟩, hS.sel (by repeat constructor)⟩
  · (try simp only [cx, ne_eq] at h1)
    try (exfalso; (first | omega | exact h1 trivial | contradiction | (first | omega | exact h1 rfl | (simp at h1; done))); done)
    all_goals
    refine SatC.skip (SatE.thenC ?_)
    refine SatC.seq ?_
    refine SatC.seq ?_
    refine SatC.region ?_
    refine SatL.pu (RunV.assign rfl) rfl ?_
    refine SatL.nil (SatE.thenC ?_)
    refine SatC.block ?_
    refine SatC.loopK (G := Nat) (V := fun k => [(7, .int .i64 (k : Int))]) (Cn := [(1, _), (2, _), (6, _)]) (I := fun k w' => k ≤ l.length ∧ (∀ j, j < k → OkAt last l j) ∧ St w [] [] w') (μ := fun k => l.length - k) 0 ?_ (by repeat constructor) ?_
    · exact ⟨by omega, fun j h => by omega, hS.sel (by repeat constructor)⟩
    clear hS
    rintro k w2 ⟨hk, hok, hS⟩
    refine SatC.weak (e' := [(1, _), (2, _), (6, _), (7, _)]) (by repeat constructor) ?_
    refine SatC.seq ?_
    refine SatC.seq ?_
    refine SatC.region ?_
    refine SatL.pu (RunV.move rfl) rfl ?_
    refine SatL.pu (RunV.move rfl) rfl ?_
    refine SatL.pu (RunV.lenR hv0 rfl rfl) rfl ?_
    refine SatL.pu (RunV.lss rfl rfl) rfl ?_
    refine SatL.nil (SatE.thenC ?_)
    refine SatC.cond rfl (fun h2 => ?_) (fun h2 => ?_)
    · (try simp only [cx, ne_eq] at h2)
      try (exfalso; (first | omega | exact h2 trivial | contradiction | (first | omega | exact h2 rfl | (simp at h2; done))); done)
      all_goals
      refine SatC.skip (SatE.thenC ?_)
      refine SatC.seq ?_
      refine SatC.block ?_
      refine SatC.seq ?_
      obtain ⟨y, hy⟩ := get_some l k (by omega)
      obtain ⟨z, hz⟩ := get_some l (k - 1) (by omega)
      refine SatC.region ?_
      refine SatL.pu (RunV.move rfl) rfl ?_
      refine SatL.pu (RunV.move rfl) rfl ?_
      refine SatL.pu (RunV.indexR hv0 rfl rfl rfl (by omega) (by omega) rfl) rfl ?_
      refine SatL.pu (RunV.loadRNz (hrd.st (hS.sel (by repeat constructor)) List.not_mem_nil) rfl rfl (map_get hy)) rfl ?_
      refine SatL.op rfl (OpW.alloc hS rfl rfl (by repeat constructor) ?_)
      clear hS
      intro b8 w3 _ hS
      refine SatL.op rfl (OpW.store hS rfl rfl (by repeat constructor) (by repeat constructor) (by repeat constructor) rfl rfl ?_)
      clear hS
      intro w4 hS
      refine SatL.nil (SatE.thenC ?_)
      refine SatC.seq ?_
      refine SatC.drawnT 37 hS (hS) (by kernel_rfl) ?_
      clear hS
      intro w5 hh hS hD
      first | refine SatD.tk 0 rfl hD (fun _ hw => RunV.fieldAddrL rfl rfl rfl) ?_ | refine SatD.tk 0 rfl hD (fun _ hw => RunV.fieldAddr rfl rfl rfl) ?_
      refine SatD.tk 1 rfl hD (fun _ hw => RunV.load1 hw rfl rfl (by repeat constructor) rfl) ?_
      refine SatD.ef 2 rfl (OpW.enter rfl rfl rfl (rfl) (rpat_any _ _) ?_)
      rintro r6 w6 ⟨rfl, h⟩
      replace hS := St.callN hS h
      refine keepS (hS.sel (by repeat constructor)) (fun hD => ?_)
      refine SatD.tk 3 rfl hD (fun _ hw => RunV.not rfl) ?_
      refine SatD.tk 4 rfl hD (fun _ hw => RunV.move rfl) ?_
      refine SatD.ways 31 rfl (fun h3 => ?_) (fun h3 => ?_)
      · (try simp only [cx, ne_eq] at h3)
        try (exfalso; (first | omega | exact h3 trivial | contradiction | (first | omega | exact h3 rfl | (simp at h3; done))); done)
        all_goals
        refine SatD.sk 5 rfl [] hD ?_
        refine SatD.sk 6 rfl [] hD ?_
        refine SatD.sk 7 rfl [] hD ?_
        refine SatD.sk 8 rfl [] hD ?_
        refine SatD.tk 9 rfl hD (fun _ hw => RunV.pick_t rfl rfl) ?_
        refine SatD.tk 10 rfl hD (fun _ hw => RunV.move rfl) ?_
        refine SatD.sk 11 rfl [] hD ?_
        refine SatD.sk 12 rfl [] hD ?_
        refine SatD.sk 13 rfl [] hD ?_
        refine SatD.sk 14 rfl [] hD ?_
        refine SatD.sk 15 rfl [] hD ?_
        refine SatD.tk 16 rfl hD (fun _ hw => RunV.pick_t rfl rfl) ?_
        refine SatD.tk 17 rfl hD (fun _ hw => RunV.move rfl) ?_
        refine SatD.sk 18 rfl [] hD ?_
        refine SatD.sk 19 rfl [] hD ?_
        refine SatD.sk 20 rfl [] hD ?_
        refine SatD.sk 21 rfl [] hD ?_
        refine SatD.tk 22 rfl hD (fun _ hw => RunV.pick_t rfl rfl) ?_
        refine SatD.tk 23 rfl hD (fun _ hw => RunV.move rfl) ?_
        refine SatD.sk 24 rfl [] hD ?_
        refine SatD.sk 25 rfl [] hD ?_
        refine SatD.sk 26 rfl [] hD ?_
        refine SatD.sk 27 rfl [] hD ?_
        refine SatD.sk 28 rfl [] hD ?_
        refine SatD.sk 29 rfl [] hD ?_
        refine SatD.sk 30 rfl [] hD ?_
        refine SatD.sk 31 rfl [] hD ?_
        refine SatD.sk 32 rfl [] hD ?_
        refine SatD.sk 33 rfl [] hD ?_
        refine SatD.sk 34 rfl [] hD ?_
        refine SatD.sk 35 rfl [] hD ?_
        refine SatD.tk 36 rfl hD (fun _ hw => RunV.pick_t rfl rfl) ?_
        refine SatD.done 0 (by kernel_rfl) (SatE.thenC ?_)
        clear hD
        refine SatC.weak (e' := [(1, _), (2, _), (6, _), (7, _), (63, _)]) (by repeat constructor) ?_
        refine SatC.cond_t rfl ?_
        refine SatC.seq ?_
        refine SatC.region ?_
        refine SatL.pu (RunV.assign rfl) rfl ?_
        refine SatL.nil (SatE.thenC ?_)
        refine SatC.ret (SatE.blk_ret (SatE.then_ret (SatE.then_ret (SatE.blk_ret (SatE.then_ret ?_)))))
        refine SatE.ret1 rfl rfl ?_
        first
        | exact ⟨true, rfl, ⟨fun _ => ⟨by omega, fun j hj => hok j (by omega)⟩, fun _ => rfl⟩, hS⟩
        | exact ⟨false, rfl, ⟨fun h => (by cases h), fun h => absurd h (may_not hy (not_ok hy hz (.inl (by assumption))))⟩, hS.sel (by repeat constructor)⟩
        | exact ⟨false, rfl, ⟨fun h => (by cases h), fun h => absurd h (may_not hy (not_ok hy hz (.inr (.inl (by assumption)))))⟩, hS.sel (by repeat constructor)⟩
        | exact ⟨false, rfl, ⟨fun h => (by cases h), fun h => absurd h (may_not hy (not_ok hy hz (.inr (.inr (.inl (by omega))))))⟩, hS.sel (by repeat constructor)⟩
        | exact ⟨false, rfl, ⟨fun h => (by cases h), fun h => absurd h (may_not hy (not_ok hy hz (.inr (.inr (.inr (.inl (by omega)))))))⟩, hS.sel (by repeat constructor)⟩
        | exact ⟨false, rfl, ⟨fun h => (by cases h), fun h => absurd h (may_not hy (not_ok hy hz (.inr (.inr (.inr (.inr ⟨by omega, by assumption⟩))))))⟩, hS.sel (by repeat constructor)⟩
      · (try simp only [cx, ne_eq] at h3)
        try (exfalso; (first | omega | exact h3 trivial | contradiction | (first | omega | exact h3 rfl | (simp at h3; done))); done)
        all_goals
        first | refine SatD.tk 5 rfl hD (fun _ hw => RunV.fieldAddrL rfl rfl rfl) ?_ | refine SatD.tk 5 rfl hD (fun _ hw => RunV.fieldAddr rfl rfl rfl) ?_
        refine SatD.tk 6 rfl hD (fun _ hw => RunV.load1 hw rfl rfl (by repeat constructor) rfl) ?_
        refine SatD.ef 7 rfl (OpW.enter rfl rfl rfl (rfl) (rpat_any _ _) ?_)
        rintro r7 w7 ⟨rfl, h⟩
        replace hS := St.callN hS h
        refine keepS (hS.sel (by repeat constructor)) (fun hD => ?_)
        refine SatD.tk 8 rfl hD (fun _ hw => RunV.not rfl) ?_
        refine SatD.tk 9 rfl hD (fun _ hw => RunV.pick_f rfl rfl) ?_
        refine SatD.tk 10 rfl hD (fun _ hw => RunV.move rfl) ?_
        refine SatD.ways 37 rfl (fun h4 => ?_) (fun h4 => ?_)
        · (try simp only [cx, ne_eq] at h4)
          try (exfalso; (first | omega | exact h4 trivial | contradiction | (first | omega | exact h4 rfl | (simp at h4; done))); done)
          all_goals
          refine SatD.sk 11 rfl [] hD ?_
          refine SatD.sk 12 rfl [] hD ?_
          refine SatD.sk 13 rfl [] hD ?_
          refine SatD.sk 14 rfl [] hD ?_
          refine SatD.sk 15 rfl [] hD ?_
          refine SatD.tk 16 rfl hD (fun _ hw => RunV.pick_t rfl rfl) ?_
          refine SatD.tk 17 rfl hD (fun _ hw => RunV.move rfl) ?_
          refine SatD.sk 18 rfl [] hD ?_
          refine SatD.sk 19 rfl [] hD ?_
          refine SatD.sk 20 rfl [] hD ?_
          refine SatD.sk 21 rfl [] hD ?_
          refine SatD.tk 22 rfl hD (fun _ hw => RunV.pick_t rfl rfl) ?_
          refine SatD.tk 23 rfl hD (fun _ hw => RunV.move rfl) ?_
          refine SatD.sk 24 rfl [] hD ?_
          refine SatD.sk 25 rfl [] hD ?_
          refine SatD.sk 26 rfl [] hD ?_
          refine SatD.sk 27 rfl [] hD ?_
          refine SatD.sk 28 rfl [] hD ?_
          refine SatD.sk 29 rfl [] hD ?_
          refine SatD.sk 30 rfl [] hD ?_
          refine SatD.sk 31 rfl [] hD ?_
          refine SatD.sk 32 rfl [] hD ?_
          refine SatD.sk 33 rfl [] hD ?_
          refine SatD.sk 34 rfl [] hD ?_
          refine SatD.sk 35 rfl [] hD ?_
          refine SatD.tk 36 rfl hD (fun _ hw => RunV.pick_t rfl rfl) ?_
          refine SatD.done 0 (by kernel_rfl) (SatE.thenC ?_)
          clear hD
          refine SatC.weak (e' := [(1, _), (2, _), (6, _), (7, _), (63, _)]) (by repeat constructor) ?_
          refine SatC.cond_t rfl ?_
          refine SatC.seq ?_
          refine SatC.region ?_
          refine SatL.pu (RunV.assign rfl) rfl ?_
          refine SatL.nil (SatE.thenC ?_)
          refine SatC.ret (SatE.blk_ret (SatE.then_ret (SatE.then_ret (SatE.blk_ret (SatE.then_ret ?_)))))
          refine SatE.ret1 rfl rfl ?_
          first
          | exact ⟨true, rfl, ⟨fun _ => ⟨by omega, fun j hj => hok j (by omega)⟩, fun _ => rfl⟩, hS⟩
          | exact ⟨false, rfl, ⟨fun h => (by cases h), fun h => absurd h (may_not hy (not_ok hy hz (.inl (by assumption))))⟩, hS.sel (by repeat constructor)⟩
          | exact ⟨false, rfl, ⟨fun h => (by cases h), fun h => absurd h (may_not hy (not_ok hy hz (.inr (.inl (by assumption)))))⟩, hS.sel (by repeat constructor)⟩
          | exact ⟨false, rfl, ⟨fun h => (by cases h), fun h => absurd h (may_not hy (not_ok hy hz (.inr (.inr (.inl (by omega))))))⟩, hS.sel (by repeat constructor)⟩
          | exact ⟨false, rfl, ⟨fun h => (by cases h), fun h => absurd h (may_not hy (not_ok hy hz (.inr (.inr (.inr (.inl (by omega)))))))⟩, hS.sel (by repeat constructor)⟩
          | exact ⟨false, rfl, ⟨fun h => (by cases h), fun h => absurd h (may_not hy (not_ok hy hz (.inr (.inr (.inr (.inr ⟨by omega, by assumption⟩))))))⟩, hS.sel (by repeat constructor)⟩
        · (try simp only [cx, ne_eq] at h4)
          try (exfalso; (first | omega | exact h4 trivial | contradiction | (first | omega | exact h4 rfl | (simp at h4; done))); done)
          all_goals
          first | refine SatD.tk 11 rfl hD (fun _ hw => RunV.fieldAddrL rfl rfl rfl) ?_ | refine SatD.tk 11 rfl hD (fun _ hw => RunV.fieldAddr rfl rfl rfl) ?_
          refine SatD.tk 12 rfl hD (fun _ hw => RunV.load1 hw rfl rfl (by repeat constructor) rfl) ?_
          first | refine SatD.tk 13 rfl hD (fun _ hw => RunV.fieldAddrL rfl rfl rfl) ?_ | refine SatD.tk 13 rfl hD (fun _ hw => RunV.fieldAddr rfl rfl rfl) ?_
          refine SatD.tk 14 rfl hD (fun _ hw => RunV.load1 hw rfl rfl (by repeat constructor) rfl) ?_
          refine SatD.tk 15 rfl hD (fun _ hw => RunV.gtr rfl rfl) ?_
          refine SatD.tk 16 rfl hD (fun _ hw => RunV.pick_f rfl rfl) ?_
          refine SatD.tk 17 rfl hD (fun _ hw => RunV.move rfl) ?_
          refine SatD.ways 44 rfl (fun h5 => ?_) (fun h5 => ?_)
          · (try simp only [cx, ne_eq] at h5)
            try (exfalso; (first | omega | exact h5 trivial | contradiction | (first | omega | exact h5 rfl | (simp at h5; done))); done)
            all_goals
            refine SatD.sk 18 rfl [] hD ?_
            refine SatD.sk 19 rfl [] hD ?_
            refine SatD.sk 20 rfl [] hD ?_
            refine SatD.sk 21 rfl [] hD ?_
            refine SatD.tk 22 rfl hD (fun _ hw => RunV.pick_t rfl rfl) ?_
            refine SatD.tk 23 rfl hD (fun _ hw => RunV.move rfl) ?_
            refine SatD.sk 24 rfl [] hD ?_
            refine SatD.sk 25 rfl [] hD ?_
            refine SatD.sk 26 rfl [] hD ?_
            refine SatD.sk 27 rfl [] hD ?_
            refine SatD.sk 28 rfl [] hD ?_
            refine SatD.sk 29 rfl [] hD ?_
            refine SatD.sk 30 rfl [] hD ?_
            refine SatD.sk 31 rfl [] hD ?_
            refine SatD.sk 32 rfl [] hD ?_
            refine SatD.sk 33 rfl [] hD ?_
            refine SatD.sk 34 rfl [] hD ?_
            refine SatD.sk 35 rfl [] hD ?_
            refine SatD.tk 36 rfl hD (fun _ hw => RunV.pick_t rfl rfl) ?_
            refine SatD.done 0 (by kernel_rfl) (SatE.thenC ?_)
            clear hD
            refine SatC.weak (e' := [(1, _), (2, _), (6, _), (7, _), (63, _)]) (by repeat constructor) ?_
            refine SatC.cond_t rfl ?_
            refine SatC.seq ?_
            refine SatC.region ?_
            refine SatL.pu (RunV.assign rfl) rfl ?_
            refine SatL.nil (SatE.thenC ?_)
            refine SatC.ret (SatE.blk_ret (SatE.then_ret (SatE.then_ret (SatE.blk_ret (SatE.then_ret ?_)))))
            refine SatE.ret1 rfl rfl ?_
            first
            | exact ⟨true, rfl, ⟨fun _ => ⟨by omega, fun j hj => hok j (by omega)⟩, fun _ => rfl⟩, hS⟩
            | exact ⟨false, rfl, ⟨fun h => (by cases h), fun h => absurd h (may_not hy (not_ok hy hz (.inl (by assumption))))⟩, hS.sel (by repeat constructor)⟩
            | exact ⟨false, rfl, ⟨fun h => (by cases h), fun h => absurd h (may_not hy (not_ok hy hz (.inr (.inl (by assumption)))))⟩, hS.sel (by repeat constructor)⟩
            | exact ⟨false, rfl, ⟨fun h => (by cases h), fun h => absurd h (may_not hy (not_ok hy hz (.inr (.inr (.inl (by omega))))))⟩, hS.sel (by repeat constructor)⟩
            | exact ⟨false, rfl, ⟨fun h => (by cases h), fun h => absurd h (may_not hy (not_ok hy hz (.inr (.inr (.inr (.inl (by omega)))))))⟩, hS.sel (by repeat constructor)⟩
            | exact ⟨false, rfl, ⟨fun h => (by cases h), fun h => absurd h (may_not hy (not_ok hy hz (.inr (.inr (.inr (.inr ⟨by omega, by assumption⟩))))))⟩, hS.sel (by repeat constructor)⟩
          · (try simp only [cx, ne_eq] at h5)
            try (exfalso; (first | omega | exact h5 trivial | contradiction | (first | omega | exact h5 rfl | (simp at h5; done))); done)
            all_goals
            first | refine SatD.tk 18 rfl hD (fun _ hw => RunV.fieldAddrL rfl rfl rfl) ?_ | refine SatD.tk 18 rfl hD (fun _ hw => RunV.fieldAddr rfl rfl rfl) ?_
            refine SatD.tk 19 rfl hD (fun _ hw => RunV.load1 hw rfl rfl (by repeat constructor) rfl) ?_
            refine SatD.tk 20 rfl hD (fun _ hw => RunV.move rfl) ?_
            refine SatD.tk 21 rfl hD (fun _ hw => RunV.gtr rfl rfl) ?_
            refine SatD.tk 22 rfl hD (fun _ hw => RunV.pick_f rfl rfl) ?_
            refine SatD.tk 23 rfl hD (fun _ hw => RunV.move rfl) ?_
            refine SatD.ways 50 rfl (fun h6 => ?_) (fun h6 => ?_)
            · (try simp only [cx, ne_eq] at h6)
              try (exfalso; (first | omega | exact h6 trivial | contradiction | (first | omega | exact h6 rfl | (simp at h6; done))); done)
              all_goals
              refine SatD.sk 24 rfl [] hD ?_
              refine SatD.sk 25 rfl [] hD ?_
              refine SatD.sk 26 rfl [] hD ?_
              refine SatD.sk 27 rfl [] hD ?_
              refine SatD.sk 28 rfl [] hD ?_
              refine SatD.sk 29 rfl [] hD ?_
              refine SatD.sk 30 rfl [] hD ?_
              refine SatD.sk 31 rfl [] hD ?_
              refine SatD.sk 32 rfl [] hD ?_
              refine SatD.sk 33 rfl [] hD ?_
              refine SatD.sk 34 rfl [] hD ?_
              refine SatD.sk 35 rfl [] hD ?_
              refine SatD.tk 36 rfl hD (fun _ hw => RunV.pick_t rfl rfl) ?_
              refine SatD.done 0 (by kernel_rfl) (SatE.thenC ?_)
              clear hD
              refine SatC.weak (e' := [(1, _), (2, _), (6, _), (7, _), (63, _)]) (by repeat constructor) ?_
              refine SatC.cond_t rfl ?_
              refine SatC.seq ?_
              refine SatC.region ?_
              refine SatL.pu (RunV.assign rfl) rfl ?_
              refine SatL.nil (SatE.thenC ?_)
              refine SatC.ret (SatE.blk_ret (SatE.then_ret (SatE.then_ret (SatE.blk_ret (SatE.then_ret ?_)))))
              refine SatE.ret1 rfl rfl ?_
              first
              | exact ⟨true, rfl, ⟨fun _ => ⟨by omega, fun j hj => hok j (by omega)⟩, fun _ => rfl⟩, hS⟩
              | exact ⟨false, rfl, ⟨fun h => (by cases h), fun h => absurd h (may_not hy (not_ok hy hz (.inl (by assumption))))⟩, hS.sel (by repeat constructor)⟩
              | exact ⟨false, rfl, ⟨fun h => (by cases h), fun h => absurd h (may_not hy (not_ok hy hz (.inr (.inl (by assumption)))))⟩, hS.sel (by repeat constructor)⟩
              | exact ⟨false, rfl, ⟨fun h => (by cases h), fun h => absurd h (may_not hy (not_ok hy hz (.inr (.inr (.inl (by omega))))))⟩, hS.sel (by repeat constructor)⟩
              | exact ⟨false, rfl, ⟨fun h => (by cases h), fun h => absurd h (may_not hy (not_ok hy hz (.inr (.inr (.inr (.inl (by omega)))))))⟩, hS.sel (by repeat constructor)⟩
              | exact ⟨false, rfl, ⟨fun h => (by cases h), fun h => absurd h (may_not hy (not_ok hy hz (.inr (.inr (.inr (.inr ⟨by omega, by assumption⟩))))))⟩, hS.sel (by repeat constructor)⟩
            · (try simp only [cx, ne_eq] at h6)
              try (exfalso; (first | omega | exact h6 trivial | contradiction | (first | omega | exact h6 rfl | (simp at h6; done))); done)
              all_goals
              refine SatD.tk 24 rfl hD (fun _ hw => RunV.move rfl) ?_
              refine SatD.tk 25 rfl hD (fun _ hw => RunV.gtr rfl rfl) ?_
              refine SatD.tk 26 rfl hD (fun _ hw => RunV.move rfl) ?_
              refine SatD.ways 53 rfl (fun h7 => ?_) (fun h7 => ?_)
              · (try simp only [cx, ne_eq] at h7)
                try (exfalso; (first | omega | exact h7 trivial | contradiction | (first | omega | exact h7 rfl | (simp at h7; done))); done)
                all_goals
                refine SatD.tk 27 rfl hD (fun _ hw => RunV.move rfl) ?_
                refine SatD.tk 28 rfl hD (fun _ hw => RunV.move rfl) ?_
                refine SatD.tk 29 rfl hD (fun _ hw => RunV.sub (r := ((k - 1 : Nat) : Int)) rfl rfl (by rw [wrapI64 (by omega)]; omega)) ?_
                refine SatD.tk 30 rfl hD (fun _ hw => RunV.indexR hv0 rfl rfl rfl (by omega) (by omega) rfl) ?_
                refine SatD.tk 31 rfl hD (fun _ hw => RunV.loadRNz (hrd.st (hw.sel (by repeat constructor)) List.not_mem_nil) rfl rfl (map_get hz)) ?_
                refine SatD.tk 32 rfl hD (fun _ hw => RunV.loadN hw rfl rfl (by repeat constructor) (by repeat constructor)) ?_
                refine SatD.ef 33 rfl (OpW.enter rfl rfl rfl (rfl) (ahead_any z y _) ?_)
                rintro r8 w8 ⟨rfl, h⟩
                replace hS := St.callN hS h
                refine keepS (hS.sel (by repeat constructor)) (fun hD => ?_)
                refine SatD.tk 34 rfl hD (fun _ hw => RunV.not rfl) ?_
                refine SatD.tk 35 rfl hD (fun _ hw => RunV.pick_t rfl rfl) ?_
                refine SatD.tk 36 rfl hD (fun _ hw => RunV.pick_f rfl rfl) ?_
                refine SatD.done 0 (by kernel_rfl) (SatE.thenC ?_)
                clear hD
                refine SatC.weak (e' := [(1, _), (2, _), (6, _), (7, _), (63, _)]) (by repeat constructor) ?_
                refine SatC.cond rfl (fun h8 => ?_) (fun h8 => ?_)
                · (try simp only [cx, ne_eq] at h8)
                  try (exfalso; (first | omega | exact h8 trivial | contradiction | (first | omega | exact h8 rfl | (simp at h8; done))); done)
                  all_goals
                  refine SatC.seq ?_
                  refine SatC.region ?_
                  refine SatL.pu (RunV.assign rfl) rfl ?_
                  refine SatL.nil (SatE.thenC ?_)
                  refine SatC.ret (SatE.blk_ret (SatE.then_ret (SatE.then_ret (SatE.blk_ret (SatE.then_ret ?_)))))
                  refine SatE.ret1 rfl rfl ?_
                  first
                  | exact ⟨true, rfl, ⟨fun _ => ⟨by omega, fun j hj => hok j (by omega)⟩, fun _ => rfl⟩, hS⟩
                  | exact ⟨false, rfl, ⟨fun h => (by cases h), fun h => absurd h (may_not hy (not_ok hy hz (.inl (by assumption))))⟩, hS.sel (by repeat constructor)⟩
                  | exact ⟨false, rfl, ⟨fun h => (by cases h), fun h => absurd h (may_not hy (not_ok hy hz (.inr (.inl (by assumption)))))⟩, hS.sel (by repeat constructor)⟩
                  | exact ⟨false, rfl, ⟨fun h => (by cases h), fun h => absurd h (may_not hy (not_ok hy hz (.inr (.inr (.inl (by omega))))))⟩, hS.sel (by repeat constructor)⟩
                  | exact ⟨false, rfl, ⟨fun h => (by cases h), fun h => absurd h (may_not hy (not_ok hy hz (.inr (.inr (.inr (.inl (by omega)))))))⟩, hS.sel (by repeat constructor)⟩
                  | exact ⟨false, rfl, ⟨fun h => (by cases h), fun h => absurd h (may_not hy (not_ok hy hz (.inr (.inr (.inr (.inr ⟨by omega, by assumption⟩))))))⟩, hS.sel (by repeat constructor)⟩
                · (try simp only [cx, ne_eq] at h8)
                  try (exfalso; (first | omega | exact h8 trivial | contradiction | (first | omega | exact h8 rfl | (simp at h8; done))); done)
                  all_goals
                  refine SatC.skip (SatE.blk_normal (SatE.thenC ?_))
                  refine SatC.region ?_
                  refine SatL.pu (RunV.move rfl) rfl ?_
                  refine SatL.pu (RunV.add rfl rfl (by first | exact wrapI64 (by omega) | rfl)) rfl ?_
                  refine SatL.pu (RunV.assign rfl) rfl ?_
                  refine SatL.nil ?_
                  refine SatE.again (k + 1) ?_ (by first | omega | (dsimp only; omega)) (by repeat constructor)
                  exact ⟨by omega, fun j hj => by
                    by_cases e : j = k
                    · subst e
                      exact is_ok hy hz (by assumption) (by assumption) (by omega) (by omega) (by first | exact .inr (by assumption) | exact .inl (by omega))
                    · exact hok j (by omega), hS.sel (by repeat constructor)⟩
              · (try simp only [cx, ne_eq] at h7)
                try (exfalso; (first | omega | exact h7 trivial | contradiction | (first | omega | exact h7 rfl | (simp at h7; done))); done)
                all_goals
                refine SatD.sk 27 rfl [] hD ?_
                refine SatD.sk 28 rfl [] hD ?_
                refine SatD.sk 29 rfl [] hD ?_
                refine SatD.sk 30 rfl [] hD ?_
                refine SatD.sk 31 rfl [] hD ?_
                refine SatD.sk 32 rfl [] hD ?_
                refine SatD.sk 33 rfl [] hD ?_
                refine SatD.sk 34 rfl [] hD ?_
                refine SatD.tk 35 rfl hD (fun _ hw => RunV.pick_f rfl rfl) ?_
                refine SatD.tk 36 rfl hD (fun _ hw => RunV.pick_f rfl rfl) ?_
                refine SatD.done 0 (by kernel_rfl) (SatE.thenC ?_)
                clear hD
                refine SatC.weak (e' := [(1, _), (2, _), (6, _), (7, _), (63, _)]) (by repeat constructor) ?_
                refine SatC.cond_f rfl ?_
                refine SatC.skip (SatE.blk_normal (SatE.thenC ?_))
                refine SatC.region ?_
                refine SatL.pu (RunV.move rfl) rfl ?_
                refine SatL.pu (RunV.add rfl rfl (by first | exact wrapI64 (by omega) | rfl)) rfl ?_
                refine SatL.pu (RunV.assign rfl) rfl ?_
                refine SatL.nil ?_
                refine SatE.again (k + 1) ?_ (by first | omega | (dsimp only; omega)) (by repeat constructor)
                exact ⟨by omega, fun j hj => by
                  by_cases e : j = k
                  · subst e
                    exact is_ok hy hz (by assumption) (by assumption) (by omega) (by omega) (by first | exact .inr (by assumption) | exact .inl (by omega))
                  · exact hok j (by omega), hS.sel (by repeat constructor)⟩
    · (try simp only [cx, ne_eq] at h2)
      try (exfalso; (first | omega | exact h2 trivial | contradiction | (first | omega | exact h2 rfl | (simp at h2; done))); done)
      all_goals
      refine SatC.exit (SatE.then_exit (SatE.then_exit (SatE.blk_exit (SatE.thenC ?_))))
      refine SatC.seq ?_
      refine SatC.region ?_
      refine SatL.pu (RunV.assign rfl) rfl ?_
      refine SatL.nil (SatE.thenC ?_)
      refine SatC.ret ?_
      refine SatE.ret1 rfl rfl ?_
      first
      | exact ⟨true, rfl, ⟨fun _ => ⟨by omega, fun j hj => hok j (by omega)⟩, fun _ => rfl⟩, hS⟩
      | exact ⟨false, rfl, ⟨fun h => (by cases h), fun h => absurd h (may_not hy (not_ok hy hz (.inl (by assumption))))⟩, hS.sel (by repeat constructor)⟩
      | exact ⟨false, rfl, ⟨fun h => (by cases h), fun h => absurd h (may_not hy (not_ok hy hz (.inr (.inl (by assumption)))))⟩, hS.sel (by repeat constructor)⟩
      | exact ⟨false, rfl, ⟨fun h => (by cases h), fun h => absurd h (may_not hy (not_ok hy hz (.inr (.inr (.inl (by omega))))))⟩, hS.sel (by repeat constructor)⟩
      | exact ⟨false, rfl, ⟨fun h => (by cases h), fun h => absurd h (may_not hy (not_ok hy hz (.inr (.inr (.inr (.inl (by omega)))))))⟩, hS.sel (by repeat constructor)⟩
      | exact ⟨false, rfl, ⟨fun h => (by cases h), fun h => absurd h (may_not hy (not_ok hy hz (.inr (.inr (.inr (.inr ⟨by omega, by assumption⟩))))))⟩, hS.sel (by repeat constructor)⟩
theorem pre_first {L : List Itn} {y z : Itn} {k : Nat} (hp : L.Pairwise fun a b => firstI a b = true) (hl : L.length = k + 1) (hz : L[k]? = some z) (h : firstI z y = true) : ∀ x ∈ L, firstI x y = true := by
  intro x hx
  obtain ⟨j, hj⟩ := List.getElem?_of_mem hx
  obtain ⟨hjl, hj⟩ := List.getElem?_eq_some_iff.1 hj
  obtain ⟨hkl, hz⟩ := List.getElem?_eq_some_iff.1 hz
  by_cases e : j = k
  · subst e
    rw [← hj, hz]; exact h
  · have := List.pairwise_iff_getElem.1 hp j k hjl hkl (by omega)
    rw [hj, hz] at this
    exact Go.Sort.SWO.trans swo_firstI _ _ _ this h
theorem insI_end {x : Itn} : ∀ {L : List Itn}, (∀ y ∈ L, firstI y x = true) → insI x false L = L ++ [x]
  | [], _ => rfl
  | y :: ys, h => by
    rw [insI_lt (.inr (first_asym (h y List.mem_cons_self))), insI_end fun z hz => h z (List.mem_cons_of_mem _ hz)]
    rfl
theorem first_irr {x y : Itn} (h : x.s = y.s ∧ x.d = y.d) : firstI x y = false := by
  unfold firstI
  rw [if_pos (by unfold rankI; rw [h.1, h.2]), if_pos h.2, h.1]
  simp [lt_irr]
section
variable {most lk last : Int} {rows : List Tr} {l : List Itn} {k : Nat} {y : Itn}
theorem all_first (h : Rel rows (l.take k)) (hy : l[k]? = some y) (ho : OkAt last l k) : ∀ x ∈ l.take k, firstI x y = true := by
  have hkl := (List.getElem?_eq_some_iff.1 hy).1
  cases k with
  | zero => intro x hx; simp at hx
  | succ m =>
    obtain ⟨z, hz⟩ := get_some l m (by omega)
    refine pre_first h.sorted (k := m) (by rw [List.length_take]; omega) (by rw [List.getElem?_take_of_lt (by omega)]; exact hz) ((ho y hy).2.2.2.2 (by omega) z (by rw [Nat.add_sub_cancel]; exact hz))
theorem put_one (h : Rel rows (l.take k)) (hy : l[k]? = some y) (ho : OkAt last l k) (hl : (rows.length : Int) < most) :
    (putI most lk rows y.s y.d y.a y.m).1 = 0 ∧ Rel (putI most lk rows y.s y.d y.a y.m).2.1 (l.take k ++ [⟨y.s, y.d, y.a, y.m, y.m⟩]) ∧ (putI most lk rows y.s y.d y.a y.m).2.2 = max lk y.m := by
  have hf := all_first h hy ho
  have := putI_new (last := lk) (a := y.a) (ix := y.m) h (ho y hy).1 (ho y hy).2.1 (fun x hx e => by have := hf x hx; rw [first_irr e] at this; cases this) hl
  rwa [insI_end fun x hx => by
    have := hf x hx
    unfold firstI rankI at this ⊢
    exact this] at this
theorem put_two (h : Rel rows (l.take k ++ [⟨y.s, y.d, y.a, y.m, y.m⟩])) (hy : l[k]? = some y) (ho : OkAt last l k) :
    (putI most lk rows y.s y.d y.a y.x).1 = 0 ∧ Rel (putI most lk rows y.s y.d y.a y.x).2.1 (l.take (k + 1)) ∧ (putI most lk rows y.s y.d y.a y.x).2.2 = max lk y.x := by
  have hkl := (List.getElem?_eq_some_iff.1 hy).1
  have hx : (l.take k ++ [(⟨y.s, y.d, y.a, y.m, y.m⟩ : Itn)])[k]? = some ⟨y.s, y.d, y.a, y.m, y.m⟩ := by
    rw [List.getElem?_append_right (by rw [List.length_take]; omega), List.length_take, Nat.min_eq_left (by omega), Nat.sub_self]
    rfl
  have hz : turnI most lk rows y.s y.d y.a 0 y.x = putI most lk rows y.s y.d y.a y.x := by unfold turnI; rw [findI_yes h (List.mem_of_getElem? hx) (.inl rfl)]; rfl
  have := h.turn (most := most) (last := lk) (s := y.s) (d := y.d) (a := y.a) (old := 0) (ix := y.x) ⟨k, .inr ⟨(ho y hy).1, (ho y hy).2.1, .inr ⟨k, _, hx, rfl, rfl, .inr ⟨.inl rfl, rfl, rfl⟩⟩⟩, .inr ⟨rfl, ⟨k, _, rfl, hx, rfl⟩, rfl⟩⟩
  rw [hz] at this
  rwa [show (l.take k ++ [(⟨y.s, y.d, y.a, y.m, y.m⟩ : Itn)]).set k { (⟨y.s, y.d, y.a, y.m, y.m⟩ : Itn) with a := y.a, x := y.x } = l.take (k + 1) by
    rw [List.set_append_right _ _ (by rw [List.length_take]; omega), List.length_take, Nat.min_eq_left (by omega), Nat.sub_self, List.take_add_one, hy]
    rfl] at this
theorem put_full (h : Rel rows (l.take k)) (hy : l[k]? = some y) (ho : OkAt last l k) (hl : most ≤ (rows.length : Int)) : (putI most lk rows y.s y.d y.a y.m).1 = 5 := by
  have hf := all_first h hy ho
  have := (h.none (ho y hy).2.1 (fun x hx e => by have := hf x hx; rw [first_irr e] at this; cases this)).2
  unfold putI putS
  rw [this, if_pos ⟨rfl, hl⟩]
end
theorem or_zero {p : Int} {A X : Prop} (h : (p = 0 ∧ A) ∨ (p = 5 ∧ X)) (h0 : p = 0) : A := by
  rcases h with h | h
  · exact h.2
  · omega
theorem or_five {p : Int} {A X : Prop} (h : (p = 0 ∧ A) ∨ (p = 5 ∧ X)) (h0 : ¬ p = 0) : X := by
  rcases h with h | h
  · exact absurd h.1 h0
  · exact h.2
theorem load_any (n last : Int) (hlast : 0 ≤ last) (v : Value) (l : List Itn) (w : World) (hr : RdRow w v 5 (l.map ic)) :
    Ret Try.prog 19 #[.int .i64 n, v, .int .u64 last] w fun u w' => (¬ MayP (min (max n 1) 64) last l ∧ u = .tuple #[.pointer none, .int .i64 2] ∧ St w [] [] w') ∨
      (MayP (min (max n 1) 64) last l ∧ ∃ b0 b rows v' B, u = .tuple #[.pointer (some ⟨b0, 0, none⟩), .int .i64 0] ∧ Rel rows l ∧ Sl 77 8 v' (rows.map tr) B ∧ St w [] (IO b0 b (min (max n 1) 64) last v' B) w') := by
  obtain ⟨bb, oo, cc, hv0, hl, hrd, _⟩ := hr.open
  rw [List.length_map] at hv0 hl
  have hS := St.init0 w
  refine Ret.enter Try.func19 Try.ntmps19 rfl rfl ?_
  simp only [argEnv, Nat.reduceAdd]
  refine SatC.seq ?_
  refine SatC.region ?_
  refine SatL.pu (RunV.assign rfl) rfl ?_
  refine SatL.pu (RunV.assign rfl) rfl ?_
  refine SatL.nil (SatE.thenC ?_)
  refine SatC.seq ?_
  refine SatC.region ?_
  refine SatL.pu (RunV.move rfl) rfl ?_
  refine SatL.op rfl (OpW.enter rfl rfl rfl (rfl) (inew_any n _) ?_)
  rintro r1 w1 ⟨b0, b, rfl, h⟩
  replace hS := hS.callT (A := []) (by repeat constructor) h
  refine SatL.pu (RunV.assign rfl) rfl ?_
  refine SatL.nil (SatE.thenC ?_)
  refine SatC.seq ?_
  refine SatC.seq ?_
  refine SatC.region ?_
  refine SatL.pu (RunV.move rfl) rfl ?_
  refine SatL.pu (RunV.lenR hv0 rfl rfl) rfl ?_
  refine SatL.pu (RunV.move rfl) rfl ?_
  refine SatL.nil (SatE.thenC ?_)
  refine SatC.block ?_
  refine SatC.loopK (G := Nat × Int × List Tr × Value × List (Nat × Obj)) (V := fun ⟨k, lk, rows, v1, B1⟩ => [(15, .int .i64 (k : Int))]) (Cn := [(1, _), (2, _), (8, _), (13, _), (14, _), (6, _), (7, _)]) (I := fun ⟨k, lk, rows, v1, B1⟩ w' => k ≤ l.length ∧ (∀ j, j < k → OkAt last l j) ∧ Rel rows (l.take k) ∧ (rows.length : Int) ≤ min (max n 1) 64 ∧ lk ≤ last ∧ Sl 77 8 v1 (rows.map tr) B1 ∧ St w [] (IO b0 b (min (max n 1) 64) lk v1 B1) w') (μ := fun ⟨k, lk, rows, v1, B1⟩ => l.length - k) (0, 0, [], .slice none 0 0, []) ?_ (by repeat constructor) ?_
  · exact ⟨by omega, fun j h => by omega, rel_nil, by simp; omega, hlast, .nil, hS.sel (by repeat constructor)⟩
  clear hS
  rintro ⟨k, lk, rows, v1, B1⟩ w2 ⟨hk, hok, hrel, hlen, hlk, hsl, hS⟩
  have hL := hrel.len
  rw [List.length_take] at hL
  refine SatC.weak (e' := [(1, _), (2, _), (6, _), (7, _), (8, _), (13, _), (14, _), (15, _)]) (by repeat constructor) ?_
  refine SatC.seq ?_
  refine SatC.region ?_
  refine SatL.pu (RunV.lss rfl rfl) rfl ?_
  refine SatL.nil (SatE.thenC ?_)
  refine SatC.seq ?_
  refine SatC.cond rfl (fun h1 => ?_) (fun h1 => ?_)
  · (try simp only [cx, ne_eq] at h1)
    try (exfalso; (first | omega | exact h1 trivial | contradiction | (first | omega | exact h1 rfl | (simp at h1; done))); done)
    all_goals
    refine SatC.skip (SatE.thenC ?_)
    refine SatC.seq ?_
    refine SatC.block ?_
    refine SatC.seq ?_
    obtain ⟨y, hy⟩ := get_some l k (by omega)
    obtain ⟨z, hz⟩ := get_some l (k - 1) (by omega)
    refine SatC.region ?_
    refine SatL.pu (RunV.move rfl) rfl ?_
    refine SatL.pu (RunV.indexR hv0 rfl rfl rfl (by omega) (by omega) rfl) rfl ?_
    refine SatL.pu (RunV.loadRNz (hrd.st (hS.sel (by repeat constructor)) List.not_mem_nil) rfl rfl (map_get hy)) rfl ?_
    refine SatL.op rfl (OpW.alloc hS rfl rfl (by repeat constructor) ?_)
    clear hS
    intro b10 w3 _ hS
    refine SatL.pu (RunV.assign rfl) rfl ?_
    refine SatL.op rfl (OpW.store hS rfl rfl (by repeat constructor) (by repeat constructor) (by repeat constructor) rfl rfl ?_)
    clear hS
    intro w4 hS
    refine SatL.nil (SatE.thenC ?_)
    refine SatC.merge (G := Nat) (V := fun q => [(6, .pointer none), (7, .int .i64 0)]) (Cn := [(1, _), (2, _), (8, _), (10, _), (13, _), (14, _), (15, _)]) (I := fun q w' => OkAt last l k ∧ St w [] ((b10, C 28 [str y.s, str y.d, .bool y.a, .int .u64 y.m, .int .u64 y.x]) :: IO b0 b (min (max n 1) 64) lk v1 B1) w') (by repeat constructor) ?_ ?_
    · skip
      refine SatC.seq ?_
      refine SatC.drawnT 37 hS (hS) (by kernel_rfl) ?_
      clear hS
      intro w5 hh hS hD
      first | refine SatD.tk 0 rfl hD (fun _ hw => RunV.fieldAddrL rfl rfl rfl) ?_ | refine SatD.tk 0 rfl hD (fun _ hw => RunV.fieldAddr rfl rfl rfl) ?_
      refine SatD.tk 1 rfl hD (fun _ hw => RunV.load1 hw rfl rfl (by repeat constructor) rfl) ?_
      refine SatD.ef 2 rfl (OpW.enter rfl rfl rfl (rfl) (pat_any _ _) ?_)
      rintro r6 w6 ⟨rfl, h⟩
      replace hS := St.callN hS h
      refine keepS (hS.sel (by repeat constructor)) (fun hD => ?_)
      refine SatD.tk 3 rfl hD (fun _ hw => RunV.not rfl) ?_
      refine SatD.tk 4 rfl hD (fun _ hw => RunV.move rfl) ?_
      refine SatD.ways 24 rfl (fun h2 => ?_) (fun h2 => ?_)
      · (try simp only [cx, ne_eq] at h2)
        try (exfalso; (first | omega | exact h2 trivial | contradiction | (first | omega | exact h2 rfl | (simp at h2; done))); done)
        all_goals
        refine SatD.sk 5 rfl [] hD ?_
        refine SatD.sk 6 rfl [] hD ?_
        refine SatD.sk 7 rfl [] hD ?_
        refine SatD.sk 8 rfl [] hD ?_
        refine SatD.tk 9 rfl hD (fun _ hw => RunV.pick_t rfl rfl) ?_
        refine SatD.tk 10 rfl hD (fun _ hw => RunV.move rfl) ?_
        refine SatD.sk 11 rfl [] hD ?_
        refine SatD.sk 12 rfl [] hD ?_
        refine SatD.sk 13 rfl [] hD ?_
        refine SatD.sk 14 rfl [] hD ?_
        refine SatD.sk 15 rfl [] hD ?_
        refine SatD.tk 16 rfl hD (fun _ hw => RunV.pick_t rfl rfl) ?_
        refine SatD.tk 17 rfl hD (fun _ hw => RunV.move rfl) ?_
        refine SatD.sk 18 rfl [] hD ?_
        refine SatD.sk 19 rfl [] hD ?_
        refine SatD.sk 20 rfl [] hD ?_
        refine SatD.sk 21 rfl [] hD ?_
        refine SatD.tk 22 rfl hD (fun _ hw => RunV.pick_t rfl rfl) ?_
        refine SatD.tk 23 rfl hD (fun _ hw => RunV.move rfl) ?_
        refine SatD.sk 24 rfl [] hD ?_
        refine SatD.sk 25 rfl [] hD ?_
        refine SatD.sk 26 rfl [] hD ?_
        refine SatD.sk 27 rfl [] hD ?_
        refine SatD.sk 28 rfl [] hD ?_
        refine SatD.sk 29 rfl [] hD ?_
        refine SatD.sk 30 rfl [] hD ?_
        refine SatD.sk 31 rfl [] hD ?_
        refine SatD.sk 32 rfl [] hD ?_
        refine SatD.sk 33 rfl [] hD ?_
        refine SatD.sk 34 rfl [] hD ?_
        refine SatD.sk 35 rfl [] hD ?_
        refine SatD.tk 36 rfl hD (fun _ hw => RunV.pick_t rfl rfl) ?_
        refine SatD.done 0 (by kernel_rfl) (SatE.thenC ?_)
        clear hD
        refine SatC.weak (e' := [(1, _), (2, _), (6, _), (7, _), (8, _), (10, _), (13, _), (14, _), (15, _), (56, _)]) (by repeat constructor) ?_
        refine SatC.cond_t rfl ?_
        refine SatC.seq ?_
        refine SatC.region ?_
        refine SatL.pu (RunV.assign rfl) rfl ?_
        refine SatL.pu (RunV.assign rfl) rfl ?_
        refine SatL.nil (SatE.thenC ?_)
        refine SatC.ret (SatE.then_ret (SatE.blk_ret (SatE.then_ret (SatE.then_ret (SatE.blk_ret (SatE.then_ret ?_))))))
        refine SatE.ret2 rfl rfl rfl ?_
        first
        | exact .inl ⟨may_not hy (not_ok hy hz (.inl (by assumption))), rfl, hS.sel (by repeat constructor)⟩
        | exact .inl ⟨may_not hy (not_ok hy hz (.inr (.inl (by assumption)))), rfl, hS.sel (by repeat constructor)⟩
        | exact .inl ⟨may_not hy (not_ok hy hz (.inr (.inr (.inl (by omega))))), rfl, hS.sel (by repeat constructor)⟩
        | exact .inl ⟨may_not hy (not_ok hy hz (.inr (.inr (.inr (.inl (by omega)))))), rfl, hS.sel (by repeat constructor)⟩
        | exact .inl ⟨may_not hy (not_ok hy hz (.inr (.inr (.inr (.inr ⟨by omega, by assumption⟩))))), rfl, hS.sel (by repeat constructor)⟩
        | exact .inl ⟨or_five hP2 (by assumption), rfl, hS.sel (by repeat constructor)⟩
        | (rw [List.take_of_length_le (by omega)] at hrel
           rw [Int.max_eq_right hlk] at hS
           have hL2 := hrel.len
           exact .inr ⟨⟨by omega, fun j hj => hok j (by omega)⟩, b0, b, rows, v1, B1, rfl, hrel, hsl, hS.sel (by repeat constructor)⟩)
      · (try simp only [cx, ne_eq] at h2)
        try (exfalso; (first | omega | exact h2 trivial | contradiction | (first | omega | exact h2 rfl | (simp at h2; done))); done)
        all_goals
        first | refine SatD.tk 5 rfl hD (fun _ hw => RunV.fieldAddrL rfl rfl rfl) ?_ | refine SatD.tk 5 rfl hD (fun _ hw => RunV.fieldAddr rfl rfl rfl) ?_
        refine SatD.tk 6 rfl hD (fun _ hw => RunV.load1 hw rfl rfl (by repeat constructor) rfl) ?_
        refine SatD.ef 7 rfl (OpW.enter rfl rfl rfl (rfl) (pat_any _ _) ?_)
        rintro r7 w7 ⟨rfl, h⟩
        replace hS := St.callN hS h
        refine keepS (hS.sel (by repeat constructor)) (fun hD => ?_)
        refine SatD.tk 8 rfl hD (fun _ hw => RunV.not rfl) ?_
        refine SatD.tk 9 rfl hD (fun _ hw => RunV.pick_f rfl rfl) ?_
        refine SatD.tk 10 rfl hD (fun _ hw => RunV.move rfl) ?_
        refine SatD.ways 30 rfl (fun h3 => ?_) (fun h3 => ?_)
        · (try simp only [cx, ne_eq] at h3)
          try (exfalso; (first | omega | exact h3 trivial | contradiction | (first | omega | exact h3 rfl | (simp at h3; done))); done)
          all_goals
          refine SatD.sk 11 rfl [] hD ?_
          refine SatD.sk 12 rfl [] hD ?_
          refine SatD.sk 13 rfl [] hD ?_
          refine SatD.sk 14 rfl [] hD ?_
          refine SatD.sk 15 rfl [] hD ?_
          refine SatD.tk 16 rfl hD (fun _ hw => RunV.pick_t rfl rfl) ?_
          refine SatD.tk 17 rfl hD (fun _ hw => RunV.move rfl) ?_
          refine SatD.sk 18 rfl [] hD ?_
          refine SatD.sk 19 rfl [] hD ?_
          refine SatD.sk 20 rfl [] hD ?_
          refine SatD.sk 21 rfl [] hD ?_
          refine SatD.tk 22 rfl hD (fun _ hw => RunV.pick_t rfl rfl) ?_
          refine SatD.tk 23 rfl hD (fun _ hw => RunV.move rfl) ?_
          refine SatD.sk 24 rfl [] hD ?_
          refine SatD.sk 25 rfl [] hD ?_
          refine SatD.sk 26 rfl [] hD ?_
          refine SatD.sk 27 rfl [] hD ?_
          refine SatD.sk 28 rfl [] hD ?_
          refine SatD.sk 29 rfl [] hD ?_
          refine SatD.sk 30 rfl [] hD ?_
          refine SatD.sk 31 rfl [] hD ?_
          refine SatD.sk 32 rfl [] hD ?_
          refine SatD.sk 33 rfl [] hD ?_
          refine SatD.sk 34 rfl [] hD ?_
          refine SatD.sk 35 rfl [] hD ?_
          refine SatD.tk 36 rfl hD (fun _ hw => RunV.pick_t rfl rfl) ?_
          refine SatD.done 0 (by kernel_rfl) (SatE.thenC ?_)
          clear hD
          refine SatC.weak (e' := [(1, _), (2, _), (6, _), (7, _), (8, _), (10, _), (13, _), (14, _), (15, _), (56, _)]) (by repeat constructor) ?_
          refine SatC.cond_t rfl ?_
          refine SatC.seq ?_
          refine SatC.region ?_
          refine SatL.pu (RunV.assign rfl) rfl ?_
          refine SatL.pu (RunV.assign rfl) rfl ?_
          refine SatL.nil (SatE.thenC ?_)
          refine SatC.ret (SatE.then_ret (SatE.blk_ret (SatE.then_ret (SatE.then_ret (SatE.blk_ret (SatE.then_ret ?_))))))
          refine SatE.ret2 rfl rfl rfl ?_
          first
          | exact .inl ⟨may_not hy (not_ok hy hz (.inl (by assumption))), rfl, hS.sel (by repeat constructor)⟩
          | exact .inl ⟨may_not hy (not_ok hy hz (.inr (.inl (by assumption)))), rfl, hS.sel (by repeat constructor)⟩
          | exact .inl ⟨may_not hy (not_ok hy hz (.inr (.inr (.inl (by omega))))), rfl, hS.sel (by repeat constructor)⟩
          | exact .inl ⟨may_not hy (not_ok hy hz (.inr (.inr (.inr (.inl (by omega)))))), rfl, hS.sel (by repeat constructor)⟩
          | exact .inl ⟨may_not hy (not_ok hy hz (.inr (.inr (.inr (.inr ⟨by omega, by assumption⟩))))), rfl, hS.sel (by repeat constructor)⟩
          | exact .inl ⟨or_five hP2 (by assumption), rfl, hS.sel (by repeat constructor)⟩
          | (rw [List.take_of_length_le (by omega)] at hrel
             rw [Int.max_eq_right hlk] at hS
             have hL2 := hrel.len
             exact .inr ⟨⟨by omega, fun j hj => hok j (by omega)⟩, b0, b, rows, v1, B1, rfl, hrel, hsl, hS.sel (by repeat constructor)⟩)
        · (try simp only [cx, ne_eq] at h3)
          try (exfalso; (first | omega | exact h3 trivial | contradiction | (first | omega | exact h3 rfl | (simp at h3; done))); done)
          all_goals
          first | refine SatD.tk 11 rfl hD (fun _ hw => RunV.fieldAddrL rfl rfl rfl) ?_ | refine SatD.tk 11 rfl hD (fun _ hw => RunV.fieldAddr rfl rfl rfl) ?_
          refine SatD.tk 12 rfl hD (fun _ hw => RunV.load1 hw rfl rfl (by repeat constructor) rfl) ?_
          first | refine SatD.tk 13 rfl hD (fun _ hw => RunV.fieldAddrL rfl rfl rfl) ?_ | refine SatD.tk 13 rfl hD (fun _ hw => RunV.fieldAddr rfl rfl rfl) ?_
          refine SatD.tk 14 rfl hD (fun _ hw => RunV.load1 hw rfl rfl (by repeat constructor) rfl) ?_
          refine SatD.tk 15 rfl hD (fun _ hw => RunV.gtr rfl rfl) ?_
          refine SatD.tk 16 rfl hD (fun _ hw => RunV.pick_f rfl rfl) ?_
          refine SatD.tk 17 rfl hD (fun _ hw => RunV.move rfl) ?_
          refine SatD.ways 37 rfl (fun h4 => ?_) (fun h4 => ?_)
          · (try simp only [cx, ne_eq] at h4)
            try (exfalso; (first | omega | exact h4 trivial | contradiction | (first | omega | exact h4 rfl | (simp at h4; done))); done)
            all_goals
            refine SatD.sk 18 rfl [] hD ?_
            refine SatD.sk 19 rfl [] hD ?_
            refine SatD.sk 20 rfl [] hD ?_
            refine SatD.sk 21 rfl [] hD ?_
            refine SatD.tk 22 rfl hD (fun _ hw => RunV.pick_t rfl rfl) ?_
            refine SatD.tk 23 rfl hD (fun _ hw => RunV.move rfl) ?_
            refine SatD.sk 24 rfl [] hD ?_
            refine SatD.sk 25 rfl [] hD ?_
            refine SatD.sk 26 rfl [] hD ?_
            refine SatD.sk 27 rfl [] hD ?_
            refine SatD.sk 28 rfl [] hD ?_
            refine SatD.sk 29 rfl [] hD ?_
            refine SatD.sk 30 rfl [] hD ?_
            refine SatD.sk 31 rfl [] hD ?_
            refine SatD.sk 32 rfl [] hD ?_
            refine SatD.sk 33 rfl [] hD ?_
            refine SatD.sk 34 rfl [] hD ?_
            refine SatD.sk 35 rfl [] hD ?_
            refine SatD.tk 36 rfl hD (fun _ hw => RunV.pick_t rfl rfl) ?_
            refine SatD.done 0 (by kernel_rfl) (SatE.thenC ?_)
            clear hD
            refine SatC.weak (e' := [(1, _), (2, _), (6, _), (7, _), (8, _), (10, _), (13, _), (14, _), (15, _), (56, _)]) (by repeat constructor) ?_
            refine SatC.cond_t rfl ?_
            refine SatC.seq ?_
            refine SatC.region ?_
            refine SatL.pu (RunV.assign rfl) rfl ?_
            refine SatL.pu (RunV.assign rfl) rfl ?_
            refine SatL.nil (SatE.thenC ?_)
            refine SatC.ret (SatE.then_ret (SatE.blk_ret (SatE.then_ret (SatE.then_ret (SatE.blk_ret (SatE.then_ret ?_))))))
            refine SatE.ret2 rfl rfl rfl ?_
            first
            | exact .inl ⟨may_not hy (not_ok hy hz (.inl (by assumption))), rfl, hS.sel (by repeat constructor)⟩
            | exact .inl ⟨may_not hy (not_ok hy hz (.inr (.inl (by assumption)))), rfl, hS.sel (by repeat constructor)⟩
            | exact .inl ⟨may_not hy (not_ok hy hz (.inr (.inr (.inl (by omega))))), rfl, hS.sel (by repeat constructor)⟩
            | exact .inl ⟨may_not hy (not_ok hy hz (.inr (.inr (.inr (.inl (by omega)))))), rfl, hS.sel (by repeat constructor)⟩
            | exact .inl ⟨may_not hy (not_ok hy hz (.inr (.inr (.inr (.inr ⟨by omega, by assumption⟩))))), rfl, hS.sel (by repeat constructor)⟩
            | exact .inl ⟨or_five hP2 (by assumption), rfl, hS.sel (by repeat constructor)⟩
            | (rw [List.take_of_length_le (by omega)] at hrel
               rw [Int.max_eq_right hlk] at hS
               have hL2 := hrel.len
               exact .inr ⟨⟨by omega, fun j hj => hok j (by omega)⟩, b0, b, rows, v1, B1, rfl, hrel, hsl, hS.sel (by repeat constructor)⟩)
          · (try simp only [cx, ne_eq] at h4)
            try (exfalso; (first | omega | exact h4 trivial | contradiction | (first | omega | exact h4 rfl | (simp at h4; done))); done)
            all_goals
            first | refine SatD.tk 18 rfl hD (fun _ hw => RunV.fieldAddrL rfl rfl rfl) ?_ | refine SatD.tk 18 rfl hD (fun _ hw => RunV.fieldAddr rfl rfl rfl) ?_
            refine SatD.tk 19 rfl hD (fun _ hw => RunV.load1 hw rfl rfl (by repeat constructor) rfl) ?_
            refine SatD.tk 20 rfl hD (fun _ hw => RunV.move rfl) ?_
            refine SatD.tk 21 rfl hD (fun _ hw => RunV.gtr rfl rfl) ?_
            refine SatD.tk 22 rfl hD (fun _ hw => RunV.pick_f rfl rfl) ?_
            refine SatD.tk 23 rfl hD (fun _ hw => RunV.move rfl) ?_
            refine SatD.ways 43 rfl (fun h5 => ?_) (fun h5 => ?_)
            · (try simp only [cx, ne_eq] at h5)
              try (exfalso; (first | omega | exact h5 trivial | contradiction | (first | omega | exact h5 rfl | (simp at h5; done))); done)
              all_goals
              refine SatD.sk 24 rfl [] hD ?_
              refine SatD.sk 25 rfl [] hD ?_
              refine SatD.sk 26 rfl [] hD ?_
              refine SatD.sk 27 rfl [] hD ?_
              refine SatD.sk 28 rfl [] hD ?_
              refine SatD.sk 29 rfl [] hD ?_
              refine SatD.sk 30 rfl [] hD ?_
              refine SatD.sk 31 rfl [] hD ?_
              refine SatD.sk 32 rfl [] hD ?_
              refine SatD.sk 33 rfl [] hD ?_
              refine SatD.sk 34 rfl [] hD ?_
              refine SatD.sk 35 rfl [] hD ?_
              refine SatD.tk 36 rfl hD (fun _ hw => RunV.pick_t rfl rfl) ?_
              refine SatD.done 0 (by kernel_rfl) (SatE.thenC ?_)
              clear hD
              refine SatC.weak (e' := [(1, _), (2, _), (6, _), (7, _), (8, _), (10, _), (13, _), (14, _), (15, _), (56, _)]) (by repeat constructor) ?_
              refine SatC.cond_t rfl ?_
              refine SatC.seq ?_
              refine SatC.region ?_
              refine SatL.pu (RunV.assign rfl) rfl ?_
              refine SatL.pu (RunV.assign rfl) rfl ?_
              refine SatL.nil (SatE.thenC ?_)
              refine SatC.ret (SatE.then_ret (SatE.blk_ret (SatE.then_ret (SatE.then_ret (SatE.blk_ret (SatE.then_ret ?_))))))
              refine SatE.ret2 rfl rfl rfl ?_
              first
              | exact .inl ⟨may_not hy (not_ok hy hz (.inl (by assumption))), rfl, hS.sel (by repeat constructor)⟩
              | exact .inl ⟨may_not hy (not_ok hy hz (.inr (.inl (by assumption)))), rfl, hS.sel (by repeat constructor)⟩
              | exact .inl ⟨may_not hy (not_ok hy hz (.inr (.inr (.inl (by omega))))), rfl, hS.sel (by repeat constructor)⟩
              | exact .inl ⟨may_not hy (not_ok hy hz (.inr (.inr (.inr (.inl (by omega)))))), rfl, hS.sel (by repeat constructor)⟩
              | exact .inl ⟨may_not hy (not_ok hy hz (.inr (.inr (.inr (.inr ⟨by omega, by assumption⟩))))), rfl, hS.sel (by repeat constructor)⟩
              | exact .inl ⟨or_five hP2 (by assumption), rfl, hS.sel (by repeat constructor)⟩
              | (rw [List.take_of_length_le (by omega)] at hrel
                 rw [Int.max_eq_right hlk] at hS
                 have hL2 := hrel.len
                 exact .inr ⟨⟨by omega, fun j hj => hok j (by omega)⟩, b0, b, rows, v1, B1, rfl, hrel, hsl, hS.sel (by repeat constructor)⟩)
            · (try simp only [cx, ne_eq] at h5)
              try (exfalso; (first | omega | exact h5 trivial | contradiction | (first | omega | exact h5 rfl | (simp at h5; done))); done)
              all_goals
              refine SatD.tk 24 rfl hD (fun _ hw => RunV.move rfl) ?_
              refine SatD.tk 25 rfl hD (fun _ hw => RunV.gtr rfl rfl) ?_
              refine SatD.tk 26 rfl hD (fun _ hw => RunV.move rfl) ?_
              refine SatD.ways 46 rfl (fun h6 => ?_) (fun h6 => ?_)
              · (try simp only [cx, ne_eq] at h6)
                try (exfalso; (first | omega | exact h6 trivial | contradiction | (first | omega | exact h6 rfl | (simp at h6; done))); done)
                all_goals
                refine SatD.tk 27 rfl hD (fun _ hw => RunV.move rfl) ?_
                refine SatD.tk 28 rfl hD (fun _ hw => RunV.move rfl) ?_
                refine SatD.tk 29 rfl hD (fun _ hw => RunV.sub (r := ((k - 1 : Nat) : Int)) rfl rfl (by rw [wrapI64 (by omega)]; omega)) ?_
                refine SatD.tk 30 rfl hD (fun _ hw => RunV.indexR hv0 rfl rfl rfl (by omega) (by omega) rfl) ?_
                refine SatD.tk 31 rfl hD (fun _ hw => RunV.loadRNz (hrd.st (hw.sel (by repeat constructor)) List.not_mem_nil) rfl rfl (map_get hz)) ?_
                refine SatD.tk 32 rfl hD (fun _ hw => RunV.loadN hw rfl rfl (by repeat constructor) (by repeat constructor)) ?_
                refine SatD.ef 33 rfl (OpW.enter rfl rfl rfl (rfl) (first_any z y _) ?_)
                rintro r8 w8 ⟨rfl, h⟩
                replace hS := St.callN hS h
                refine keepS (hS.sel (by repeat constructor)) (fun hD => ?_)
                refine SatD.tk 34 rfl hD (fun _ hw => RunV.not rfl) ?_
                refine SatD.tk 35 rfl hD (fun _ hw => RunV.pick_t rfl rfl) ?_
                refine SatD.tk 36 rfl hD (fun _ hw => RunV.pick_f rfl rfl) ?_
                refine SatD.done 0 (by kernel_rfl) (SatE.thenC ?_)
                clear hD
                refine SatC.weak (e' := [(1, _), (2, _), (6, _), (7, _), (8, _), (10, _), (13, _), (14, _), (15, _), (56, _)]) (by repeat constructor) ?_
                refine SatC.cond rfl (fun h7 => ?_) (fun h7 => ?_)
                · (try simp only [cx, ne_eq] at h7)
                  try (exfalso; (first | omega | exact h7 trivial | contradiction | (first | omega | exact h7 rfl | (simp at h7; done))); done)
                  all_goals
                  refine SatC.seq ?_
                  refine SatC.region ?_
                  refine SatL.pu (RunV.assign rfl) rfl ?_
                  refine SatL.pu (RunV.assign rfl) rfl ?_
                  refine SatL.nil (SatE.thenC ?_)
                  refine SatC.ret (SatE.then_ret (SatE.blk_ret (SatE.then_ret (SatE.then_ret (SatE.blk_ret (SatE.then_ret ?_))))))
                  refine SatE.ret2 rfl rfl rfl ?_
                  first
                  | exact .inl ⟨may_not hy (not_ok hy hz (.inl (by assumption))), rfl, hS.sel (by repeat constructor)⟩
                  | exact .inl ⟨may_not hy (not_ok hy hz (.inr (.inl (by assumption)))), rfl, hS.sel (by repeat constructor)⟩
                  | exact .inl ⟨may_not hy (not_ok hy hz (.inr (.inr (.inl (by omega))))), rfl, hS.sel (by repeat constructor)⟩
                  | exact .inl ⟨may_not hy (not_ok hy hz (.inr (.inr (.inr (.inl (by omega)))))), rfl, hS.sel (by repeat constructor)⟩
                  | exact .inl ⟨may_not hy (not_ok hy hz (.inr (.inr (.inr (.inr ⟨by omega, by assumption⟩))))), rfl, hS.sel (by repeat constructor)⟩
                  | exact .inl ⟨or_five hP2 (by assumption), rfl, hS.sel (by repeat constructor)⟩
                  | (rw [List.take_of_length_le (by omega)] at hrel
                     rw [Int.max_eq_right hlk] at hS
                     have hL2 := hrel.len
                     exact .inr ⟨⟨by omega, fun j hj => hok j (by omega)⟩, b0, b, rows, v1, B1, rfl, hrel, hsl, hS.sel (by repeat constructor)⟩)
                · (try simp only [cx, ne_eq] at h7)
                  try (exfalso; (first | omega | exact h7 trivial | contradiction | (first | omega | exact h7 rfl | (simp at h7; done))); done)
                  all_goals
                  refine SatC.skip ?_
                  refine SatE.met (0) ?_ (by repeat constructor)
                  exact ⟨is_ok hy hz (by assumption) (by assumption) (by omega) (by omega) (by first | exact .inr (by assumption) | exact .inl (by omega)), hS⟩
              · (try simp only [cx, ne_eq] at h6)
                try (exfalso; (first | omega | exact h6 trivial | contradiction | (first | omega | exact h6 rfl | (simp at h6; done))); done)
                all_goals
                refine SatD.sk 27 rfl [] hD ?_
                refine SatD.sk 28 rfl [] hD ?_
                refine SatD.sk 29 rfl [] hD ?_
                refine SatD.sk 30 rfl [] hD ?_
                refine SatD.sk 31 rfl [] hD ?_
                refine SatD.sk 32 rfl [] hD ?_
                refine SatD.sk 33 rfl [] hD ?_
                refine SatD.sk 34 rfl [] hD ?_
                refine SatD.tk 35 rfl hD (fun _ hw => RunV.pick_f rfl rfl) ?_
                refine SatD.tk 36 rfl hD (fun _ hw => RunV.pick_f rfl rfl) ?_
                refine SatD.done 0 (by kernel_rfl) (SatE.thenC ?_)
                clear hD
                refine SatC.weak (e' := [(1, _), (2, _), (6, _), (7, _), (8, _), (10, _), (13, _), (14, _), (15, _), (56, _)]) (by repeat constructor) ?_
                refine SatC.cond_f rfl ?_
                refine SatC.skip ?_
                refine SatE.met (0) ?_ (by repeat constructor)
                exact ⟨is_ok hy hz (by assumption) (by assumption) (by omega) (by omega) (by first | exact .inr (by assumption) | exact .inl (by omega)), hS⟩
    · clear hS
      rintro q w65 ⟨hoy, hS⟩
      have h24 := pat_len (hoy y hy).1
      have h24' := pat_len (hoy y hy).2.1
      obtain ⟨P, hP⟩ : ∃ P, putI (min (max n 1) 64) lk rows y.s y.d y.a y.m = P := ⟨_, rfl⟩
      have hP2 : (P.1 = 0 ∧ Rel P.2.1 (l.take k ++ [⟨y.s, y.d, y.a, y.m, y.m⟩]) ∧ P.2.2 = max lk y.m) ∨ (P.1 = 5 ∧ ¬ MayP (min (max n 1) 64) last l) := by
        by_cases hfull : (rows.length : Int) < min (max n 1) 64
        · exact .inl (hP ▸ put_one hrel hy hoy hfull)
        · exact .inr ⟨hP ▸ put_full hrel hy hoy (by omega), fun hm => by have := hm.1; omega⟩
      refine SatC.weak (e' := [(1, _), (2, _), (6, _), (7, _), (8, _), (10, _), (13, _), (14, _), (15, _)]) (by repeat constructor) ?_
      refine SatC.seq ?_
      refine SatC.region ?_
      refine SatL.pu (RunV.move rfl) rfl ?_
      first | refine SatL.pu (RunV.fieldAddrL rfl rfl rfl) rfl ?_ | refine SatL.pu (RunV.fieldAddr rfl rfl rfl) rfl ?_
      refine SatL.pu (RunV.load1 hS rfl rfl (by repeat constructor) rfl) rfl ?_
      first | refine SatL.pu (RunV.fieldAddrL rfl rfl rfl) rfl ?_ | refine SatL.pu (RunV.fieldAddr rfl rfl rfl) rfl ?_
      refine SatL.pu (RunV.load1 hS rfl rfl (by repeat constructor) rfl) rfl ?_
      first | refine SatL.pu (RunV.fieldAddrL rfl rfl rfl) rfl ?_ | refine SatL.pu (RunV.fieldAddr rfl rfl rfl) rfl ?_
      refine SatL.pu (RunV.load1 hS rfl rfl (by repeat constructor) rfl) rfl ?_
      first | refine SatL.pu (RunV.fieldAddrL rfl rfl rfl) rfl ?_ | refine SatL.pu (RunV.fieldAddr rfl rfl rfl) rfl ?_
      refine SatL.pu (RunV.load1 hS rfl rfl (by repeat constructor) rfl) rfl ?_
      refine SatL.op rfl (OpW.enter rfl rfl rfl (rfl) (iput_any y.s y.d y.a y.m h24 h24' hrel.asc (by omega) hsl (by omega) (hS.ownT (A := IO b0 b (min (max n 1) 64) lk v1 B1) (by repeat constructor))) ?_)
      rintro r66 w66 ⟨rfl, v2, B2, hsl2, h⟩
      replace hS := hS.callT (A := IO b0 b (min (max n 1) 64) lk v1 B1) (by repeat constructor) h
      rw [hP] at hsl2 hS ⊢
      refine SatL.pu (RunV.neq rfl rfl) rfl ?_
      refine SatL.pu (RunV.move rfl) rfl ?_
      refine SatL.guard rfl rfl rfl (fun h2 => ?_) (fun h2 => ?_)
      · (try simp only [cx, ne_eq] at h2)
        try (exfalso; (first | omega | exact h2 trivial | contradiction | (first | omega | exact h2 rfl | (simp at h2; done))); done)
        all_goals
        refine SatL.pu (RunV.move rfl) rfl ?_
        refine SatL.guard_y rfl rfl ?_
        first | refine SatL.pu (RunV.fieldAddrL rfl rfl rfl) rfl ?_ | refine SatL.pu (RunV.fieldAddr rfl rfl rfl) rfl ?_
        refine SatL.guard_y rfl rfl ?_
        refine SatL.pu (RunV.load1 hS rfl rfl (by repeat constructor) rfl) rfl ?_
        refine SatL.guard_y rfl rfl ?_
        first | refine SatL.pu (RunV.fieldAddrL rfl rfl rfl) rfl ?_ | refine SatL.pu (RunV.fieldAddr rfl rfl rfl) rfl ?_
        refine SatL.guard_y rfl rfl ?_
        refine SatL.pu (RunV.load1 hS rfl rfl (by repeat constructor) rfl) rfl ?_
        refine SatL.guard_y rfl rfl ?_
        first | refine SatL.pu (RunV.fieldAddrL rfl rfl rfl) rfl ?_ | refine SatL.pu (RunV.fieldAddr rfl rfl rfl) rfl ?_
        refine SatL.guard_y rfl rfl ?_
        refine SatL.pu (RunV.load1 hS rfl rfl (by repeat constructor) rfl) rfl ?_
        refine SatL.guard_y rfl rfl ?_
        first | refine SatL.pu (RunV.fieldAddrL rfl rfl rfl) rfl ?_ | refine SatL.pu (RunV.fieldAddr rfl rfl rfl) rfl ?_
        refine SatL.guard_y rfl rfl ?_
        refine SatL.pu (RunV.load1 hS rfl rfl (by repeat constructor) rfl) rfl ?_
        refine SatL.guard_y rfl rfl ?_
        refine SatL.op rfl (OpW.enter rfl rfl rfl (rfl) (iput_any y.s y.d y.a y.x h24 h24' (or_zero hP2 (by assumption)).1.asc (by omega) hsl2 (by have := (or_zero hP2 (by assumption)).1.len; rw [List.length_append, List.length_take, List.length_singleton] at this; omega) (hS.ownT (A := IO b0 b (min (max n 1) 64) P.2.2 v2 B2) (by repeat constructor))) ?_)
        rintro r67 w67 ⟨rfl, v3, B3, hsl3, h⟩
        replace hS := hS.callT (A := IO b0 b (min (max n 1) 64) P.2.2 v2 B2) (by repeat constructor) h
        obtain ⟨q0, q3'⟩ := or_zero hP2 (by assumption)
        obtain ⟨q1, q2, q3⟩ := put_two (most := min (max n 1) 64) (lk := P.2.2) q0 hy hoy
        rw [q1]
        refine SatL.guard_y rfl rfl ?_
        refine SatL.pu (RunV.neq rfl rfl) rfl ?_
        refine SatL.pu (RunV.pick_f rfl rfl) rfl ?_
        refine SatL.nil (SatE.thenC ?_)
        refine SatC.weak (e' := [(1, _), (2, _), (6, _), (7, _), (8, _), (13, _), (14, _), (15, _), (80, _)]) (by repeat constructor) ?_
        refine SatC.cond rfl (fun h3 => ?_) (fun h3 => ?_)
        · (try simp only [cx, ne_eq] at h3)
          try (exfalso; (first | omega | exact h3 trivial | contradiction | (first | omega | exact h3 rfl | (simp at h3; done))); done)
          all_goals
          refine SatC.seq ?_
          refine SatC.region ?_
          refine SatL.pu (RunV.assign rfl) rfl ?_
          refine SatL.pu (RunV.assign rfl) rfl ?_
          refine SatL.nil (SatE.thenC ?_)
          refine SatC.ret (SatE.blk_ret (SatE.then_ret (SatE.then_ret (SatE.blk_ret (SatE.then_ret ?_)))))
          refine SatE.ret2 rfl rfl rfl ?_
          first
          | exact .inl ⟨may_not hy (not_ok hy hz (.inl (by assumption))), rfl, hS.sel (by repeat constructor)⟩
          | exact .inl ⟨may_not hy (not_ok hy hz (.inr (.inl (by assumption)))), rfl, hS.sel (by repeat constructor)⟩
          | exact .inl ⟨may_not hy (not_ok hy hz (.inr (.inr (.inl (by omega))))), rfl, hS.sel (by repeat constructor)⟩
          | exact .inl ⟨may_not hy (not_ok hy hz (.inr (.inr (.inr (.inl (by omega)))))), rfl, hS.sel (by repeat constructor)⟩
          | exact .inl ⟨may_not hy (not_ok hy hz (.inr (.inr (.inr (.inr ⟨by omega, by assumption⟩))))), rfl, hS.sel (by repeat constructor)⟩
          | exact .inl ⟨or_five hP2 (by assumption), rfl, hS.sel (by repeat constructor)⟩
          | (rw [List.take_of_length_le (by omega)] at hrel
             rw [Int.max_eq_right hlk] at hS
             have hL2 := hrel.len
             exact .inr ⟨⟨by omega, fun j hj => hok j (by omega)⟩, b0, b, rows, v1, B1, rfl, hrel, hsl, hS.sel (by repeat constructor)⟩)
        · (try simp only [cx, ne_eq] at h3)
          try (exfalso; (first | omega | exact h3 trivial | contradiction | (first | omega | exact h3 rfl | (simp at h3; done))); done)
          all_goals
          refine SatC.skip (SatE.blk_normal (SatE.thenC ?_))
          refine SatC.region ?_
          refine SatL.pu (RunV.add rfl rfl (by first | exact wrapI64 (by omega) | rfl)) rfl ?_
          refine SatL.pu (RunV.move rfl) rfl ?_
          refine SatL.nil ?_
          refine SatE.again ((k + 1, (putI (min (max n 1) 64) P.2.2 P.2.1 y.s y.d y.a y.x).2.2, (putI (min (max n 1) 64) P.2.2 P.2.1 y.s y.d y.a y.x).2.1, v3, B3)) ?_ (by first | omega | (dsimp only; omega)) (by repeat constructor)
          refine ⟨by omega, fun j hj => ?_, q2, ?_, ?_, hsl3, hS.sel (by repeat constructor)⟩
          · by_cases e : j = k
            · subst e; exact hoy
            · exact hok j (by omega)
          · have e1 := q0.len
            have e2 := q2.len
            have e3 := len_putS (most := min (max n 1) 64) (last := P.2.2) (x := ⟨y.s, y.d, y.a, 0, 0⟩) (ix := y.x) (key := keyI y.s y.d) q0.asc
            exact e3 (by
              have e4 := len_putS (most := min (max n 1) 64) (last := lk) (x := ⟨y.s, y.d, y.a, 0, 0⟩) (ix := y.m) (key := keyI y.s y.d) hrel.asc hlen
              rw [← hP]
              exact e4)
          · have e5 := hoy y hy
            rw [q3, q3']
            omega
      · (try simp only [cx, ne_eq] at h2)
        try (exfalso; (first | omega | exact h2 trivial | contradiction | (first | omega | exact h2 rfl | (simp at h2; done))); done)
        all_goals
        refine SatL.guard_n rfl rfl rfl rfl ?_
        refine SatL.guard_n rfl rfl rfl rfl ?_
        refine SatL.guard_n rfl rfl rfl rfl ?_
        refine SatL.guard_n rfl rfl rfl rfl ?_
        refine SatL.guard_n rfl rfl rfl rfl ?_
        refine SatL.guard_n rfl rfl rfl rfl ?_
        refine SatL.guard_n rfl rfl rfl rfl ?_
        refine SatL.guard_n rfl rfl rfl rfl ?_
        refine SatL.guard_n rfl rfl rfl rfl ?_
        refine SatL.guard_n rfl rfl rfl rfl ?_
        refine SatL.pu (RunV.pick_t rfl rfl) rfl ?_
        refine SatL.nil (SatE.thenC ?_)
        refine SatC.weak (e' := [(1, _), (2, _), (6, _), (7, _), (8, _), (13, _), (14, _), (15, _), (80, _)]) (by repeat constructor) ?_
        refine SatC.cond_t rfl ?_
        refine SatC.seq ?_
        refine SatC.region ?_
        refine SatL.pu (RunV.assign rfl) rfl ?_
        refine SatL.pu (RunV.assign rfl) rfl ?_
        refine SatL.nil (SatE.thenC ?_)
        refine SatC.ret (SatE.blk_ret (SatE.then_ret (SatE.then_ret (SatE.blk_ret (SatE.then_ret ?_)))))
        refine SatE.ret2 rfl rfl rfl ?_
        first
        | exact .inl ⟨may_not hy (not_ok hy hz (.inl (by assumption))), rfl, hS.sel (by repeat constructor)⟩
        | exact .inl ⟨may_not hy (not_ok hy hz (.inr (.inl (by assumption)))), rfl, hS.sel (by repeat constructor)⟩
        | exact .inl ⟨may_not hy (not_ok hy hz (.inr (.inr (.inl (by omega))))), rfl, hS.sel (by repeat constructor)⟩
        | exact .inl ⟨may_not hy (not_ok hy hz (.inr (.inr (.inr (.inl (by omega)))))), rfl, hS.sel (by repeat constructor)⟩
        | exact .inl ⟨may_not hy (not_ok hy hz (.inr (.inr (.inr (.inr ⟨by omega, by assumption⟩))))), rfl, hS.sel (by repeat constructor)⟩
        | exact .inl ⟨or_five hP2 (by assumption), rfl, hS.sel (by repeat constructor)⟩
        | (rw [List.take_of_length_le (by omega)] at hrel
           rw [Int.max_eq_right hlk] at hS
           have hL2 := hrel.len
           exact .inr ⟨⟨by omega, fun j hj => hok j (by omega)⟩, b0, b, rows, v1, B1, rfl, hrel, hsl, hS.sel (by repeat constructor)⟩)
  · (try simp only [cx, ne_eq] at h1)
    try (exfalso; (first | omega | exact h1 trivial | contradiction | (first | omega | exact h1 rfl | (simp at h1; done))); done)
    all_goals
    refine SatC.exit (SatE.then_exit (SatE.then_exit (SatE.blk_exit (SatE.thenC ?_))))
    refine SatC.seq ?_
    refine SatC.region ?_
    refine SatL.pu (RunV.move rfl) rfl ?_
    first | refine SatL.pu (RunV.nil_ptr rfl) rfl ?_ | refine SatL.pu (RunV.nil_func rfl) rfl ?_ | refine SatL.pu (RunV.nil_yield rfl) rfl ?_
    first | refine SatL.pu (RunV.fieldAddrL rfl rfl rfl) rfl ?_ | refine SatL.pu (RunV.fieldAddr rfl rfl rfl) rfl ?_
    refine SatL.pu (RunV.load1 hS rfl rfl (by repeat constructor) rfl) rfl ?_
    refine SatL.pu (RunV.move rfl) rfl ?_
    refine SatL.op rfl (OpW.enter rfl rfl rfl (rfl) (raise_any last (hS.ownT (A := (b, C 94 (tc (min (max n 1) 64) v1 lk)) :: B1) (by repeat constructor)) (by omega)) ?_)
    rintro r3 w3 ⟨rfl, h⟩
    replace hS := hS.callT (A := (b, C 94 (tc (min (max n 1) 64) v1 lk)) :: B1) (by repeat constructor) h
    refine SatL.nil (SatE.thenC ?_)
    refine SatC.seq ?_
    refine SatC.weak (e' := [(6, _), (7, _), (8, _)]) (by repeat constructor) ?_
    refine SatC.region ?_
    refine SatL.pu (RunV.move rfl) rfl ?_
    refine SatL.pu (RunV.assign rfl) rfl ?_
    refine SatL.pu (RunV.assign rfl) rfl ?_
    refine SatL.nil (SatE.thenC ?_)
    refine SatC.ret ?_
    refine SatE.ret2 rfl rfl rfl ?_
    first
    | exact .inl ⟨may_not hy (not_ok hy hz (.inl (by assumption))), rfl, hS.sel (by repeat constructor)⟩
    | exact .inl ⟨may_not hy (not_ok hy hz (.inr (.inl (by assumption)))), rfl, hS.sel (by repeat constructor)⟩
    | exact .inl ⟨may_not hy (not_ok hy hz (.inr (.inr (.inl (by omega))))), rfl, hS.sel (by repeat constructor)⟩
    | exact .inl ⟨may_not hy (not_ok hy hz (.inr (.inr (.inr (.inl (by omega)))))), rfl, hS.sel (by repeat constructor)⟩
    | exact .inl ⟨may_not hy (not_ok hy hz (.inr (.inr (.inr (.inr ⟨by omega, by assumption⟩))))), rfl, hS.sel (by repeat constructor)⟩
    | exact .inl ⟨or_five hP2 (by assumption), rfl, hS.sel (by repeat constructor)⟩
    | (rw [List.take_of_length_le (by omega)] at hrel
       rw [Int.max_eq_right hlk] at hS
       have hL2 := hrel.len
       exact .inr ⟨⟨by omega, fun j hj => hok j (by omega)⟩, b0, b, rows, v1, B1, rfl, hrel, hsl, hS.sel (by repeat constructor)⟩)
theorem load_yes {n last : Int} {v : Value} {l : List Itn} {w : World} (hlast : 0 ≤ last) (hr : RdRow w v 5 (l.map ic)) (hM : MayP (min (max n 1) 64) last l) :
    Ret Try.prog 19 #[.int .i64 n, v, .int .u64 last] w fun u w' => ∃ b0 b rows v' B, u = .tuple #[.pointer (some ⟨b0, 0, none⟩), .int .i64 0] ∧ Rel rows l ∧ Sl 77 8 v' (rows.map tr) B ∧ St w [] (IO b0 b (min (max n 1) 64) last v' B) w' := by
  refine Ret.mono (load_any n last hlast v l w hr) ?_
  rintro u w' (⟨h, _⟩ | ⟨_, h⟩)
  · exact absurd hM h
  · exact h
theorem load_no {n last : Int} {v : Value} {l : List Itn} {w : World} (hlast : 0 ≤ last) (hr : RdRow w v 5 (l.map ic)) (hM : ¬ MayP (min (max n 1) 64) last l) :
    Ret Try.prog 19 #[.int .i64 n, v, .int .u64 last] w fun u w' => u = .tuple #[.pointer none, .int .i64 2] ∧ St w [] [] w' := by
  refine Ret.mono (load_any n last hlast v l w hr) ?_
  rintro u w' (⟨_, h⟩ | ⟨h, _⟩)
  · exact h
  · exact absurd h hM
theorem loads_yes (n last : Int) (hlast : 0 ≤ last) (v : Value) (l : List Itn) (w : World) (hr : RdRow w v 5 (l.map ic)) (hM : MayP (min (max n 1) 64) last l) : Ret Try.prog 7 #[.int .i64 n, v, .int .u64 last] w fun u w' => u = .bool true ∧ St w [] [] w' := by
  have hS := St.init0 w
  refine Ret.enter Try.func7 Try.ntmps7 rfl rfl ?_
  simp only [argEnv, Nat.reduceAdd]
  refine SatC.seq ?_
  refine SatC.region ?_
  refine SatL.pu (RunV.assign rfl) rfl ?_
  refine SatL.nil (SatE.thenC ?_)
  refine SatC.seq ?_
  refine SatC.region ?_
  refine SatL.pu (RunV.move rfl) rfl ?_
  refine SatL.pu (RunV.move rfl) rfl ?_
  refine SatL.pu (RunV.move rfl) rfl ?_
  refine SatL.op rfl (OpW.enter rfl rfl rfl (rfl) (load_yes hlast hr hM) ?_)
  rintro r1 w1 ⟨b0, b, rows, v1, B1, rfl, hrel, hsl, h⟩
  replace hS := hS.call0 h
  have hL := hrel.len
  have hMl := hM.1
  refine SatL.pu (RunV.move rfl) rfl ?_
  refine SatL.pu (RunV.extract rfl rfl) rfl ?_
  refine SatL.pu (RunV.extract rfl rfl) rfl ?_
  refine SatL.pu (RunV.assign rfl) rfl ?_
  refine SatL.pu (RunV.assign rfl) rfl ?_
  refine SatL.nil (SatE.thenC ?_)
  refine SatC.seq ?_
  refine SatC.seq ?_
  refine SatC.region ?_
  refine SatL.pu (RunV.move rfl) rfl ?_
  refine SatL.pu (RunV.move rfl) rfl ?_
  refine SatL.pu (RunV.move rfl) rfl ?_
  refine SatL.op rfl (OpW.enter rfl rfl rfl (rfl) (may_any n last v l _ (hr.st (hS.sel (by repeat constructor)))) ?_)
  rintro r2 w2 ⟨q, rfl, hq, h⟩
  replace hS := St.callN hS h
  obtain rfl := hq.2 hM
  refine SatL.pu (RunV.not rfl) rfl ?_
  refine SatL.nil (SatE.thenC ?_)
  refine SatC.weak (e' := [(1, _), (2, _), (6, _), (7, _), (8, _), (20, _)]) (by repeat constructor) ?_
  refine SatC.cond rfl (fun h1 => ?_) (fun h1 => ?_)
  · (try simp only [cx, ne_eq] at h1)
    try (exfalso; (first | omega | exact h1 trivial | contradiction | (first | omega | exact h1 rfl | (simp at h1; done))); done)
    all_goals
    refine SatC.seq ?_
    refine SatC.region ?_
    refine SatL.pu (RunV.move rfl) rfl ?_
    refine SatL.pu (RunV.eql rfl rfl) rfl ?_
    refine SatL.pu (RunV.move rfl) rfl ?_
    refine SatL.guard rfl rfl rfl (fun h2 => ?_) (fun h2 => ?_)
    · (try simp only [cx, ne_eq] at h2)
      try (exfalso; (first | omega | exact h2 trivial | contradiction | (first | omega | exact h2 rfl | (simp at h2; done))); done)
      all_goals
      refine SatL.pu (RunV.move rfl) rfl ?_
      refine SatL.guard_y rfl rfl ?_
      refine SatL.pu (RunV.eqlPtrNil rfl rfl rfl) rfl ?_
      refine SatL.pu (RunV.pick_t rfl rfl) rfl ?_
      refine SatL.pu (RunV.move rfl) rfl ?_
      refine SatL.guard rfl rfl rfl (fun h3 => ?_) (fun h3 => ?_)
      · (try simp only [cx, ne_eq] at h3)
        try (exfalso; (first | omega | exact h3 trivial | contradiction | (first | omega | exact h3 rfl | (simp at h3; done))); done)
        all_goals
        refine SatL.op rfl (OpW.enter rfl rfl rfl (rfl) (works_any _) ?_)
        rintro r3 w3 ⟨rfl, h⟩
        replace hS := St.callN hS h
        refine SatL.pu (RunV.pick_t rfl rfl) rfl ?_
        refine SatL.pu (RunV.assign rfl) rfl ?_
        refine SatL.nil (SatE.thenC ?_)
        refine SatC.ret (SatE.then_ret ?_)
        refine SatE.ret1 rfl rfl ?_
        exact ⟨rfl, hS.sel (R := []) (by repeat constructor)⟩
      · (try simp only [cx, ne_eq] at h3)
        try (exfalso; (first | omega | exact h3 trivial | contradiction | (first | omega | exact h3 rfl | (simp at h3; done))); done)
        all_goals
        refine SatL.pu (RunV.pick_f rfl rfl) rfl ?_
        refine SatL.pu (RunV.assign rfl) rfl ?_
        refine SatL.nil (SatE.thenC ?_)
        refine SatC.ret (SatE.then_ret ?_)
        refine SatE.ret1 rfl rfl ?_
        exact ⟨rfl, hS.sel (R := []) (by repeat constructor)⟩
    · (try simp only [cx, ne_eq] at h2)
      try (exfalso; (first | omega | exact h2 trivial | contradiction | (first | omega | exact h2 rfl | (simp at h2; done))); done)
      all_goals
      refine SatL.guard_n rfl rfl rfl rfl ?_
      refine SatL.pu (RunV.pick_f rfl rfl) rfl ?_
      refine SatL.pu (RunV.move rfl) rfl ?_
      refine SatL.guard_n rfl rfl rfl rfl ?_
      refine SatL.pu (RunV.pick_f rfl rfl) rfl ?_
      refine SatL.pu (RunV.assign rfl) rfl ?_
      refine SatL.nil (SatE.thenC ?_)
      refine SatC.ret (SatE.then_ret ?_)
      refine SatE.ret1 rfl rfl ?_
      exact ⟨rfl, hS.sel (R := []) (by repeat constructor)⟩
  · (try simp only [cx, ne_eq] at h1)
    try (exfalso; (first | omega | exact h1 trivial | contradiction | (first | omega | exact h1 rfl | (simp at h1; done))); done)
    all_goals
    refine SatC.skip (SatE.thenC ?_)
    refine SatC.seq ?_
    refine SatC.region ?_
    refine SatL.pu (RunV.move rfl) rfl ?_
    refine SatL.pu (RunV.eql rfl rfl) rfl ?_
    refine SatL.pu (RunV.move rfl) rfl ?_
    refine SatL.guard rfl rfl rfl (fun h2 => ?_) (fun h2 => ?_)
    · (try simp only [cx, ne_eq] at h2)
      try (exfalso; (first | omega | exact h2 trivial | contradiction | (first | omega | exact h2 rfl | (simp at h2; done))); done)
      all_goals
      refine SatL.pu (RunV.move rfl) rfl ?_
      refine SatL.guard_y rfl rfl ?_
      refine SatL.op rfl (OpW.enter rfl rfl rfl (rfl) (ilist_any (by omega) hsl (by omega) (hS.ownT (A := IO b0 b (min (max n 1) 64) last v1 B1) (by repeat constructor))) ?_)
      rintro r3 w3 ⟨ds, B2, hq1, hq2, hsl2, h⟩
      replace hS := hS.call0 h
      rw [hrel.list ⟨hq1, hq2⟩] at hsl2
      refine SatL.guard_y rfl rfl ?_
      refine SatL.pu (RunV.move rfl) rfl ?_
      refine SatL.guard_y rfl rfl ?_
      refine SatL.op rfl (OpW.enter rfl rfl rfl (rfl) (same_any _ _ l l _ (hsl2.row hS (by repeat constructor) (by rw [List.length_map]; omega)) (hr.st (hS.sel (by repeat constructor)))) ?_)
      rintro r4 w4 ⟨rfl, h⟩
      replace hS := St.callN hS h
      refine SatL.pu (RunV.pick_t rfl rfl) rfl ?_
      refine SatL.pu (RunV.move rfl) rfl ?_
      refine SatL.guard rfl rfl rfl (fun h3 => ?_) (fun h3 => ?_)
      · (try simp only [cx, ne_eq] at h3)
        try (exfalso; (first | omega | exact h3 trivial | contradiction | (first | omega | exact h3 rfl | (simp at h3; done))); done)
        all_goals
        refine SatL.pu (RunV.move rfl) rfl ?_
        refine SatL.guard_y rfl rfl ?_
        refine SatL.op rfl (OpW.enter rfl rfl rfl (rfl) (ilast_any (by omega) (hS.ownT (A := IO b0 b (min (max n 1) 64) last v1 B1) (by repeat constructor))) ?_)
        rintro r5 w5 ⟨rfl, h⟩
        replace hS := St.callN hS h
        refine SatL.guard_y rfl rfl ?_
        refine SatL.pu (RunV.move rfl) rfl ?_
        refine SatL.guard_y rfl rfl ?_
        refine SatL.pu (RunV.eql rfl rfl) rfl ?_
        refine SatL.pu (RunV.pick_t rfl rfl) rfl ?_
        refine SatL.pu (RunV.move rfl) rfl ?_
        refine SatL.guard rfl rfl rfl (fun h4 => ?_) (fun h4 => ?_)
        · (try simp only [cx, ne_eq] at h4)
          try (exfalso; (first | omega | exact h4 trivial | contradiction | (first | omega | exact h4 rfl | (simp at h4; done))); done)
          all_goals
          refine SatL.op rfl (OpW.enter rfl rfl rfl (rfl) (works_any _) ?_)
          rintro r6 w6 ⟨rfl, h⟩
          replace hS := St.callN hS h
          refine SatL.pu (RunV.pick_t rfl rfl) rfl ?_
          refine SatL.pu (RunV.assign rfl) rfl ?_
          refine SatL.nil (SatE.thenC ?_)
          refine SatC.ret ?_
          refine SatE.ret1 rfl rfl ?_
          exact ⟨rfl, hS.sel (R := []) (by repeat constructor)⟩
        · (try simp only [cx, ne_eq] at h4)
          try (exfalso; (first | omega | exact h4 trivial | contradiction | (first | omega | exact h4 rfl | (simp at h4; done))); done)
          all_goals
          refine SatL.pu (RunV.pick_f rfl rfl) rfl ?_
          refine SatL.pu (RunV.assign rfl) rfl ?_
          refine SatL.nil (SatE.thenC ?_)
          refine SatC.ret ?_
          refine SatE.ret1 rfl rfl ?_
          exact ⟨rfl, hS.sel (R := []) (by repeat constructor)⟩
      · (try simp only [cx, ne_eq] at h3)
        try (exfalso; (first | omega | exact h3 trivial | contradiction | (first | omega | exact h3 rfl | (simp at h3; done))); done)
        all_goals
        refine SatL.guard_n rfl rfl rfl rfl ?_
        refine SatL.guard_n rfl rfl rfl rfl ?_
        refine SatL.guard_n rfl rfl rfl rfl ?_
        refine SatL.pu (RunV.pick_f rfl rfl) rfl ?_
        refine SatL.pu (RunV.move rfl) rfl ?_
        refine SatL.guard_n rfl rfl rfl rfl ?_
        refine SatL.pu (RunV.pick_f rfl rfl) rfl ?_
        refine SatL.pu (RunV.assign rfl) rfl ?_
        refine SatL.nil (SatE.thenC ?_)
        refine SatC.ret ?_
        refine SatE.ret1 rfl rfl ?_
        exact ⟨rfl, hS.sel (R := []) (by repeat constructor)⟩
    · (try simp only [cx, ne_eq] at h2)
      try (exfalso; (first | omega | exact h2 trivial | contradiction | (first | omega | exact h2 rfl | (simp at h2; done))); done)
      all_goals
      refine SatL.guard_n rfl rfl rfl rfl ?_
      refine SatL.guard_n rfl rfl rfl rfl ?_
      refine SatL.guard_n rfl rfl rfl rfl ?_
      refine SatL.pu (RunV.pick_f rfl rfl) rfl ?_
      refine SatL.pu (RunV.move rfl) rfl ?_
      refine SatL.guard_n rfl rfl rfl rfl ?_
      refine SatL.guard_n rfl rfl rfl rfl ?_
      refine SatL.guard_n rfl rfl rfl rfl ?_
      refine SatL.guard_n rfl rfl rfl rfl ?_
      refine SatL.pu (RunV.pick_f rfl rfl) rfl ?_
      refine SatL.pu (RunV.move rfl) rfl ?_
      refine SatL.guard_n rfl rfl rfl rfl ?_
      refine SatL.pu (RunV.pick_f rfl rfl) rfl ?_
      refine SatL.pu (RunV.assign rfl) rfl ?_
      refine SatL.nil (SatE.thenC ?_)
      refine SatC.ret ?_
      refine SatE.ret1 rfl rfl ?_
      exact ⟨rfl, hS.sel (R := []) (by repeat constructor)⟩
theorem loads_no (n last : Int) (hlast : 0 ≤ last) (v : Value) (l : List Itn) (w : World) (hr : RdRow w v 5 (l.map ic)) (hM : ¬ MayP (min (max n 1) 64) last l) : Ret Try.prog 7 #[.int .i64 n, v, .int .u64 last] w fun u w' => u = .bool true ∧ St w [] [] w' := by
  have hS := St.init0 w
  refine Ret.enter Try.func7 Try.ntmps7 rfl rfl ?_
  simp only [argEnv, Nat.reduceAdd]
  refine SatC.seq ?_
  refine SatC.region ?_
  refine SatL.pu (RunV.assign rfl) rfl ?_
  refine SatL.nil (SatE.thenC ?_)
  refine SatC.seq ?_
  refine SatC.region ?_
  refine SatL.pu (RunV.move rfl) rfl ?_
  refine SatL.pu (RunV.move rfl) rfl ?_
  refine SatL.pu (RunV.move rfl) rfl ?_
  refine SatL.op rfl (OpW.enter rfl rfl rfl (rfl) (load_no hlast hr hM) ?_)
  rintro r1 w1 ⟨rfl, h⟩
  replace hS := St.callN hS h
  refine SatL.pu (RunV.move rfl) rfl ?_
  refine SatL.pu (RunV.extract rfl rfl) rfl ?_
  refine SatL.pu (RunV.extract rfl rfl) rfl ?_
  refine SatL.pu (RunV.assign rfl) rfl ?_
  refine SatL.pu (RunV.assign rfl) rfl ?_
  refine SatL.nil (SatE.thenC ?_)
  refine SatC.seq ?_
  refine SatC.seq ?_
  refine SatC.region ?_
  refine SatL.pu (RunV.move rfl) rfl ?_
  refine SatL.pu (RunV.move rfl) rfl ?_
  refine SatL.pu (RunV.move rfl) rfl ?_
  refine SatL.op rfl (OpW.enter rfl rfl rfl (rfl) (may_any n last v l _ (hr.st hS)) ?_)
  rintro r2 w2 ⟨q, rfl, hq, h⟩
  replace hS := St.callN hS h
  obtain rfl : q = false := by cases q; rfl; exact absurd (hq.1 rfl) hM
  refine SatL.pu (RunV.not rfl) rfl ?_
  refine SatL.nil (SatE.thenC ?_)
  refine SatC.weak (e' := [(1, _), (2, _), (6, _), (7, _), (8, _), (20, _)]) (by repeat constructor) ?_
  refine SatC.cond rfl (fun h1 => ?_) (fun h1 => ?_)
  · (try simp only [cx, ne_eq] at h1)
    try (exfalso; (first | omega | exact h1 trivial | contradiction | (first | omega | exact h1 rfl | (simp at h1; done))); done)
    all_goals
    refine SatC.seq ?_
    refine SatC.region ?_
    refine SatL.pu (RunV.move rfl) rfl ?_
    refine SatL.pu (RunV.eql rfl rfl) rfl ?_
    refine SatL.pu (RunV.move rfl) rfl ?_
    refine SatL.guard rfl rfl rfl (fun h2 => ?_) (fun h2 => ?_)
    · (try simp only [cx, ne_eq] at h2)
      try (exfalso; (first | omega | exact h2 trivial | contradiction | (first | omega | exact h2 rfl | (simp at h2; done))); done)
      all_goals
      refine SatL.pu (RunV.move rfl) rfl ?_
      refine SatL.guard_y rfl rfl ?_
      refine SatL.pu (RunV.eqlPtrNil rfl rfl rfl) rfl ?_
      refine SatL.pu (RunV.pick_t rfl rfl) rfl ?_
      refine SatL.pu (RunV.move rfl) rfl ?_
      refine SatL.guard rfl rfl rfl (fun h3 => ?_) (fun h3 => ?_)
      · (try simp only [cx, ne_eq] at h3)
        try (exfalso; (first | omega | exact h3 trivial | contradiction | (first | omega | exact h3 rfl | (simp at h3; done))); done)
        all_goals
        refine SatL.op rfl (OpW.enter rfl rfl rfl (rfl) (works_any _) ?_)
        rintro r3 w3 ⟨rfl, h⟩
        replace hS := St.callN hS h
        refine SatL.pu (RunV.pick_t rfl rfl) rfl ?_
        refine SatL.pu (RunV.assign rfl) rfl ?_
        refine SatL.nil (SatE.thenC ?_)
        refine SatC.ret (SatE.then_ret ?_)
        refine SatE.ret1 rfl rfl ?_
        exact ⟨rfl, hS⟩
      · (try simp only [cx, ne_eq] at h3)
        try (exfalso; (first | omega | exact h3 trivial | contradiction | (first | omega | exact h3 rfl | (simp at h3; done))); done)
        all_goals
        refine SatL.pu (RunV.pick_f rfl rfl) rfl ?_
        refine SatL.pu (RunV.assign rfl) rfl ?_
        refine SatL.nil (SatE.thenC ?_)
        refine SatC.ret (SatE.then_ret ?_)
        refine SatE.ret1 rfl rfl ?_
        exact ⟨rfl, hS⟩
    · (try simp only [cx, ne_eq] at h2)
      try (exfalso; (first | omega | exact h2 trivial | contradiction | (first | omega | exact h2 rfl | (simp at h2; done))); done)
      all_goals
      refine SatL.guard_n rfl rfl rfl rfl ?_
      refine SatL.pu (RunV.pick_f rfl rfl) rfl ?_
      refine SatL.pu (RunV.move rfl) rfl ?_
      refine SatL.guard_n rfl rfl rfl rfl ?_
      refine SatL.pu (RunV.pick_f rfl rfl) rfl ?_
      refine SatL.pu (RunV.assign rfl) rfl ?_
      refine SatL.nil (SatE.thenC ?_)
      refine SatC.ret (SatE.then_ret ?_)
      refine SatE.ret1 rfl rfl ?_
      exact ⟨rfl, hS⟩
  · (try simp only [cx, ne_eq] at h1)
    try (exfalso; (first | omega | exact h1 trivial | contradiction | (first | omega | exact h1 rfl | (simp at h1; done))); done)
    all_goals
    refine SatC.skip (SatE.thenC ?_)
    refine SatC.seq ?_
    refine SatC.region ?_
    refine SatL.pu (RunV.move rfl) rfl ?_
    refine SatL.pu (RunV.eql rfl rfl) rfl ?_
    refine SatL.pu (RunV.move rfl) rfl ?_
    refine SatL.guard rfl rfl rfl (fun h2 => ?_) (fun h2 => ?_)
    · (try simp only [cx, ne_eq] at h2)
      try (exfalso; (first | omega | exact h2 trivial | contradiction | (first | omega | exact h2 rfl | (simp at h2; done))); done)
      all_goals
      refine SatL.pu (RunV.move rfl) rfl ?_
      refine SatL.guard_y rfl rfl ?_
      -- STOP -- CALL 22
      trace_state
      sorry
    · (try simp only [cx, ne_eq] at h2)
      try (exfalso; (first | omega | exact h2 trivial | contradiction | (first | omega | exact h2 rfl | (simp at h2; done))); done)
      all_goals
      refine SatL.guard_n rfl rfl rfl rfl ?_
      refine SatL.guard_n rfl rfl rfl rfl ?_
      refine SatL.guard_n rfl rfl rfl rfl ?_
      refine SatL.pu (RunV.pick_f rfl rfl) rfl ?_
      refine SatL.pu (RunV.move rfl) rfl ?_
      refine SatL.guard_n rfl rfl rfl rfl ?_
      refine SatL.guard_n rfl rfl rfl rfl ?_
      refine SatL.guard_n rfl rfl rfl rfl ?_
      refine SatL.guard_n rfl rfl rfl rfl ?_
      refine SatL.pu (RunV.pick_f rfl rfl) rfl ?_
      refine SatL.pu (RunV.move rfl) rfl ?_
      refine SatL.guard_n rfl rfl rfl rfl ?_
      refine SatL.pu (RunV.pick_f rfl rfl) rfl ?_
      refine SatL.pu (RunV.assign rfl) rfl ?_
      refine SatL.nil (SatE.thenC ?_)
      refine SatC.ret ?_
      refine SatE.ret1 rfl rfl ?_
      exact ⟨rfl, hS⟩
theorem loads_any (n last : Int) (hlast : 0 ≤ last) (v : Value) (l : List Itn) (w : World) (hr : RdRow w v 5 (l.map ic)) : Ret Try.prog 7 #[.int .i64 n, v, .int .u64 last] w fun u w' => u = .bool true ∧ St w [] [] w' := by
  by_cases hM : MayP (min (max n 1) 64) last l
  · exact loads_yes n last hlast v l w hr hM
  · exact loads_no n last hlast v l w hr hM
theorem intentLoads_lifted (os : Os) (started : os.Started) (H : Type) (enc : TypeId × Value → H) :
    ReturnsInHanded {} Try.checked os 7 .any (Rows.intentLoadsSpec.pre6 enc Try.prog Try.f7 Rows.intentLoadsRow.domain false) (Rows.intentLoadsSpec.post enc Try.prog Try.f7 false true false false) := by
  refine law_returns (C := Try.checked) (b := 4) (by kernel_rfl) started (by kernel_rfl) Try.func7
    (ChangeSpec.witness6 (enc := enc) (C := Try.checked) false ⟨#[], #[.int .i64 0, .slice none 0 0, .int .u64 0], []⟩ 8 (by kernel_rfl) (by kernel_rfl) (by kernel_rfl) (by kernel_rfl))
    rfl rfl (by kernel_rfl) (by kernel_rfl) (by kernel_rfl) (fun ds h => ?_) ?_
  · rw [Try.params7] at h
    match ds, h with
    | [_, _, _], _ => rfl
  intro W base args ds ps hval hA hsz
  rw [Try.params7] at hA hval
  obtain ⟨v0, v1, v2, d0, d1, d2, q0, q1, q2, hargs, rfl, rfl, h0, h1, h2⟩ := trodAll_three hA
  subst hargs
  obtain ⟨a0, rfl, rfl, rfl, b0⟩ := open_int Try.underlying3 (hval 0 3 v0 rfl rfl) h0
  replace b0 := bnd_i64 b0
  obtain ⟨xs1, hr1, hx1⟩ := open_rows (l := [9, 9, 4, 26, 26]) 6 Try.underlying22 (by kernel_rfl) (by kernel_rfl) (by decide) (hval 1 22 v1 rfl rfl) h1
  obtain ⟨ys1, rfl, hy1⟩ := rows_map (enc' := ic) (q := fun _ => True) (fun r hr => by
    obtain ⟨u0, u1, u2, u3, u4, rfl, l0, l1, l2, l3, l4⟩ := allLeaf_list5 hr
    obtain ⟨n0, rfl, e0⟩ := leaf_string Try.underlying9 l0
    obtain ⟨n1, rfl, e1⟩ := leaf_string Try.underlying9 l1
    obtain ⟨n2, rfl⟩ := leaf_bool Try.underlying4 l2
    obtain ⟨n3, rfl, e3⟩ := leaf_int Try.underlying26 l3
    obtain ⟨n4, rfl, e4⟩ := leaf_int Try.underlying26 l4
    exact ⟨⟨n0.data.toList, n1.data.toList, n2, n3, n4⟩, rfl, trivial⟩) xs1 hx1
  obtain ⟨a2, rfl, rfl, rfl, b2⟩ := open_int Try.underlying26 (hval 2 26 v2 rfl rfl) h2
  replace b2 := bnd_u64 b2
  exact law_done (loads_any a0 a2 b2.1 _ ys1 W hr1)
theorem intentLoads_holds : Rows.IntentLoadsSaid :=
  OpenClaim.holds_of_wide 7 Try.f7 rfl rfl rfl rfl rfl rfl rfl ⟨rfl, rfl, rfl, rfl, rfl⟩ rfl rfl rfl rfl rfl (by kernel_rfl) Try.func7 (by kernel_rfl)
    (of_decide_eq_true (by kernel_rfl)) (by unfold Func.isWrapper; first | (rw [if_pos (by decide +kernel)]; kernel_rfl) | (rw [if_neg (by decide +kernel)]; exact ⟨rfl, rfl⟩))
    (fun os started H enc _ => intentLoads_lifted os started H enc)
end Go.Proofs.Ytogohendjjgbiaa
