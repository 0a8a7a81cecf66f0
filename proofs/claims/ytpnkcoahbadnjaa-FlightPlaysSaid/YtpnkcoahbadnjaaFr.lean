/- The document's flight: the pick, sending, taking out, copying, losing. -/
import Derived.Test.YtpnkcoahbadnjaaFh
set_option linter.unusedSimpArgs false
set_option linter.unusedVariables false
set_option maxRecDepth 100000
set_option maxHeartbeats 4000000
namespace Go.Proofs.Ytpnkcoahbadnjaa
open Go.RowKit
/-- What the document's flight has. -/
@[reducible] def RO (b : Nat) (v : Value) (most given : Int) (B : List (Nat × Obj)) : List (Nat × Obj) := (b, C 67 [v, .int .i64 given, .int .i64 most]) :: B
def VB (l : List Fl) : Prop := ∀ x ∈ l, ∃ bl o c, SlV x.v bl o x.b.length c
theorem slv_one {v : Value} {b o n c : Nat} (h : SlV v b o n c) : v.oneCell' = true := by
  obtain ⟨A, rfl, _⟩ := h.eq
  rfl
theorem vb_one {l l' : List Fl} (h : VB l) (hs : ∀ x ∈ l', x ∈ l) : ∀ r ∈ l'.map fr, ∀ u ∈ r, u.oneCell' = true := by
  intro r hr u hu
  obtain ⟨x, hx, rfl⟩ := List.mem_map.1 hr
  obtain ⟨b, o, c, h1⟩ := h x (hs x hx)
  simp only [fr, List.mem_cons, List.not_mem_nil, or_false] at hu
  rcases hu with rfl | rfl | rfl | rfl
  · rfl
  · rfl
  · rfl
  · exact slv_one h1
theorem pickF_pos {n k : Int} (hn : 0 < n) (h : 0 ≤ k.tmod n) : pickF n k = k.tmod n := by
  unfold pickF
  have h1 := Int.tmod_lt_of_pos k hn
  rw [Int.tmod_eq_emod_of_nonneg (by omega), Int.add_emod_right]
  exact Int.emod_eq_of_lt h h1
theorem pickF_neg {n k : Int} (hn : 0 < n) (h : k.tmod n < 0) : pickF n k = k.tmod n + n := by
  unfold pickF
  have h2 := Int.lt_tmod_of_pos k hn
  exact Int.tmod_eq_of_lt (by omega) (by omega)
theorem rnew_any (n : Int) (w : World) : Ret Try.prog 18 #[.int .i64 n] w fun u w' => ∃ b, u = .pointer (some ⟨b, 0, none⟩) ∧ St w [] (RO b (.slice none 0 0) (min (max n 1) 256) 0 []) w' := by
  have hS := St.init0 w
  refine Ret.enter Try.func18 Try.ntmps18 rfl rfl ?_
  simp only [argEnv, Nat.reduceAdd]
  refine SatC.seq ?_
  refine SatC.region ?_
  refine SatL.pu (RunV.assign rfl) rfl ?_
  refine SatL.nil (SatE.thenC ?_)
  refine SatC.seq ?_
  refine SatC.seq ?_
  refine SatC.region ?_
  refine SatL.pu (RunV.move rfl) rfl ?_
  refine SatL.pu (RunV.lss rfl rfl) rfl ?_
  refine SatL.nil (SatE.thenC ?_)
  refine SatC.cond rfl (fun h1 => ?_) (fun h1 => ?_)
  · (try simp only [cx, ne_eq] at h1)
    try (exfalso; (first | omega | exact h1 trivial | contradiction | (simp at h1; done)); done)
    all_goals
    refine SatC.region ?_
    refine SatL.pu (RunV.assign rfl) rfl ?_
    refine SatL.nil (SatE.thenC ?_)
    refine SatC.seq ?_
    refine SatC.seq ?_
    refine SatC.region ?_
    refine SatL.pu (RunV.move rfl) rfl ?_
    refine SatL.pu (RunV.gtr rfl rfl) rfl ?_
    refine SatL.nil (SatE.thenC ?_)
    refine SatC.cond rfl (fun h2 => ?_) (fun h2 => ?_)
    · (try simp only [cx, ne_eq] at h2)
      try (exfalso; (first | omega | exact h2 trivial | contradiction | (simp at h2; done)); done)
      all_goals
      refine SatC.region ?_
      refine SatL.pu (RunV.assign rfl) rfl ?_
      refine SatL.nil (SatE.thenC ?_)
      refine SatC.seq ?_
      refine SatC.region ?_
      refine SatL.pu (RunV.move rfl) rfl ?_
      refine SatL.pu (RunV.build rfl (by simp [go_sem]; try rfl)) rfl ?_
      refine SatL.op rfl (OpW.box hS rfl rfl (by repeat constructor) ?_)
      clear hS
      intro b9 w1 _ hS
      refine SatL.pu (RunV.assign rfl) rfl ?_
      refine SatL.nil (SatE.thenC ?_)
      refine SatC.ret ?_
      refine SatE.ret1 rfl rfl ?_
      refine ⟨_, rfl, ?_⟩
      first
      | (rw [show min (max n 1) 256 = 1 from by omega]; exact hS)
      | (rw [show min (max n 1) 256 = 256 from by omega]; exact hS)
      | (rw [show min (max n 1) 256 = n from by omega]; exact hS)
    · (try simp only [cx, ne_eq] at h2)
      try (exfalso; (first | omega | exact h2 trivial | contradiction | (simp at h2; done)); done)
      all_goals
      refine SatC.skip (SatE.thenC ?_)
      refine SatC.seq ?_
      refine SatC.region ?_
      refine SatL.pu (RunV.move rfl) rfl ?_
      refine SatL.pu (RunV.build rfl (by simp [go_sem]; try rfl)) rfl ?_
      refine SatL.op rfl (OpW.box hS rfl rfl (by repeat constructor) ?_)
      clear hS
      intro b9 w1 _ hS
      refine SatL.pu (RunV.assign rfl) rfl ?_
      refine SatL.nil (SatE.thenC ?_)
      refine SatC.ret ?_
      refine SatE.ret1 rfl rfl ?_
      refine ⟨_, rfl, ?_⟩
      first
      | (rw [show min (max n 1) 256 = 1 from by omega]; exact hS)
      | (rw [show min (max n 1) 256 = 256 from by omega]; exact hS)
      | (rw [show min (max n 1) 256 = n from by omega]; exact hS)
  · (try simp only [cx, ne_eq] at h1)
    try (exfalso; (first | omega | exact h1 trivial | contradiction | (simp at h1; done)); done)
    all_goals
    refine SatC.skip (SatE.thenC ?_)
    refine SatC.seq ?_
    refine SatC.seq ?_
    refine SatC.region ?_
    refine SatL.pu (RunV.move rfl) rfl ?_
    refine SatL.pu (RunV.gtr rfl rfl) rfl ?_
    refine SatL.nil (SatE.thenC ?_)
    refine SatC.cond rfl (fun h2 => ?_) (fun h2 => ?_)
    · (try simp only [cx, ne_eq] at h2)
      try (exfalso; (first | omega | exact h2 trivial | contradiction | (simp at h2; done)); done)
      all_goals
      refine SatC.region ?_
      refine SatL.pu (RunV.assign rfl) rfl ?_
      refine SatL.nil (SatE.thenC ?_)
      refine SatC.seq ?_
      refine SatC.region ?_
      refine SatL.pu (RunV.move rfl) rfl ?_
      refine SatL.pu (RunV.build rfl (by simp [go_sem]; try rfl)) rfl ?_
      refine SatL.op rfl (OpW.box hS rfl rfl (by repeat constructor) ?_)
      clear hS
      intro b9 w1 _ hS
      refine SatL.pu (RunV.assign rfl) rfl ?_
      refine SatL.nil (SatE.thenC ?_)
      refine SatC.ret ?_
      refine SatE.ret1 rfl rfl ?_
      refine ⟨_, rfl, ?_⟩
      first
      | (rw [show min (max n 1) 256 = 1 from by omega]; exact hS)
      | (rw [show min (max n 1) 256 = 256 from by omega]; exact hS)
      | (rw [show min (max n 1) 256 = n from by omega]; exact hS)
    · (try simp only [cx, ne_eq] at h2)
      try (exfalso; (first | omega | exact h2 trivial | contradiction | (simp at h2; done)); done)
      all_goals
      refine SatC.skip (SatE.thenC ?_)
      refine SatC.seq ?_
      refine SatC.region ?_
      refine SatL.pu (RunV.move rfl) rfl ?_
      refine SatL.pu (RunV.build rfl (by simp [go_sem]; try rfl)) rfl ?_
      refine SatL.op rfl (OpW.box hS rfl rfl (by repeat constructor) ?_)
      clear hS
      intro b9 w1 _ hS
      refine SatL.pu (RunV.assign rfl) rfl ?_
      refine SatL.nil (SatE.thenC ?_)
      refine SatC.ret ?_
      refine SatE.ret1 rfl rfl ?_
      refine ⟨_, rfl, ?_⟩
      first
      | (rw [show min (max n 1) 256 = 1 from by omega]; exact hS)
      | (rw [show min (max n 1) 256 = 256 from by omega]; exact hS)
      | (rw [show min (max n 1) 256 = n from by omega]; exact hS)
section
variable {b : Nat} {v : Value} {most given : Int} {B : List (Nat × Obj)} {l : List Fl} {w : World}
theorem rpick_any (k : Int) (hl : l.length ≤ 100000) (hsl : Sl 32 4 v (l.map fr) B) (hown : Own w (RO b v most given B)) : Ret Try.prog 34 #[.pointer (some ⟨b, 0, none⟩), .int .i64 k] w fun u w' => u = .int .i64 (if l = [] then -1 else pickF l.length k) ∧ St w [] [] w' := by
  have hS := St.init hown
  obtain ⟨c0, hv0⟩ := hsl.slv
  simp only [List.length_map] at hv0
  simp only [List.map_cons, List.map_nil] at hS
  refine Ret.enter Try.func34 Try.ntmps34 rfl rfl ?_
  simp only [argEnv, Nat.reduceAdd]
  refine SatC.seq ?_
  refine SatC.region ?_
  refine SatL.pu (RunV.assign rfl) rfl ?_
  refine SatL.nil (SatE.thenC ?_)
  refine SatC.seq ?_
  refine SatC.region ?_
  refine SatL.pu (RunV.move rfl) rfl ?_
  first | refine SatL.pu (RunV.nil_ptr rfl) rfl ?_ | refine SatL.pu (RunV.nil_func rfl) rfl ?_ | refine SatL.pu (RunV.nil_yield rfl) rfl ?_
  first | refine SatL.pu (RunV.fieldAddrL rfl rfl rfl) rfl ?_ | refine SatL.pu (RunV.fieldAddr rfl rfl rfl) rfl ?_
  refine SatL.pu (RunV.load1 hS rfl rfl (by repeat constructor) rfl) rfl ?_
  first | refine SatL.pu (RunV.lenR (by assumption) rfl rfl) rfl ?_ | refine SatL.pu (RunV.lenS rfl rfl) rfl ?_
  refine SatL.pu (RunV.assign rfl) rfl ?_
  refine SatL.nil (SatE.thenC ?_)
  refine SatC.seq ?_
  refine SatC.seq ?_
  refine SatC.region ?_
  refine SatL.pu (RunV.move rfl) rfl ?_
  refine SatL.pu (RunV.eql rfl rfl) rfl ?_
  refine SatL.nil (SatE.thenC ?_)
  refine SatC.cond rfl (fun h1 => ?_) (fun h1 => ?_)
  · (try simp only [cx, ne_eq] at h1)
    try (exfalso; (first | omega | exact h1 trivial | contradiction | (simp at h1; done)); done)
    all_goals
    refine SatC.seq ?_
    refine SatC.region ?_
    refine SatL.pu (RunV.assign rfl) rfl ?_
    refine SatL.nil (SatE.thenC ?_)
    refine SatC.ret (SatE.then_ret ?_)
    refine SatE.ret1 rfl rfl ?_
    first
    | (have : l = [] := List.length_eq_zero_iff.1 (by omega)
       subst this
       exact ⟨rfl, St.ro hown hS (by repeat constructor)⟩)
    | (rw [if_neg hne, pickF_neg hn0 (by assumption)]; exact ⟨rfl, St.ro hown hS (by repeat constructor)⟩)
    | (rw [if_neg hne, pickF_pos hn0 (by assumption)]; exact ⟨rfl, St.ro hown hS (by repeat constructor)⟩)
  · (try simp only [cx, ne_eq] at h1)
    try (exfalso; (first | omega | exact h1 trivial | contradiction | (simp at h1; done)); done)
    all_goals
    refine SatC.skip (SatE.thenC ?_)
    refine SatC.seq ?_
    have hn0 : 0 < (l.length : Int) := by omega
    have hb1 := Int.tmod_lt_of_pos k hn0
    have hb2 := Int.lt_tmod_of_pos k hn0
    have hne : ¬ l = [] := fun e => by subst e; simp at hn0
    refine SatC.region ?_
    refine SatL.pu (RunV.move rfl) rfl ?_
    refine SatL.pu (RunV.move rfl) rfl ?_
    refine SatL.pu (RunV.rem rfl rfl (by first | decide | omega) rfl) rfl ?_
    refine SatL.pu (RunV.assign rfl) rfl ?_
    refine SatL.nil (SatE.thenC ?_)
    refine SatC.seq ?_
    refine SatC.seq ?_
    refine SatC.weak (e' := [(4, _), (5, _), (6, _)]) (by repeat constructor) ?_
    refine SatC.region ?_
    refine SatL.pu (RunV.move rfl) rfl ?_
    refine SatL.pu (RunV.lss rfl rfl) rfl ?_
    refine SatL.nil (SatE.thenC ?_)
    refine SatC.cond rfl (fun h2 => ?_) (fun h2 => ?_)
    · (try simp only [cx, ne_eq] at h2)
      try (exfalso; (first | omega | exact h2 trivial | contradiction | (simp at h2; done)); done)
      all_goals
      refine SatC.region ?_
      refine SatL.pu (RunV.move rfl) rfl ?_
      refine SatL.pu (RunV.move rfl) rfl ?_
      refine SatL.pu (RunV.add rfl rfl (by first | exact wrapI64 (by omega) | rfl)) rfl ?_
      refine SatL.pu (RunV.assign rfl) rfl ?_
      refine SatL.nil (SatE.thenC ?_)
      refine SatC.seq ?_
      refine SatC.region ?_
      refine SatL.pu (RunV.move rfl) rfl ?_
      refine SatL.pu (RunV.assign rfl) rfl ?_
      refine SatL.nil (SatE.thenC ?_)
      refine SatC.ret ?_
      refine SatE.ret1 rfl rfl ?_
      first
      | (have : l = [] := List.length_eq_zero_iff.1 (by omega)
         subst this
         exact ⟨rfl, St.ro hown hS (by repeat constructor)⟩)
      | (rw [if_neg hne, pickF_neg hn0 (by assumption)]; exact ⟨rfl, St.ro hown hS (by repeat constructor)⟩)
      | (rw [if_neg hne, pickF_pos hn0 (by assumption)]; exact ⟨rfl, St.ro hown hS (by repeat constructor)⟩)
    · (try simp only [cx, ne_eq] at h2)
      try (exfalso; (first | omega | exact h2 trivial | contradiction | (simp at h2; done)); done)
      all_goals
      refine SatC.skip (SatE.thenC ?_)
      refine SatC.seq ?_
      refine SatC.region ?_
      refine SatL.pu (RunV.move rfl) rfl ?_
      refine SatL.pu (RunV.assign rfl) rfl ?_
      refine SatL.nil (SatE.thenC ?_)
      refine SatC.ret ?_
      refine SatE.ret1 rfl rfl ?_
      first
      | (have : l = [] := List.length_eq_zero_iff.1 (by omega)
         subst this
         exact ⟨rfl, St.ro hown hS (by repeat constructor)⟩)
      | (rw [if_neg hne, pickF_neg hn0 (by assumption)]; exact ⟨rfl, St.ro hown hS (by repeat constructor)⟩)
      | (rw [if_neg hne, pickF_pos hn0 (by assumption)]; exact ⟨rfl, St.ro hown hS (by repeat constructor)⟩)
open Classical in
theorem rsend_any (f t : Int) (pv : Value) (bs : List UInt8) {bl o c : Nat} (hv : SlV pv bl o bs.length c) (hbs : bs.length ≤ 9223372036854775807) (hg : 0 ≤ given ∧ given ≤ 1000000) (hl : l.length ≤ 100000) (hsl : Sl 32 4 v (l.map fr) B) (hown : Own w (RO b v most given B)) :
    Ret Try.prog 28 #[.pointer (some ⟨b, 0, none⟩), .agg #[.int .i64 f, .int .i64 t, pv]] w fun u w' => u = .tuple #[.int .i64 (sendI most given l bs), .bool (!decide (full most l bs))] ∧ ∃ v' B', Sl 32 4 v' ((sendL most given l f t pv bs).map fr) B' ∧ St w ((RO b v most given B).map Prod.fst) (RO b v' most (sendG most given l bs) B') w' := by
  have hS := St.init hown
  have h1p := slv_one hv
  obtain ⟨c0, hv0⟩ := hsl.slv
  simp only [List.length_map] at hv0
  generalize hX : (RO b v most given B).map Prod.fst = X at hS ⊢
  refine Ret.enter Try.func28 Try.ntmps28 rfl rfl ?_
  simp only [argEnv, Nat.reduceAdd]
  refine SatC.seq ?_
  refine SatC.region ?_
  refine SatL.op rfl (OpW.box hS rfl rfl (by repeat constructor) ?_)
  clear hS
  intro b3 w1 _ hS
  refine SatL.pu (RunV.assign rfl) rfl ?_
  refine SatL.pu (RunV.assign rfl) rfl ?_
  refine SatL.nil (SatE.thenC ?_)
  refine SatC.seq ?_
  refine SatC.seq ?_
  refine SatC.drawnT 16 hS (hS.sel (R := [(b3, C 24 [.int .i64 f, .int .i64 t, pv]), (b, C 67 [v, .int .i64 given, .int .i64 most])]) (by repeat constructor)) (by kernel_rfl) ?_
  clear hS
  intro w2 hh hS hD
  refine SatD.tk 0 rfl hD (fun _ hw => RunV.move rfl) ?_
  first | refine SatD.tk 1 rfl hD (fun _ hw => RunV.nil_ptr rfl) ?_ | refine SatD.tk 1 rfl hD (fun _ hw => RunV.nil_func rfl) ?_ | refine SatD.tk 1 rfl hD (fun _ hw => RunV.nil_yield rfl) ?_
  first | refine SatD.tk 2 rfl hD (fun _ hw => RunV.fieldAddrL rfl rfl rfl) ?_ | refine SatD.tk 2 rfl hD (fun _ hw => RunV.fieldAddr rfl rfl rfl) ?_
  refine SatD.tk 3 rfl hD (fun _ hw => RunV.load1 hw rfl rfl (by repeat constructor) rfl) ?_
  first | refine SatD.tk 4 rfl hD (fun _ hw => RunV.lenR (by assumption) rfl rfl) ?_ | refine SatD.tk 4 rfl hD (fun _ hw => RunV.lenS rfl rfl) ?_
  refine SatD.tk 5 rfl hD (fun _ hw => RunV.move rfl) ?_
  first | refine SatD.tk 6 rfl hD (fun _ hw => RunV.nil_ptr rfl) ?_ | refine SatD.tk 6 rfl hD (fun _ hw => RunV.nil_func rfl) ?_ | refine SatD.tk 6 rfl hD (fun _ hw => RunV.nil_yield rfl) ?_
  first | refine SatD.tk 7 rfl hD (fun _ hw => RunV.fieldAddrL rfl rfl rfl) ?_ | refine SatD.tk 7 rfl hD (fun _ hw => RunV.fieldAddr rfl rfl rfl) ?_
  refine SatD.tk 8 rfl hD (fun _ hw => RunV.load1 hw rfl rfl (by repeat constructor) rfl) ?_
  refine SatD.tk 9 rfl hD (fun _ hw => RunV.geq rfl rfl) ?_
  refine SatD.tk 10 rfl hD (fun _ hw => RunV.move rfl) ?_
  refine SatD.ways 16 rfl (fun h1 => ?_) (fun h1 => ?_)
  · (try simp only [cx, ne_eq] at h1)
    try (exfalso; (first | omega | exact h1 trivial | contradiction | (simp at h1; done)); done)
    all_goals
    refine SatD.sk 11 rfl [] hD ?_
    refine SatD.sk 12 rfl [] hD ?_
    refine SatD.sk 13 rfl [] hD ?_
    refine SatD.sk 14 rfl [] hD ?_
    refine SatD.tk 15 rfl hD (fun _ hw => RunV.pick_t rfl rfl) ?_
    refine SatD.done 0 (by kernel_rfl) (SatE.thenC ?_)
    clear hD
    refine SatC.weak (e' := [(0, _), (3, _), (4, _), (5, _), (21, _)]) (by repeat constructor) ?_
    refine SatC.cond_t rfl ?_
    refine SatC.seq ?_
    refine SatC.region ?_
    refine SatL.pu (RunV.assign rfl) rfl ?_
    refine SatL.pu (RunV.assign rfl) rfl ?_
    refine SatL.nil (SatE.thenC ?_)
    refine SatC.ret (SatE.then_ret ?_)
    refine SatE.ret2 rfl rfl rfl ?_
    first
    | (have hf : full most l bs := by unfold full; omega
       rw [show sendI most given l bs = 0 from if_pos hf, show sendG most given l bs = given from if_pos hf, decide_eq_true hf, show sendL most given l f t pv bs = l from if_pos hf]
       exact ⟨rfl, v, B, hsl, hS.sel (by repeat constructor)⟩)
    | (have hf : ¬ full most l bs := by unfold full; omega
       rw [show sendI most given l bs = given + 1 from if_neg hf, show sendG most given l bs = given + 1 from if_neg hf, decide_eq_false hf, show sendL most given l f t pv bs = l ++ [⟨given + 1, f, t, pv, bs⟩] from if_neg hf]
       exact ⟨rfl, v42, B42, by rw [List.map_append]; exact hsl42, hS.sel (by repeat constructor)⟩)
  · (try simp only [cx, ne_eq] at h1)
    try (exfalso; (first | omega | exact h1 trivial | contradiction | (simp at h1; done)); done)
    all_goals
    first | refine SatD.tk 11 rfl hD (fun _ hw => RunV.fieldAddrL rfl rfl rfl) ?_ | refine SatD.tk 11 rfl hD (fun _ hw => RunV.fieldAddr rfl rfl rfl) ?_
    refine SatD.tk 12 rfl hD (fun _ hw => RunV.load1 hw rfl rfl (by repeat constructor) rfl) ?_
    first | refine SatD.tk 13 rfl hD (fun _ hw => RunV.lenR (by assumption) rfl rfl) ?_ | refine SatD.tk 13 rfl hD (fun _ hw => RunV.lenS rfl rfl) ?_
    refine SatD.tk 14 rfl hD (fun _ hw => RunV.gtr rfl rfl) ?_
    refine SatD.tk 15 rfl hD (fun _ hw => RunV.pick_f rfl rfl) ?_
    refine SatD.done 0 (by kernel_rfl) (SatE.thenC ?_)
    clear hD
    refine SatC.weak (e' := [(0, _), (3, _), (4, _), (5, _), (21, _)]) (by repeat constructor) ?_
    refine SatC.cond rfl (fun h2 => ?_) (fun h2 => ?_)
    · (try simp only [cx, ne_eq] at h2)
      try (exfalso; (first | omega | exact h2 trivial | contradiction | (simp at h2; done)); done)
      all_goals
      refine SatC.seq ?_
      refine SatC.region ?_
      refine SatL.pu (RunV.assign rfl) rfl ?_
      refine SatL.pu (RunV.assign rfl) rfl ?_
      refine SatL.nil (SatE.thenC ?_)
      refine SatC.ret (SatE.then_ret ?_)
      refine SatE.ret2 rfl rfl rfl ?_
      first
      | (have hf : full most l bs := by unfold full; omega
         rw [show sendI most given l bs = 0 from if_pos hf, show sendG most given l bs = given from if_pos hf, decide_eq_true hf, show sendL most given l f t pv bs = l from if_pos hf]
         exact ⟨rfl, v, B, hsl, hS.sel (by repeat constructor)⟩)
      | (have hf : ¬ full most l bs := by unfold full; omega
         rw [show sendI most given l bs = given + 1 from if_neg hf, show sendG most given l bs = given + 1 from if_neg hf, decide_eq_false hf, show sendL most given l f t pv bs = l ++ [⟨given + 1, f, t, pv, bs⟩] from if_neg hf]
         exact ⟨rfl, v42, B42, by rw [List.map_append]; exact hsl42, hS.sel (by repeat constructor)⟩)
    · (try simp only [cx, ne_eq] at h2)
      try (exfalso; (first | omega | exact h2 trivial | contradiction | (simp at h2; done)); done)
      all_goals
      refine SatC.skip (SatE.thenC ?_)
      refine SatC.seq ?_
      refine SatC.region ?_
      refine SatL.pu (RunV.move rfl) rfl ?_
      refine SatL.pu (RunV.move rfl) rfl ?_
      first | refine SatL.pu (RunV.nil_ptr rfl) rfl ?_ | refine SatL.pu (RunV.nil_func rfl) rfl ?_ | refine SatL.pu (RunV.nil_yield rfl) rfl ?_
      first | refine SatL.pu (RunV.fieldAddrL rfl rfl rfl) rfl ?_ | refine SatL.pu (RunV.fieldAddr rfl rfl rfl) rfl ?_
      refine SatL.pu (RunV.load1 hS rfl rfl (by repeat constructor) rfl) rfl ?_
      refine SatL.pu (RunV.add rfl rfl (by first | exact wrapI64 (by omega) | rfl)) rfl ?_
      first | refine SatL.pu (RunV.nil_ptr rfl) rfl ?_ | refine SatL.pu (RunV.nil_func rfl) rfl ?_ | refine SatL.pu (RunV.nil_yield rfl) rfl ?_
      first | refine SatL.pu (RunV.fieldAddrL rfl rfl rfl) rfl ?_ | refine SatL.pu (RunV.fieldAddr rfl rfl rfl) rfl ?_
      refine SatL.op rfl (OpW.store hS rfl rfl (by repeat constructor) (by repeat constructor) (by repeat constructor) rfl rfl ?_)
      clear hS
      intro w3 hS
      refine SatL.nil (SatE.thenC ?_)
      refine SatC.seq ?_
      refine SatC.drawnT 15 hS (hS.sel (R := [(b3, C 24 [.int .i64 f, .int .i64 t, pv]), (b, C 67 [v, .int .i64 (given + 1), .int .i64 most])]) (by repeat constructor)) (by kernel_rfl) ?_
      clear hS
      intro w4 hh hS hD
      refine SatD.tk 0 rfl hD (fun _ hw => RunV.move rfl) ?_
      refine SatD.tk 1 rfl hD (fun _ hw => RunV.move rfl) ?_
      first | refine SatD.tk 2 rfl hD (fun _ hw => RunV.nil_ptr rfl) ?_ | refine SatD.tk 2 rfl hD (fun _ hw => RunV.nil_func rfl) ?_ | refine SatD.tk 2 rfl hD (fun _ hw => RunV.nil_yield rfl) ?_
      first | refine SatD.tk 3 rfl hD (fun _ hw => RunV.fieldAddrL rfl rfl rfl) ?_ | refine SatD.tk 3 rfl hD (fun _ hw => RunV.fieldAddr rfl rfl rfl) ?_
      refine SatD.tk 4 rfl hD (fun _ hw => RunV.load1 hw rfl rfl (by repeat constructor) rfl) ?_
      refine SatD.tk 5 rfl hD (fun _ hw => RunV.move rfl) ?_
      first | refine SatD.tk 6 rfl hD (fun _ hw => RunV.nil_ptr rfl) ?_ | refine SatD.tk 6 rfl hD (fun _ hw => RunV.nil_func rfl) ?_ | refine SatD.tk 6 rfl hD (fun _ hw => RunV.nil_yield rfl) ?_
      first | refine SatD.tk 7 rfl hD (fun _ hw => RunV.fieldAddrL rfl rfl rfl) ?_ | refine SatD.tk 7 rfl hD (fun _ hw => RunV.fieldAddr rfl rfl rfl) ?_
      refine SatD.tk 8 rfl hD (fun _ hw => RunV.load1 hw rfl rfl (by repeat constructor) rfl) ?_
      refine SatD.tk 9 rfl hD (fun _ hw => RunV.loadN hw rfl rfl (by repeat constructor) (by repeat constructor)) ?_
      refine SatD.tk 10 rfl hD (fun _ hw => RunV.build rfl (by simp [go_sem]; try rfl)) ?_
      refine SatD.ef 11 rfl (OpW.buildSlice1 hS rfl rfl rfl rfl rfl (by repeat constructor) rfl rfl rfl ?_)
      clear hS
      intro b41 w5 _ hS
      refine keepS (hS.sel (by repeat constructor)) (fun hD => ?_)
      refine SatD.ef 12 rfl (OpW.append1 hsl hS (by repeat constructor) rfl rfl (by repeat constructor) rfl rfl rfl rfl rfl rfl rfl (by simp only [List.all_cons, List.all_nil, h1p, Bool.and_true]; rfl) (by rw [List.length_map]; omega) rfl ?_)
      clear hS
      intro v42 B42 w6 hsl42 hS
      refine keepS (hS.sel (by repeat constructor)) (fun hD => ?_)
      first | refine SatD.tkp 13 rfl [14] hD (fun _ hw => RunV.nil_ptr rfl) ?_ | refine SatD.tkp 13 rfl [14] hD (fun _ hw => RunV.nil_func rfl) ?_ | refine SatD.tkp 13 rfl [14] hD (fun _ hw => RunV.nil_yield rfl) ?_
      first | refine SatD.tk 14 rfl hD (fun _ hw => RunV.fieldAddrL rfl rfl rfl) ?_ | refine SatD.tk 14 rfl hD (fun _ hw => RunV.fieldAddr rfl rfl rfl) ?_
      refine SatD.effF (by kernel_rfl) rfl rfl (OpW.storeSv hS rfl rfl (by assumption) (by repeat constructor) (by repeat constructor) rfl ?_)
      clear hS
      intro w7 hS
      refine SatD.done 0 (by kernel_rfl) (SatE.thenC ?_)
      clear hD
      refine SatC.seq ?_
      refine SatC.weak (e' := [(0, _), (4, _), (5, _)]) (by repeat constructor) ?_
      refine SatC.region ?_
      refine SatL.pu (RunV.move rfl) rfl ?_
      first | refine SatL.pu (RunV.nil_ptr rfl) rfl ?_ | refine SatL.pu (RunV.nil_func rfl) rfl ?_ | refine SatL.pu (RunV.nil_yield rfl) rfl ?_
      first | refine SatL.pu (RunV.fieldAddrL rfl rfl rfl) rfl ?_ | refine SatL.pu (RunV.fieldAddr rfl rfl rfl) rfl ?_
      refine SatL.pu (RunV.load1 hS rfl rfl (by repeat constructor) rfl) rfl ?_
      refine SatL.pu (RunV.assign rfl) rfl ?_
      refine SatL.pu (RunV.assign rfl) rfl ?_
      refine SatL.nil (SatE.thenC ?_)
      refine SatC.ret ?_
      refine SatE.ret2 rfl rfl rfl ?_
      first
      | (have hf : full most l bs := by unfold full; omega
         rw [show sendI most given l bs = 0 from if_pos hf, show sendG most given l bs = given from if_pos hf, decide_eq_true hf, show sendL most given l f t pv bs = l from if_pos hf]
         exact ⟨rfl, v, B, hsl, hS.sel (by repeat constructor)⟩)
      | (have hf : ¬ full most l bs := by unfold full; omega
         rw [show sendI most given l bs = given + 1 from if_neg hf, show sendG most given l bs = given + 1 from if_neg hf, decide_eq_false hf, show sendL most given l f t pv bs = l ++ [⟨given + 1, f, t, pv, bs⟩] from if_neg hf]
         exact ⟨rfl, v42, B42, by rw [List.map_append]; exact hsl42, hS.sel (by repeat constructor)⟩)
end
end Go.Proofs.Ytpnkcoahbadnjaa
