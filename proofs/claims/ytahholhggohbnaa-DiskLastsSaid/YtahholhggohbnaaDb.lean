/- May a writing call be; a call that is done whole, or not at all. -/
import Derived.Test.YtahholhggohbnaaDa
set_option linter.unusedSimpArgs false
set_option linter.unusedVariables false
set_option maxRecDepth 100000
set_option maxHeartbeats 4000000
namespace Go.Proofs.Ytahholhggohbnaa
open Go.RowKit
/-- A question: the function that asks it, what it captured, the error, the answer. -/
structure Qn where
  f : Nat
  cap : List Value
  e : Int
  a : Bool
@[reducible] def qr (q : Qn) : List Value := [.func (.func q.f) #[] q.cap.toArray, .int .i64 q.e]
def noE : List Qn → Int
  | [] => 0
  | q :: l => if q.a = true then noE l else q.e
def mayE (down : Bool) (qs : List Qn) : Int := if down = true then 50 else noE qs
theorem noE_may (down : Bool) (qs : List Qn) (c : List Value) : noE (⟨44, c, 50, !down⟩ :: qs) = mayE down qs := by
  unfold mayE
  cases down <;> simp [noE]
theorem noE_drop {l : List Qn} {i : Nat} {q : Qn} (h : l[i]? = some q) : noE (l.drop i) = if q.a = true then noE (l.drop (i + 1)) else q.e := by
  have hi : i < l.length := (List.getElem?_eq_some_iff.1 h).1
  rw [List.drop_eq_getElem_cons hi, show l[i] = q from (List.getElem?_eq_some_iff.1 h).2]
  rfl
/-- A question is answered in every world in which what was there is as it was. -/
def QOk (w : World) (q : Qn) : Prop := enters Try.prog q.f = true ∧ ∀ W', St w [] [] W' → Ret Try.prog q.f q.cap.toArray W' fun u w'' => u = .bool q.a ∧ St W' [] [] w''
section
variable {b : Nat} {room fuse : Int} {down : Bool} {fs : List Fi} {w : World}
theorem may1_any {b2 : Nat} (h4 : fs.length = 4) (hown : Own w [(b2, C 24 [.pointer (some ⟨b, 0, none⟩)]), (b, C 53 (dcs room fuse down fs))]) : Ret Try.prog 44 #[.pointer (some ⟨b2, 0, none⟩)] w fun u w' => u = .bool (!down) ∧ St w [] [] w' := by
  have hS := St.init hown
  simp only [List.map_cons, List.map_nil] at hS
  refine Ret.enter Try.func44 Try.ntmps44 rfl rfl ?_
  simp only [argEnv, Nat.reduceAdd]
  refine SatC.seq ?_
  refine SatC.region ?_
  refine SatL.pu (RunV.assign rfl) rfl ?_
  refine SatL.nil (SatE.thenC ?_)
  refine SatC.seq ?_
  refine SatC.region ?_
  refine SatL.pu (RunV.load1 hS rfl rfl (by repeat constructor) rfl) rfl ?_
  first | refine SatL.pu (RunV.nil_ptr rfl) rfl ?_ | refine SatL.pu (RunV.nil_func rfl) rfl ?_ | refine SatL.pu (RunV.nil_yield rfl) rfl ?_
  first | refine SatL.pu (RunV.fieldAddrL rfl rfl rfl) rfl ?_ | refine SatL.pu (RunV.fieldAddr rfl rfl rfl) rfl ?_
  refine SatL.pu (RunV.load1 hS rfl rfl (by repeat constructor) (ddown h4)) rfl ?_
  refine SatL.pu (RunV.not rfl) rfl ?_
  refine SatL.pu (RunV.assign rfl) rfl ?_
  refine SatL.nil (SatE.thenC ?_)
  refine SatC.ret ?_
  refine SatE.ret1 rfl rfl ?_
  exact ⟨rfl, St.ro hown hS (by repeat constructor)⟩
theorem may_any {v : Value} {qs : List Qn} {QB : List (Nat × Obj)} (h4 : fs.length = 4) (hq : ∀ q ∈ qs, QOk w q) (hsl : Sl 61 2 v (qs.map qr) QB) (hlen : qs.length ≤ 100) (hown : Own w (QB ++ [(b, C 53 (dcs room fuse down fs))])) :
    Ret Try.prog 24 #[.pointer (some ⟨b, 0, none⟩), v] w fun u w' => u = .int .i64 (mayE down qs) ∧ St w [] [] w' := by
  have hS := St.init hown
  obtain ⟨qc, hqv⟩ := hsl.slv
  simp only [List.length_map] at hqv
  generalize hX : (QB ++ [(b, C 53 (dcs room fuse down fs))]).map Prod.fst = X at hS
  have hro : ∀ {L w'}, St w X (L ++ (QB ++ [(b, C 53 (dcs room fuse down fs))])) w' → St w [] L w' := fun h => St.roL hown (by rw [hX]; exact h.perm List.perm_append_comm) .here
  refine Ret.enter Try.func24 Try.ntmps24 rfl rfl ?_
  simp only [argEnv, Nat.reduceAdd]
  refine SatC.seq ?_
  refine SatC.region ?_
  refine SatL.op rfl (OpW.box hS rfl rfl (by repeat constructor) ?_)
  clear hS
  intro b2 w1 _ hS
  refine SatL.pu (RunV.assign rfl) rfl ?_
  refine SatL.nil (SatE.thenC ?_)
  refine SatC.scope ?_
  refine SatC.seq ?_
  refine SatC.seq ?_
  refine SatC.region ?_
  refine SatL.pu (RunV.load1 hS rfl rfl (by repeat constructor) rfl) rfl ?_
  refine SatL.op rfl (OpW.enter rfl rfl rfl (rfl) (dnone_any (hS.ownT (A := [(b, C 53 (dcs room fuse down fs))]) (by repeat constructor))) ?_)
  rintro r2 w2 ⟨rfl, h⟩
  replace hS := St.callN hS h
  refine SatL.nil (SatE.thenC ?_)
  refine SatC.cond rfl (fun h1 => ?_) (fun h1 => ?_)
  · (try simp only [cx, ne_eq] at h1)
    try (exfalso; (first | omega | exact h1 trivial | contradiction | (simp at h1; done)); done)
    all_goals
    refine SatC.seq ?_
    refine SatC.region ?_
    refine SatL.pu (RunV.assign rfl) rfl ?_
    refine SatL.nil (SatE.thenC ?_)
    refine SatC.ret (SatE.then_ret (SatE.sc_ret ?_))
    refine SatE.ret1 rfl rfl ?_
    first
    | (rw [if_neg (by simp_all)] at hno; exact ⟨by rw [← hno], hro (L := []) (hS.sel (by repeat constructor))⟩)
    | (rw [List.drop_of_length_le (by omega)] at hno; exact ⟨by rw [← hno]; rfl, hro (L := []) (hS.sel (by repeat constructor))⟩)
  · (try simp only [cx, ne_eq] at h1)
    try (exfalso; (first | omega | exact h1 trivial | contradiction | (simp at h1; done)); done)
    all_goals
    refine SatC.skip (SatE.thenC ?_)
    refine SatC.seq ?_
    refine SatC.region ?_
    refine SatL.pu (RunV.mkFunc rfl) rfl ?_
    refine SatL.pu (RunV.build rfl (by simp [go_sem]; try rfl)) rfl ?_
    refine SatL.op rfl (OpW.buildSlice1 hS rfl rfl rfl rfl rfl (by repeat constructor) rfl rfl rfl ?_)
    clear hS
    intro b13 w3 _ hS
    refine SatL.pu (RunV.move rfl) rfl ?_
    refine SatL.op rfl (OpW.appendN (news := qs.map qr) (Sl.own (T := 61) (k := 2) (g := b13) (cap := 1) (cur := [.func (.func 44) #[] #[.pointer (some ⟨b2, 0, none⟩)], .int .i64 50]) (rows := [[.func (.func 44) #[] #[.pointer (some ⟨b2, 0, none⟩)], .int .i64 50]]) (by simp) rfl (Nat.le_refl _) (by decide) rfl) hS (by repeat constructor) hqv (hsl.rd hS (by repeat constructor)) (List.length_map _) rfl rfl rfl rfl rfl rfl rfl (by intro r hr u hu; obtain ⟨q, _, rfl⟩ := List.mem_map.1 hr; simp only [List.mem_cons, List.not_mem_nil, or_false] at hu; rcases hu with rfl | rfl <;> rfl) (by simp only [List.length_cons, List.length_nil]; omega) rfl ?_)
    clear hS
    intro v15 B15 w4 hsl15 hS
    change Sl 61 2 v15 ((⟨44, [.pointer (some ⟨b2, 0, none⟩)], 50, !down⟩ :: qs : List Qn).map qr) B15 at hsl15
    have hen := noE_may down qs [.pointer (some ⟨b2, 0, none⟩)]
    have hall : ∀ q ∈ (⟨44, [.pointer (some ⟨b2, 0, none⟩)], 50, !down⟩ :: qs : List Qn), enters Try.prog q.f = true ∧ ∀ wi, St w X ((b2, C 24 [.pointer (some ⟨b, 0, none⟩)]) :: (QB ++ [(b, C 53 (dcs room fuse down fs))])) wi → Ret Try.prog q.f q.cap.toArray wi fun u w'' => u = .bool q.a ∧ St wi [] [] w'' := (by intro q hqm; rcases List.mem_cons.1 hqm with rfl | hqm; exact ⟨by rfl, fun wi hi => may1_any h4 (hi.ownT (A := [(b2, C 24 [.pointer (some ⟨b, 0, none⟩)]), (b, C 53 (dcs room fuse down fs))]) (by repeat constructor))⟩; exact ⟨(hq q hqm).1, fun wi hi => (hq q hqm).2 wi (hro (L := []) (hi.sel (by repeat constructor)))⟩)
    have hal : (⟨44, [.pointer (some ⟨b2, 0, none⟩)], 50, !down⟩ :: qs : List Qn).length ≤ 101 := (by simp; omega)
    generalize (⟨44, [.pointer (some ⟨b2, 0, none⟩)], 50, !down⟩ :: qs : List Qn) = all at hsl15 hen hall hal
    obtain ⟨c15, hv15⟩ := hsl15.slv
    simp only [List.length_map] at hv15
    refine SatL.pu (RunV.assign rfl) rfl ?_
    refine SatL.nil (SatE.thenC ?_)
    refine SatC.seq ?_
    refine SatC.region ?_
    refine SatL.pu (RunV.assign rfl) rfl ?_
    refine SatL.nil (SatE.thenC ?_)
    refine SatC.seq ?_
    refine SatC.label (SatE.thenC ?_)
    refine SatC.seq ?_
    refine SatC.seq ?_
    refine SatC.region ?_
    refine SatL.pu (RunV.move rfl) rfl ?_
    first | refine SatL.pu (RunV.lenR (by assumption) rfl rfl) rfl ?_ | refine SatL.pu (RunV.lenS rfl rfl) rfl ?_
    refine SatL.pu (RunV.move rfl) rfl ?_
    refine SatL.nil (SatE.thenC ?_)
    refine SatC.block ?_
    refine SatC.loopK (G := Nat) (V := fun i => [(18, .int .i64 (i : Int))]) (Cn := [(4, _), (16, _), (17, _), (6, _)]) (I := fun i w' => i ≤ all.length ∧ noE (all.drop i) = mayE down qs ∧ St w X (B15 ++ ((b2, C 24 [.pointer (some ⟨b, 0, none⟩)]) :: (QB ++ [(b, C 53 (dcs room fuse down fs))]))) w') (μ := fun i => all.length - i) 0 ?_ (by repeat constructor) ?_
    · exact ⟨Nat.zero_le _, hen, hS.sel (by repeat constructor)⟩
    clear hS
    rintro i w5 ⟨hi, hno, hS⟩
    refine SatC.weak (e' := [(4, _), (6, _), (16, _), (17, _), (18, _)]) (by repeat constructor) ?_
    refine SatC.seq ?_
    refine SatC.region ?_
    refine SatL.pu (RunV.lss rfl rfl) rfl ?_
    refine SatL.nil (SatE.thenC ?_)
    refine SatC.seq ?_
    refine SatC.cond rfl (fun h2 => ?_) (fun h2 => ?_)
    · (try simp only [cx, ne_eq] at h2)
      try (exfalso; (first | omega | exact h2 trivial | contradiction | (simp at h2; done)); done)
      all_goals
      refine SatC.skip (SatE.thenC ?_)
      refine SatC.seq ?_
      refine SatC.block ?_
      refine SatC.seq ?_
      obtain ⟨q, hqi⟩ := get_some all i (by omega)
      obtain ⟨hqe, hqr⟩ := hall q (List.mem_of_getElem? hqi)
      rw [noE_drop hqi] at hno
      refine SatC.region ?_
      first | refine SatL.pu (RunV.indexR (by assumption) rfl rfl rfl (by omega) (by omega) rfl) rfl ?_ | refine SatL.pu (RunV.indexS rfl rfl rfl (by omega) (by omega) rfl) rfl ?_
      refine SatL.pu (RunV.loadRNz (Sl.rd hsl15 hS (by repeat constructor)) rfl rfl (map_get hqi)) rfl ?_
      refine SatL.op rfl (OpW.alloc hS rfl rfl (by repeat constructor) ?_)
      clear hS
      intro b8 w6 _ hS
      refine SatL.op rfl (OpW.store hS rfl rfl (by repeat constructor) (by repeat constructor) (by repeat constructor) rfl rfl ?_)
      clear hS
      intro w7 hS
      refine SatL.nil (SatE.thenC ?_)
      refine SatC.seq ?_
      refine SatC.region ?_
      first | refine SatL.pu (RunV.fieldAddrL rfl rfl rfl) rfl ?_ | refine SatL.pu (RunV.fieldAddr rfl rfl rfl) rfl ?_
      refine SatL.pu (RunV.load1 hS rfl rfl (by repeat constructor) rfl) rfl ?_
      refine SatL.op rfl (OpW.enter rfl rfl rfl (hqe) (hqr _ (hS.sel (by repeat constructor))) ?_)
      rintro r8 w8 ⟨rfl, h⟩
      replace hS := St.callN hS h
      refine SatL.pu (RunV.not rfl) rfl ?_
      refine SatL.nil (SatE.thenC ?_)
      refine SatC.cond rfl (fun h3 => ?_) (fun h3 => ?_)
      · (try simp only [cx, ne_eq] at h3)
        try (exfalso; (first | omega | exact h3 trivial | contradiction | (simp at h3; done)); done)
        all_goals
        refine SatC.seq ?_
        refine SatC.region ?_
        first | refine SatL.pu (RunV.fieldAddrL rfl rfl rfl) rfl ?_ | refine SatL.pu (RunV.fieldAddr rfl rfl rfl) rfl ?_
        refine SatL.pu (RunV.load1 hS rfl rfl (by repeat constructor) rfl) rfl ?_
        refine SatL.pu (RunV.assign rfl) rfl ?_
        refine SatL.nil (SatE.thenC ?_)
        refine SatC.exit (SatE.blk_other rfl (SatE.then_exit (SatE.then_exit (SatE.blk_exit (SatE.thenC ?_)))))
        refine SatC.seq ?_
        refine SatC.weak (e' := [(4, _), (6, _)]) (by repeat constructor) ?_
        refine SatC.region ?_
        refine SatL.pu (RunV.move rfl) rfl ?_
        refine SatL.pu (RunV.assign rfl) rfl ?_
        refine SatL.nil (SatE.thenC ?_)
        refine SatC.ret (SatE.sc_ret ?_)
        refine SatE.ret1 rfl rfl ?_
        first
        | (rw [if_neg (by simp_all)] at hno; exact ⟨by rw [← hno], hro (L := []) (hS.sel (by repeat constructor))⟩)
        | (rw [List.drop_of_length_le (by omega)] at hno; exact ⟨by rw [← hno]; rfl, hro (L := []) (hS.sel (by repeat constructor))⟩)
      · (try simp only [cx, ne_eq] at h3)
        try (exfalso; (first | omega | exact h3 trivial | contradiction | (simp at h3; done)); done)
        all_goals
        refine SatC.skip (SatE.blk_normal (SatE.thenC ?_))
        refine SatC.region ?_
        refine SatL.pu (RunV.add rfl rfl (by first | exact wrapI64 (by omega) | rfl)) rfl ?_
        refine SatL.pu (RunV.move rfl) rfl ?_
        refine SatL.nil ?_
        refine SatE.again (i + 1) ?_ (by first | omega | (dsimp only; omega)) (by repeat constructor)
        rw [if_pos (by assumption)] at hno
        exact ⟨by omega, hno, hS.sel (by repeat constructor)⟩
    · (try simp only [cx, ne_eq] at h2)
      try (exfalso; (first | omega | exact h2 trivial | contradiction | (simp at h2; done)); done)
      all_goals
      refine SatC.exit (SatE.then_exit (SatE.then_exit (SatE.blk_exit (SatE.thenC ?_))))
      refine SatC.seq ?_
      refine SatC.region ?_
      refine SatL.pu (RunV.move rfl) rfl ?_
      refine SatL.pu (RunV.assign rfl) rfl ?_
      refine SatL.nil (SatE.thenC ?_)
      refine SatC.ret (SatE.sc_ret ?_)
      refine SatE.ret1 rfl rfl ?_
      first
      | (rw [if_neg (by simp_all)] at hno; exact ⟨by rw [← hno], hro (L := []) (hS.sel (by repeat constructor))⟩)
      | (rw [List.drop_of_length_le (by omega)] at hno; exact ⟨by rw [← hno]; rfl, hro (L := []) (hS.sel (by repeat constructor))⟩)
theorem write_any {v : Value} {qs : List Qn} {R : World → Prop} {QB E : List (Nat × Obj)} {fd : Nat} {dc : List Value} {X : List Nat} (h4 : fs.length = 4) (hf : -1 ≤ fuse) (hfm : fuse ≤ 9223372036854775807) (hfd : enters Try.prog fd = true) (hq : ∀ q ∈ qs, QOk w q) (hsl : Sl 61 2 v (qs.map qr) QB) (hlen : qs.length ≤ 100)
    (hX : (QB ++ ((b, C 53 (dcs room fuse down fs)) :: E)).map Prod.fst = X)
    (hdo : mayE down qs = 0 → ¬ fuse = 0 → ∀ W', St w X ((b, C 53 (dcs room (burnF fuse) down fs)) :: E) W' → Ret Try.prog fd dc.toArray W' fun u w'' => R w'')
    (hown : Own w (QB ++ ((b, C 53 (dcs room fuse down fs)) :: E))) :
    Ret Try.prog 29 #[.pointer (some ⟨b, 0, none⟩), .func (.func fd) #[] dc.toArray, v] w fun u w' =>
      (¬ mayE down qs = 0 ∧ u = .int .i64 (mayE down qs) ∧ St w X ((b, C 53 (dcs room fuse down fs)) :: E) w') ∨ (mayE down qs = 0 ∧ fuse = 0 ∧ u = .int .i64 50 ∧ St w X ((b, C 53 (dcs room fuse true fs)) :: E) w') ∨ (mayE down qs = 0 ∧ ¬ fuse = 0 ∧ u = .int .i64 0 ∧ R w') := by
  have hS := St.init hown
  rw [hX] at hS
  refine Ret.enter Try.func29 Try.ntmps29 rfl rfl ?_
  simp only [argEnv, Nat.reduceAdd]
  refine SatC.seq ?_
  refine SatC.region ?_
  refine SatL.pu (RunV.assign rfl) rfl ?_
  refine SatL.nil (SatE.thenC ?_)
  refine SatC.seq ?_
  refine SatC.seq ?_
  refine SatC.region ?_
  refine SatL.pu (RunV.move rfl) rfl ?_
  refine SatL.pu (RunV.move rfl) rfl ?_
  refine SatL.op rfl (OpW.enter rfl rfl rfl (rfl) (may_any h4 hq hsl hlen (hS.ownT (A := QB ++ [(b, C 53 (dcs room fuse down fs))]) (by repeat constructor))) ?_)
  rintro r1 w1 ⟨rfl, h⟩
  replace hS := St.callN hS h
  refine SatL.pu (RunV.assign rfl) rfl ?_
  refine SatL.nil (SatE.thenC ?_)
  refine SatC.seq ?_
  refine SatC.region ?_
  refine SatL.pu (RunV.move rfl) rfl ?_
  refine SatL.pu (RunV.neq rfl rfl) rfl ?_
  refine SatL.nil (SatE.thenC ?_)
  refine SatC.cond rfl (fun h1 => ?_) (fun h1 => ?_)
  · (try simp only [cx, ne_eq] at h1)
    try (exfalso; (first | omega | exact h1 trivial | contradiction | (simp at h1; done)); done)
    all_goals
    refine SatC.seq ?_
    refine SatC.region ?_
    refine SatL.pu (RunV.move rfl) rfl ?_
    refine SatL.pu (RunV.assign rfl) rfl ?_
    refine SatL.nil (SatE.thenC ?_)
    refine SatC.ret (SatE.then_ret ?_)
    refine SatE.ret1 rfl rfl ?_
    first
    | exact .inl ⟨by assumption, rfl, hS.sel (by repeat constructor)⟩
    | exact .inr (.inl ⟨by assumption, by omega, rfl, hS.sel (by repeat constructor)⟩)
    | exact .inr (.inr ⟨by assumption, by omega, rfl, hS⟩)
  · (try simp only [cx, ne_eq] at h1)
    try (exfalso; (first | omega | exact h1 trivial | contradiction | (simp at h1; done)); done)
    all_goals
    refine SatC.skip (SatE.thenC ?_)
    refine SatC.seq ?_
    refine SatC.seq ?_
    refine SatC.region ?_
    refine SatL.pu (RunV.move rfl) rfl ?_
    refine SatL.op rfl (OpW.enter rfl rfl rfl (rfl) (burns_any h4 hf hfm (hS.ownT (A := [(b, C 53 (dcs room fuse down fs))]) (by repeat constructor))) ?_)
    rintro r2 w2 ⟨rfl, h⟩
    replace hS := hS.callT (A := [(b, C 53 (dcs room fuse down fs))]) (by repeat constructor) h
    refine SatL.nil (SatE.thenC ?_)
    refine SatC.cond rfl (fun h2 => ?_) (fun h2 => ?_)
    · (try simp only [cx, ne_eq] at h2)
      try (exfalso; (first | omega | exact h2 trivial | contradiction | (simp at h2; done)); done)
      all_goals
      refine SatC.seq ?_
      have hb0 : burnF fuse = fuse := if_neg (by omega)
      rw [hb0, decide_eq_true (by omega : fuse = 0), Bool.or_true] at hS
      refine SatC.region ?_
      refine SatL.pu (RunV.assign rfl) rfl ?_
      refine SatL.nil (SatE.thenC ?_)
      refine SatC.ret (SatE.then_ret ?_)
      refine SatE.ret1 rfl rfl ?_
      first
      | exact .inl ⟨by assumption, rfl, hS.sel (by repeat constructor)⟩
      | exact .inr (.inl ⟨by assumption, by omega, rfl, hS.sel (by repeat constructor)⟩)
      | exact .inr (.inr ⟨by assumption, by omega, rfl, hS⟩)
    · (try simp only [cx, ne_eq] at h2)
      try (exfalso; (first | omega | exact h2 trivial | contradiction | (simp at h2; done)); done)
      all_goals
      refine SatC.skip (SatE.thenC ?_)
      refine SatC.seq ?_
      have hfz : ¬ fuse = 0 := by assumption
      rw [decide_eq_false hfz, Bool.or_false] at hS
      refine SatC.region ?_
      refine SatL.pu (RunV.move rfl) rfl ?_
      refine SatL.op rfl (OpW.enter rfl rfl rfl (hfd) (hdo (by assumption) hfz _ (hS.sel (by repeat constructor))) ?_)
      rintro r3 w3 h
      replace hS := h
      refine SatL.nil (SatE.thenC ?_)
      refine SatC.seq ?_
      refine SatC.weak (e' := [(6, _)]) (by repeat constructor) ?_
      refine SatC.region ?_
      refine SatL.pu (RunV.assign rfl) rfl ?_
      refine SatL.nil (SatE.thenC ?_)
      refine SatC.ret ?_
      refine SatE.ret1 rfl rfl ?_
      first
      | exact .inl ⟨by assumption, rfl, hS.sel (by repeat constructor)⟩
      | exact .inr (.inl ⟨by assumption, by omega, rfl, hS.sel (by repeat constructor)⟩)
      | exact .inr (.inr ⟨by assumption, by omega, rfl, hS⟩)
end
end Go.Proofs.Ytahholhggohbnaa
