/- The document's disk: its files lie in blocks that are only read. -/
import Derived.Test.YtahholhggohbnaaDi
import Derived.Test.YtahholhggohbnaaK29
set_option linter.unusedSimpArgs false
set_option linter.unusedVariables false
set_option maxRecDepth 100000
set_option maxHeartbeats 4000000
namespace Go.Proofs.Ytahholhggohbnaa
open Go.RowKit
/-- Bytes that can be read wherever these blocks lie. -/
def RdD (D : List (Nat × Obj)) (v : Value) (bs : List UInt8) : Prop := (∃ b o c, SlV v b o bs.length c) ∧ ∀ w : World, (∀ c ∈ D, w.heap[c.1]? = some c.2) → RdRow w v 1 (bs.map by1c)
theorem RdD.mono {D D' : List (Nat × Obj)} {v : Value} {bs : List UInt8} (h : RdD D v bs) (hd : ∀ c ∈ D, c ∈ D') : RdD D' v bs := ⟨h.1, fun w hw => h.2 w fun c hc => hw c (hd c hc)⟩
theorem RdD.nil {D : List (Nat × Obj)} : RdD D (.slice none 0 0) [] := ⟨⟨0, 0, 0, ⟨_, rfl, fun h => by simp at h⟩, Nat.le_refl _⟩, fun w _ => RdRow.nil⟩
theorem RdD.own {D B : List (Nat × Obj)} {v : Value} {bs : List UInt8} (h : Sl 5 1 v (bs.map by1c) B) (hB : ∀ c ∈ B, c ∈ D) (hl : bs.length ≤ 9223372036854775807) : RdD D v bs := by
  obtain ⟨c, hc⟩ := h.slv
  rw [List.length_map] at hc
  exact ⟨⟨_, _, _, hc⟩, fun w hw => RdRow.of hc (List.length_map _) (by rw [List.length_map]; exact hl) (h.rdOf fun c hc => hw c (hB c hc)) (by decide)⟩
theorem RdC.same {w : World} {v : Value} {b b' o o' n c c' k : Nat} {xs : List (List Value)} (h1 : SlV v b o xs.length c) (h2 : SlV v b' o' n c') (hc : RdC w b o k xs) (hn : xs.length = n) : RdC w b' o' k xs := by
  subst hn
  by_cases hp : 0 < xs.length
  · obtain ⟨A, rfl, hA⟩ := h1.eq
    obtain ⟨A', e, hA'⟩ := h2.eq
    simp only [Value.slice.injEq] at e
    have e2 := e.1.symm.trans (hA hp)
    rw [hA' hp] at e2
    simp only [Option.some.injEq, Addr.mk.injEq] at e2
    obtain ⟨rfl, rfl, _⟩ := e2
    exact hc
  · have : xs = [] := List.eq_nil_of_length_eq_zero (by omega)
    subst this
    exact fun i r hi => by simp at hi
/-- A file of the document's. -/
structure Rf where
  v : Value
  b : List UInt8
  s : Int
@[reducible] def rr (x : Rf) : List Value := [x.v, .int .i64 x.s]
def rab (fs : List Rf) : List Fa := fs.map fun x => (x.b, x.s)
@[reducible] def RO (b : Nat) (d : Dk) (fv : Value) (FB D : List (Nat × Obj)) : List (Nat × Obj) := (b, C 44 [.int .i64 d.room, fv, .int .i64 d.fuse, .bool d.down]) :: (FB ++ D)
/-- The document's disk in memory. -/
structure RRep (d : Dk) (fs : List Rf) (fv : Value) (FB D : List (Nat × Obj)) : Prop where
  sl : Sl 47 2 fv (fs.map rr) FB
  rd : ∀ x ∈ fs, RdD D x.v x.b
  ab : rab fs = d.fs
theorem RRep.four {d : Dk} {fs : List Rf} {fv : Value} {FB D : List (Nat × Obj)} (h : RRep d fs fv FB D) (ho : d.Ok) : fs.length = 4 := by
  have := ho.four
  rw [← h.ab] at this
  simpa [rab] using this
theorem rab_used (fs : List Rf) (i : Nat) : usedA (rab (fs.take i)) ≤ usedA (rab fs) := by
  have h := usedA_app (rab (fs.take i)) (rab (fs.drop i))
  unfold rab at *
  rw [← List.map_append, List.take_append_drop] at h
  omega
theorem rget_ab {fs : List Rf} {x : Rf} {i : Nat} (h : fs[i]? = some x) : (rab fs)[i]? = some (x.b, x.s) := by
  unfold rab
  rw [List.getElem?_map, h]
  rfl
theorem rab_set {fs : List Rf} {i : Nat} {x y : Rf} {g : Fa → Fa} (h : fs[i]? = some x) (hy : (y.b, y.s) = g (x.b, x.s)) : rab (fs.set i y) = upd g i (rab fs) := by
  have hi := (List.getElem?_eq_some_iff.1 h).1
  obtain ⟨p, z, s, rfl, hp⟩ := split_at hi
  have : z = x := by
    rw [List.getElem?_append_right (by omega), hp, Nat.sub_self] at h
    simpa using h
  subst this
  rw [← hp, List.set_append_right (h := Nat.le_refl _), Nat.sub_self, List.set_cons_zero]
  unfold rab
  rw [List.map_append, List.map_append, List.map_cons, List.map_cons, show p.length = (p.map fun x : Rf => (x.b, x.s)).length from by rw [List.length_map], upd_at, hy]
theorem rset_rd {D : List (Nat × Obj)} {fs : List Rf} {i : Nat} {y : Rf} (h : ∀ x ∈ fs, RdD D x.v x.b) (hy : RdD D y.v y.b) : ∀ x ∈ fs.set i y, RdD D x.v x.b := by
  intro x hx
  rcases List.mem_or_eq_of_mem_set hx with hx | rfl
  · exact h x hx
  · exact hy
theorem rmap_set {fs : List Rf} {i : Nat} {y : Rf} : (fs.map rr).set i (rr y) = (fs.set i y).map rr := List.map_set.symm
theorem rfile_at {room fuse : Int} {down : Bool} {fs : List Rf} {x : Rf} {n : Int} (hx : fs[n.toNat]? = some x) (hn : 0 ≤ n ∧ n < 4) : aFile ⟨room, fuse, down, rab fs⟩ n = (x.b, x.s) := by
  unfold aFile
  rw [if_pos hn, rget_ab hx]
  rfl
theorem rnew_any (n : Int) (w : World) : Ret Try.prog 8 #[.int .i64 n] w fun u w' => ∃ b fs fv FB, u = .pointer (some ⟨b, 0, none⟩) ∧ RRep (newD n) fs fv FB [] ∧ St w [] (RO b (newD n) fv FB []) w' := by
  have hS := St.init0 w
  refine Ret.enter Try.func8 Try.ntmps8 rfl rfl ?_
  simp only [argEnv, Nat.reduceAdd]
  refine SatC.seq ?_
  refine SatC.region ?_
  refine SatL.pu (RunV.assign rfl) rfl ?_
  refine SatL.nil (SatE.thenC ?_)
  refine SatC.seq ?_
  refine SatC.seq ?_
  refine SatC.region ?_
  refine SatL.pu (RunV.move rfl) rfl ?_
  refine SatL.pu (RunV.lss rfl rfl) rfl ?_
  refine SatL.nil (SatE.thenC ?_)
  refine SatC.cond rfl (fun h1 => ?_) (fun h1 => ?_)
  · (try simp only [cx, ne_eq] at h1)
    try (exfalso; (first | omega | exact h1 trivial | contradiction | (first | omega | (simp at h1; done))); done)
    all_goals
    refine SatC.region ?_
    refine SatL.pu (RunV.assign rfl) rfl ?_
    refine SatL.nil (SatE.thenC ?_)
    refine SatC.seq ?_
    refine SatC.seq ?_
    refine SatC.region ?_
    refine SatL.pu (RunV.move rfl) rfl ?_
    refine SatL.pu (RunV.gtr rfl rfl) rfl ?_
    refine SatL.nil (SatE.thenC ?_)
    refine SatC.cond rfl (fun h2 => ?_) (fun h2 => ?_)
    · (try simp only [cx, ne_eq] at h2)
      try (exfalso; (first | omega | exact h2 trivial | contradiction | (first | omega | (simp at h2; done))); done)
      all_goals
      refine SatC.region ?_
      refine SatL.pu (RunV.assign rfl) rfl ?_
      refine SatL.nil (SatE.thenC ?_)
      refine SatC.seq ?_
      refine SatC.region ?_
      refine SatL.pu (RunV.move rfl) rfl ?_
      refine SatL.op rfl (OpW.makeSlice (n := 4) hS rfl rfl rfl rfl rfl rfl (.agg (cs := [.slice none 0 0, .int .i64 0])) rfl rfl (by decide) (by decide) ?_)
      clear hS
      intro v8 b8 w1 _ hv8 hsl8 hS
      subst hv8
      refine SatL.pu (RunV.build rfl (by simp [go_sem]; try rfl)) rfl ?_
      refine SatL.op rfl (OpW.box hS rfl rfl (by repeat constructor) ?_)
      clear hS
      intro b10 w2 _ hS
      refine SatL.pu (RunV.assign rfl) rfl ?_
      refine SatL.nil (SatE.thenC ?_)
      refine SatC.ret ?_
      refine SatE.ret1 rfl rfl ?_
      refine ⟨_, List.replicate 4 ⟨.slice none 0 0, [], 0⟩, _, _, rfl, ⟨hsl8, fun x hx => by obtain rfl := (List.mem_replicate.1 hx).2; exact RdD.nil, rfl⟩, ?_⟩
      unfold newD
      first
      | (rw [show min (max n 0) 1048576 = 0 from by omega]; exact hS)
      | (rw [show min (max n 0) 1048576 = 1048576 from by omega]; exact hS)
      | (rw [show min (max n 0) 1048576 = n from by omega]; exact hS)
    · (try simp only [cx, ne_eq] at h2)
      try (exfalso; (first | omega | exact h2 trivial | contradiction | (first | omega | (simp at h2; done))); done)
      all_goals
      refine SatC.skip (SatE.thenC ?_)
      refine SatC.seq ?_
      refine SatC.region ?_
      refine SatL.pu (RunV.move rfl) rfl ?_
      refine SatL.op rfl (OpW.makeSlice (n := 4) hS rfl rfl rfl rfl rfl rfl (.agg (cs := [.slice none 0 0, .int .i64 0])) rfl rfl (by decide) (by decide) ?_)
      clear hS
      intro v8 b8 w1 _ hv8 hsl8 hS
      subst hv8
      refine SatL.pu (RunV.build rfl (by simp [go_sem]; try rfl)) rfl ?_
      refine SatL.op rfl (OpW.box hS rfl rfl (by repeat constructor) ?_)
      clear hS
      intro b10 w2 _ hS
      refine SatL.pu (RunV.assign rfl) rfl ?_
      refine SatL.nil (SatE.thenC ?_)
      refine SatC.ret ?_
      refine SatE.ret1 rfl rfl ?_
      refine ⟨_, List.replicate 4 ⟨.slice none 0 0, [], 0⟩, _, _, rfl, ⟨hsl8, fun x hx => by obtain rfl := (List.mem_replicate.1 hx).2; exact RdD.nil, rfl⟩, ?_⟩
      unfold newD
      first
      | (rw [show min (max n 0) 1048576 = 0 from by omega]; exact hS)
      | (rw [show min (max n 0) 1048576 = 1048576 from by omega]; exact hS)
      | (rw [show min (max n 0) 1048576 = n from by omega]; exact hS)
  · (try simp only [cx, ne_eq] at h1)
    try (exfalso; (first | omega | exact h1 trivial | contradiction | (first | omega | (simp at h1; done))); done)
    all_goals
    refine SatC.skip (SatE.thenC ?_)
    refine SatC.seq ?_
    refine SatC.seq ?_
    refine SatC.region ?_
    refine SatL.pu (RunV.move rfl) rfl ?_
    refine SatL.pu (RunV.gtr rfl rfl) rfl ?_
    refine SatL.nil (SatE.thenC ?_)
    refine SatC.cond rfl (fun h2 => ?_) (fun h2 => ?_)
    · (try simp only [cx, ne_eq] at h2)
      try (exfalso; (first | omega | exact h2 trivial | contradiction | (first | omega | (simp at h2; done))); done)
      all_goals
      refine SatC.region ?_
      refine SatL.pu (RunV.assign rfl) rfl ?_
      refine SatL.nil (SatE.thenC ?_)
      refine SatC.seq ?_
      refine SatC.region ?_
      refine SatL.pu (RunV.move rfl) rfl ?_
      refine SatL.op rfl (OpW.makeSlice (n := 4) hS rfl rfl rfl rfl rfl rfl (.agg (cs := [.slice none 0 0, .int .i64 0])) rfl rfl (by decide) (by decide) ?_)
      clear hS
      intro v8 b8 w1 _ hv8 hsl8 hS
      subst hv8
      refine SatL.pu (RunV.build rfl (by simp [go_sem]; try rfl)) rfl ?_
      refine SatL.op rfl (OpW.box hS rfl rfl (by repeat constructor) ?_)
      clear hS
      intro b10 w2 _ hS
      refine SatL.pu (RunV.assign rfl) rfl ?_
      refine SatL.nil (SatE.thenC ?_)
      refine SatC.ret ?_
      refine SatE.ret1 rfl rfl ?_
      refine ⟨_, List.replicate 4 ⟨.slice none 0 0, [], 0⟩, _, _, rfl, ⟨hsl8, fun x hx => by obtain rfl := (List.mem_replicate.1 hx).2; exact RdD.nil, rfl⟩, ?_⟩
      unfold newD
      first
      | (rw [show min (max n 0) 1048576 = 0 from by omega]; exact hS)
      | (rw [show min (max n 0) 1048576 = 1048576 from by omega]; exact hS)
      | (rw [show min (max n 0) 1048576 = n from by omega]; exact hS)
    · (try simp only [cx, ne_eq] at h2)
      try (exfalso; (first | omega | exact h2 trivial | contradiction | (first | omega | (simp at h2; done))); done)
      all_goals
      refine SatC.skip (SatE.thenC ?_)
      refine SatC.seq ?_
      refine SatC.region ?_
      refine SatL.pu (RunV.move rfl) rfl ?_
      refine SatL.op rfl (OpW.makeSlice (n := 4) hS rfl rfl rfl rfl rfl rfl (.agg (cs := [.slice none 0 0, .int .i64 0])) rfl rfl (by decide) (by decide) ?_)
      clear hS
      intro v8 b8 w1 _ hv8 hsl8 hS
      subst hv8
      refine SatL.pu (RunV.build rfl (by simp [go_sem]; try rfl)) rfl ?_
      refine SatL.op rfl (OpW.box hS rfl rfl (by repeat constructor) ?_)
      clear hS
      intro b10 w2 _ hS
      refine SatL.pu (RunV.assign rfl) rfl ?_
      refine SatL.nil (SatE.thenC ?_)
      refine SatC.ret ?_
      refine SatE.ret1 rfl rfl ?_
      refine ⟨_, List.replicate 4 ⟨.slice none 0 0, [], 0⟩, _, _, rfl, ⟨hsl8, fun x hx => by obtain rfl := (List.mem_replicate.1 hx).2; exact RdD.nil, rfl⟩, ?_⟩
      unfold newD
      first
      | (rw [show min (max n 0) 1048576 = 0 from by omega]; exact hS)
      | (rw [show min (max n 0) 1048576 = 1048576 from by omega]; exact hS)
      | (rw [show min (max n 0) 1048576 = n from by omega]; exact hS)
section
variable {b : Nat} {d : Dk} {fs : List Rf} {fv : Value} {FB D : List (Nat × Obj)} {w : World}
theorem rused_any (ho : d.Ok) (hr : RRep d fs fv FB D) (hown : Own w (RO b d fv FB D)) : Ret Try.prog 18 #[.pointer (some ⟨b, 0, none⟩)] w fun u w' => u = .int .i64 (usedA d.fs : Int) ∧ St w [] [] w' := by
  have hS := St.init hown
  have h4 := hr.four ho
  have hroom := ho.room
  have hus := ho.used
  have hsl := hr.sl
  obtain ⟨fc, hfv⟩ := hsl.slv
  rw [List.length_map] at hfv
  rw [← hr.ab] at hus ⊢
  generalize hX : (RO b d fv FB D).map Prod.fst = X at hS
  refine Ret.enter Try.func18 Try.ntmps18 rfl rfl ?_
  simp only [argEnv, Nat.reduceAdd]
  refine SatC.seq ?_
  refine SatC.region ?_
  refine SatL.pu (RunV.assign rfl) rfl ?_
  refine SatL.nil (SatE.thenC ?_)
  refine SatC.seq ?_
  refine SatC.region ?_
  refine SatL.pu (RunV.assign rfl) rfl ?_
  refine SatL.nil (SatE.thenC ?_)
  refine SatC.seq ?_
  refine SatC.seq ?_
  refine SatC.region ?_
  refine SatL.pu (RunV.assign rfl) rfl ?_
  refine SatL.nil (SatE.thenC ?_)
  refine SatC.block ?_
  refine SatC.loopK (G := Nat) (V := fun i => [(4, .int .i64 (i : Int)), (3, .int .i64 (usedA (rab (fs.take i)) : Int))]) (Cn := [(0, _), (2, _)]) (I := fun i w' => i ≤ 4 ∧ St w X (RO b d fv FB D) w') (μ := fun i => 4 - i) 0 ?_ (by repeat constructor) ?_
  · exact ⟨Nat.zero_le _, hS⟩
  clear hS
  rintro i w1 ⟨hi, hS⟩
  refine SatC.weak (e' := [(0, _), (2, _), (3, _), (4, _)]) (by repeat constructor) ?_
  refine SatC.seq ?_
  refine SatC.seq ?_
  refine SatC.region ?_
  refine SatL.pu (RunV.move rfl) rfl ?_
  refine SatL.pu (RunV.lss rfl rfl) rfl ?_
  refine SatL.nil (SatE.thenC ?_)
  refine SatC.cond rfl (fun h1 => ?_) (fun h1 => ?_)
  · (try simp only [cx, ne_eq] at h1)
    try (exfalso; (first | omega | exact h1 trivial | contradiction | (first | omega | (simp at h1; done))); done)
    all_goals
    refine SatC.skip (SatE.thenC ?_)
    refine SatC.seq ?_
    refine SatC.block ?_
    obtain ⟨y, hy⟩ := get_some fs i (by omega)
    obtain ⟨⟨yb, yo, yc, hyv⟩, _⟩ := hr.rd y (List.mem_of_getElem? hy)
    have htk : usedA (rab (fs.take (i + 1))) = usedA (rab (fs.take i)) + y.b.length := by rw [List.take_add_one, hy]; unfold rab; rw [List.map_append, usedA_app]; rfl
    have hle := rab_used fs (i + 1)
    refine SatC.region ?_
    refine SatL.pu (RunV.move rfl) rfl ?_
    refine SatL.pu (RunV.move rfl) rfl ?_
    first | refine SatL.pu (RunV.nil_ptr rfl) rfl ?_ | refine SatL.pu (RunV.nil_func rfl) rfl ?_ | refine SatL.pu (RunV.nil_yield rfl) rfl ?_
    first | refine SatL.pu (RunV.fieldAddrL rfl rfl rfl) rfl ?_ | refine SatL.pu (RunV.fieldAddr rfl rfl rfl) rfl ?_
    refine SatL.pu (RunV.load1 hS rfl rfl (by repeat constructor) rfl) rfl ?_
    refine SatL.pu (RunV.move rfl) rfl ?_
    first | refine SatL.pu (RunV.indexR (by assumption) rfl rfl rfl (by omega) (by omega) rfl) rfl ?_ | refine SatL.pu (RunV.indexS rfl rfl rfl (by omega) (by omega) rfl) rfl ?_
    first | refine SatL.pu (RunV.fieldAddrL rfl rfl rfl) rfl ?_ | refine SatL.pu (RunV.fieldAddr rfl rfl rfl) rfl ?_
    refine SatL.pu (RunV.loadR1g i 0 (Sl.rd hsl hS (by repeat constructor)) rfl rfl (by omega) (map_get hy) rfl) rfl ?_
    first | refine SatL.pu (RunV.lenR (by assumption) rfl rfl) rfl ?_ | refine SatL.pu (RunV.lenS rfl rfl) rfl ?_
    refine SatL.pu (RunV.add rfl rfl (by first | exact wrapI64 (by omega) | rfl)) rfl ?_
    refine SatL.pu (RunV.assign rfl) rfl ?_
    refine SatL.nil (SatE.blk_normal (SatE.thenC ?_))
    refine SatC.weak (e' := [(0, _), (2, _), (3, _), (4, _)]) (by repeat constructor) ?_
    refine SatC.region ?_
    refine SatL.pu (RunV.move rfl) rfl ?_
    refine SatL.pu (RunV.add rfl rfl (by first | exact wrapI64 (by omega) | rfl)) rfl ?_
    refine SatL.pu (RunV.assign rfl) rfl ?_
    refine SatL.nil ?_
    (refine SatE.again (i + 1) ⟨by omega, hS.sel (by repeat constructor)⟩ (by omega) ?_
     rw [show ((usedA (rab (fs.take (i + 1))) : Nat) : Int) = (usedA (rab (fs.take i)) : Int) + (y.b.length : Int) from by omega]
     repeat constructor)
  · (try simp only [cx, ne_eq] at h1)
    try (exfalso; (first | omega | exact h1 trivial | contradiction | (first | omega | (simp at h1; done))); done)
    all_goals
    refine SatC.exit (SatE.then_exit (SatE.then_exit (SatE.blk_exit (SatE.thenC ?_))))
    refine SatC.seq ?_
    have he : fs.take i = fs := List.take_of_length_le (by omega)
    rw [he]
    refine SatC.region ?_
    refine SatL.pu (RunV.move rfl) rfl ?_
    refine SatL.pu (RunV.assign rfl) rfl ?_
    refine SatL.nil (SatE.thenC ?_)
    refine SatC.ret ?_
    refine SatE.ret1 rfl rfl ?_
    exact ⟨rfl, St.roL (L' := []) hown (by rw [hX]; exact hS) .all⟩
theorem goes_any (hf : -1 ≤ d.fuse ∧ d.fuse ≤ 9223372036854775807) {fv : Value} (hown : Own w [(b, C 44 [.int .i64 d.room, fv, .int .i64 d.fuse, .bool d.down])]) : Ret Try.prog 45 #[.pointer (some ⟨b, 0, none⟩)] w fun u w' => u = .bool (decide (d.fuse = 0)) ∧ St w [b] [(b, C 44 [.int .i64 d.room, fv, .int .i64 (burnF d.fuse), .bool (d.down || decide (d.fuse = 0))])] w' := by
  have hS := St.init hown
  simp only [List.map_cons, List.map_nil] at hS
  refine Ret.enter Try.func45 Try.ntmps45 rfl rfl ?_
  simp only [argEnv, Nat.reduceAdd]
  refine SatC.seq ?_
  refine SatC.region ?_
  refine SatL.pu (RunV.assign rfl) rfl ?_
  refine SatL.nil (SatE.thenC ?_)
  refine SatC.seq ?_
  refine SatC.seq ?_
  refine SatC.region ?_
  refine SatL.pu (RunV.move rfl) rfl ?_
  first | refine SatL.pu (RunV.nil_ptr rfl) rfl ?_ | refine SatL.pu (RunV.nil_func rfl) rfl ?_ | refine SatL.pu (RunV.nil_yield rfl) rfl ?_
  first | refine SatL.pu (RunV.fieldAddrL rfl rfl rfl) rfl ?_ | refine SatL.pu (RunV.fieldAddr rfl rfl rfl) rfl ?_
  refine SatL.pu (RunV.load1 hS rfl rfl (by repeat constructor) rfl) rfl ?_
  refine SatL.pu (RunV.eql rfl rfl) rfl ?_
  refine SatL.nil (SatE.thenC ?_)
  refine SatC.cond rfl (fun h1 => ?_) (fun h1 => ?_)
  · (try simp only [cx, ne_eq] at h1)
    try (exfalso; (first | omega | exact h1 trivial | contradiction | (first | omega | (simp at h1; done))); done)
    all_goals
    refine SatC.seq ?_
    refine SatC.region ?_
    refine SatL.pu (RunV.move rfl) rfl ?_
    first | refine SatL.pu (RunV.nil_ptr rfl) rfl ?_ | refine SatL.pu (RunV.nil_func rfl) rfl ?_ | refine SatL.pu (RunV.nil_yield rfl) rfl ?_
    first | refine SatL.pu (RunV.fieldAddrL rfl rfl rfl) rfl ?_ | refine SatL.pu (RunV.fieldAddr rfl rfl rfl) rfl ?_
    refine SatL.op rfl (OpW.store hS rfl rfl (by repeat constructor) (by repeat constructor) (by repeat constructor) rfl rfl ?_)
    clear hS
    intro w1 hS
    refine SatL.nil (SatE.thenC ?_)
    refine SatC.seq ?_
    refine SatC.region ?_
    refine SatL.pu (RunV.assign rfl) rfl ?_
    refine SatL.nil (SatE.thenC ?_)
    refine SatC.ret (SatE.then_ret ?_)
    refine SatE.ret1 rfl rfl ?_
    first
    | (have e0 : ¬ d.fuse = 0 := by omega
       rw [show burnF d.fuse = d.fuse from if_neg (by omega), decide_eq_false e0, Bool.or_false]; exact ⟨rfl, hS⟩)
    | (have e0 : d.fuse = 0 := by omega
       rw [show burnF d.fuse = d.fuse from if_neg (by omega), decide_eq_true e0, Bool.or_true]; exact ⟨rfl, hS⟩)
    | (have e0 : ¬ d.fuse = 0 := by omega
       rw [show burnF d.fuse = d.fuse - 1 from if_pos (by omega), decide_eq_false e0, Bool.or_false]; exact ⟨rfl, hS⟩)
  · (try simp only [cx, ne_eq] at h1)
    try (exfalso; (first | omega | exact h1 trivial | contradiction | (first | omega | (simp at h1; done))); done)
    all_goals
    refine SatC.skip (SatE.thenC ?_)
    refine SatC.seq ?_
    refine SatC.seq ?_
    refine SatC.region ?_
    refine SatL.pu (RunV.move rfl) rfl ?_
    first | refine SatL.pu (RunV.nil_ptr rfl) rfl ?_ | refine SatL.pu (RunV.nil_func rfl) rfl ?_ | refine SatL.pu (RunV.nil_yield rfl) rfl ?_
    first | refine SatL.pu (RunV.fieldAddrL rfl rfl rfl) rfl ?_ | refine SatL.pu (RunV.fieldAddr rfl rfl rfl) rfl ?_
    refine SatL.pu (RunV.load1 hS rfl rfl (by repeat constructor) rfl) rfl ?_
    refine SatL.pu (RunV.gtr rfl rfl) rfl ?_
    refine SatL.nil (SatE.thenC ?_)
    refine SatC.cond rfl (fun h2 => ?_) (fun h2 => ?_)
    · (try simp only [cx, ne_eq] at h2)
      try (exfalso; (first | omega | exact h2 trivial | contradiction | (first | omega | (simp at h2; done))); done)
      all_goals
      refine SatC.region ?_
      refine SatL.pu (RunV.move rfl) rfl ?_
      refine SatL.pu (RunV.move rfl) rfl ?_
      first | refine SatL.pu (RunV.nil_ptr rfl) rfl ?_ | refine SatL.pu (RunV.nil_func rfl) rfl ?_ | refine SatL.pu (RunV.nil_yield rfl) rfl ?_
      first | refine SatL.pu (RunV.fieldAddrL rfl rfl rfl) rfl ?_ | refine SatL.pu (RunV.fieldAddr rfl rfl rfl) rfl ?_
      refine SatL.pu (RunV.load1 hS rfl rfl (by repeat constructor) rfl) rfl ?_
      refine SatL.pu (RunV.sub rfl rfl (by first | exact wrapI64 (by omega) | rfl)) rfl ?_
      first | refine SatL.pu (RunV.nil_ptr rfl) rfl ?_ | refine SatL.pu (RunV.nil_func rfl) rfl ?_ | refine SatL.pu (RunV.nil_yield rfl) rfl ?_
      first | refine SatL.pu (RunV.fieldAddrL rfl rfl rfl) rfl ?_ | refine SatL.pu (RunV.fieldAddr rfl rfl rfl) rfl ?_
      refine SatL.op rfl (OpW.store hS rfl rfl (by repeat constructor) (by repeat constructor) (by repeat constructor) rfl rfl ?_)
      clear hS
      intro w1 hS
      refine SatL.nil (SatE.thenC ?_)
      refine SatC.seq ?_
      refine SatC.weak (e' := [(2, _)]) (by repeat constructor) ?_
      refine SatC.region ?_
      refine SatL.pu (RunV.assign rfl) rfl ?_
      refine SatL.nil (SatE.thenC ?_)
      refine SatC.ret ?_
      refine SatE.ret1 rfl rfl ?_
      first
      | (have e0 : ¬ d.fuse = 0 := by omega
         rw [show burnF d.fuse = d.fuse from if_neg (by omega), decide_eq_false e0, Bool.or_false]; exact ⟨rfl, hS⟩)
      | (have e0 : d.fuse = 0 := by omega
         rw [show burnF d.fuse = d.fuse from if_neg (by omega), decide_eq_true e0, Bool.or_true]; exact ⟨rfl, hS⟩)
      | (have e0 : ¬ d.fuse = 0 := by omega
         rw [show burnF d.fuse = d.fuse - 1 from if_pos (by omega), decide_eq_false e0, Bool.or_false]; exact ⟨rfl, hS⟩)
    · (try simp only [cx, ne_eq] at h2)
      try (exfalso; (first | omega | exact h2 trivial | contradiction | (first | omega | (simp at h2; done))); done)
      all_goals
      refine SatC.skip (SatE.thenC ?_)
      refine SatC.seq ?_
      refine SatC.region ?_
      refine SatL.pu (RunV.assign rfl) rfl ?_
      refine SatL.nil (SatE.thenC ?_)
      refine SatC.ret ?_
      refine SatE.ret1 rfl rfl ?_
      first
      | (have e0 : ¬ d.fuse = 0 := by omega
         rw [show burnF d.fuse = d.fuse from if_neg (by omega), decide_eq_false e0, Bool.or_false]; exact ⟨rfl, hS⟩)
      | (have e0 : d.fuse = 0 := by omega
         rw [show burnF d.fuse = d.fuse from if_neg (by omega), decide_eq_true e0, Bool.or_true]; exact ⟨rfl, hS⟩)
      | (have e0 : ¬ d.fuse = 0 := by omega
         rw [show burnF d.fuse = d.fuse - 1 from if_pos (by omega), decide_eq_false e0, Bool.or_false]; exact ⟨rfl, hS⟩)
end
end Go.Proofs.Ytahholhggohbnaa
