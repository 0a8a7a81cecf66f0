/- The disk: four files, the room, the fuse; none, there, used, burns. -/
import Derived.Test.YtahholhggohbnaaProg
import Derived.Test.YtahholhggohbnaaChecked
import Derived.Test.YtahholhggohbnaaK22
import Derived.Test.YtahholhggohbnaaK27
import Derived.Test.YtahholhggohbnaaK28
set_option linter.unusedSimpArgs false
set_option linter.unusedVariables false
set_option maxRecDepth 100000
set_option maxHeartbeats 4000000
namespace Go.Proofs.Ytahholhggohbnaa
open Go.RowKit
/-- A file: the place of its bytes, the bytes, how many are synced, the blocks they lie in. -/
structure Fi where
  v : Value
  b : List UInt8
  s : Int
  B : List (Nat × Obj)
@[reducible] def fir (x : Fi) : List Value := [x.v, .int .i64 x.s]
theorem fir_len (x : Fi) : (fir x).length = 2 := rfl
def dcs (room fuse : Int) (down : Bool) (fs : List Fi) : List Value := [.bool true, .int .i64 room] ++ (fs.flatMap fir ++ [.int .i64 fuse, .bool down])
@[reducible] def dbl (fs : List Fi) : List (Nat × Obj) := fs.flatMap (·.B)
@[reducible] def DO (b : Nat) (room fuse : Int) (down : Bool) (fs : List Fi) : List (Nat × Obj) := (b, C 53 (dcs room fuse down fs)) :: dbl fs
theorem fs_len {fs : List Fi} (h : fs.length = 4) : (fs.flatMap fir).length = 8 := by rw [slots_len fir_len, h]
section
variable {room fuse : Int} {down : Bool} {fs p s : List Fi} {x : Fi}
theorem dcs_len (h : fs.length = 4) : (dcs room fuse down fs).length = 12 := by
  unfold dcs
  rw [List.length_append, List.length_append, fs_len h]; rfl
theorem dget {o j : Nat} {v : Value} (ho : o = 2 + p.length * 2 + j) (hv : (fir x)[j]? = some v) : (dcs room fuse down (p ++ x :: s))[o]? = some v := slots_get fir_len ho hv
theorem dset {o j : Nat} {v : Value} {y : Fi} (ho : o = 2 + p.length * 2 + j) (hj : j < 2) (hy : (fir x).set j v = fir y) : (dcs room fuse down (p ++ x :: s)).set o v = dcs room fuse down (p ++ y :: s) := slots_setj fir_len ho hj hy
theorem drow {o : Nat} {y : Fi} (ho : o = 2 + p.length * 2) : (dcs room fuse down (p ++ x :: s)).take o ++ fir y ++ (dcs room fuse down (p ++ x :: s)).drop (o + (fir y).length) = dcs room fuse down (p ++ y :: s) := slots_set fir_len ho
theorem dfuse (h : fs.length = 4) : (dcs room fuse down fs)[10]? = some (.int .i64 fuse) := by
  unfold dcs
  have := fs_len h
  rw [List.getElem?_append_right (by simp), List.getElem?_append_right (by rw [this]; simp)]
  simp [this]
theorem ddown (h : fs.length = 4) : (dcs room fuse down fs)[11]? = some (.bool down) := by
  unfold dcs
  have := fs_len h
  rw [List.getElem?_append_right (by simp), List.getElem?_append_right (by rw [this]; simp)]
  simp [this]
theorem dfuse_set (h : fs.length = 4) (n : Int) : (dcs room fuse down fs).set 10 (.int .i64 n) = dcs room n down fs := by
  unfold dcs
  have := fs_len h
  rw [List.set_append_right (h := by simp), List.set_append_right (h := by rw [this]; simp)]
  simp [this]
theorem ddown_set (h : fs.length = 4) (n : Bool) : (dcs room fuse down fs).set 11 (.bool n) = dcs room fuse n fs := by
  unfold dcs
  have := fs_len h
  rw [List.set_append_right (h := by simp), List.set_append_right (h := by rw [this]; simp)]
  simp [this]
end
/-- The files' bytes lie in blocks of their own; what is synced is a part of them. -/
def FOk (fs : List Fi) : Prop := fs.length = 4 ∧ ∀ x ∈ fs, Sl 5 1 x.v (x.b.map by1c) x.B ∧ 0 ≤ x.s ∧ x.s ≤ x.b.length
def usedF : List Fi → Nat
  | [] => 0
  | x :: l => x.b.length + usedF l
theorem usedF_app (a b : List Fi) : usedF (a ++ b) = usedF a + usedF b := by
  induction a with
  | nil => simp [usedF]
  | cons x a ih => simp only [List.cons_append, usedF, ih]; omega
theorem usedF_take {fs : List Fi} {i : Nat} : usedF (fs.take i) ≤ usedF fs := by
  have h := usedF_app (fs.take i) (fs.drop i)
  rw [List.take_append_drop] at h
  omega
def VF (fs : List Fi) : Prop := ∀ x ∈ fs, ∃ b o c, SlV x.v b o x.b.length c
theorem FOk.vf {fs : List Fi} (h : FOk fs) : VF fs := fun x hx => by
  obtain ⟨c, hc⟩ := ((h.2 x hx).1).slv
  rw [List.length_map] at hc
  exact ⟨_, _, _, hc⟩
theorem slv_one {v : Value} {b o n c : Nat} (h : SlV v b o n c) : v.oneCell' = true := by
  obtain ⟨A, rfl, _⟩ := h.eq
  rfl
theorem there_any (n : Int) (w : World) : Ret Try.prog 26 #[.int .i64 n] w fun u w' => u = .bool (decide (0 ≤ n ∧ n < 4)) ∧ St w [] [] w' := by
  have hS := St.init0 w
  refine Ret.enter Try.func26 Try.ntmps26 rfl rfl ?_
  simp only [argEnv, Nat.reduceAdd]
  refine SatC.seq ?_
  refine SatC.region ?_
  refine SatL.pu (RunV.assign rfl) rfl ?_
  refine SatL.nil (SatE.thenC ?_)
  refine SatC.seq ?_
  refine SatC.region ?_
  refine SatL.pu (RunV.move rfl) rfl ?_
  refine SatL.pu (RunV.geq rfl rfl) rfl ?_
  refine SatL.pu (RunV.move rfl) rfl ?_
  refine SatL.guard rfl rfl rfl (fun h1 => ?_) (fun h1 => ?_)
  · (try simp only [cx, ne_eq] at h1)
    try (exfalso; (first | omega | exact h1 trivial | contradiction | (simp at h1; done)); done)
    all_goals
    refine SatL.pu (RunV.move rfl) rfl ?_
    refine SatL.guard_y rfl rfl ?_
    refine SatL.pu (RunV.lss rfl rfl) rfl ?_
    refine SatL.pu (RunV.pick_t rfl rfl) rfl ?_
    refine SatL.pu (RunV.assign rfl) rfl ?_
    refine SatL.nil (SatE.thenC ?_)
    refine SatC.ret ?_
    refine SatE.ret1 rfl rfl ?_
    refine ⟨congrArg Value.bool ?_, hS⟩
    rw [Bool.eq_iff_iff]; simp only [decide_eq_true_eq, Bool.false_eq_true, false_iff]; omega
  · (try simp only [cx, ne_eq] at h1)
    try (exfalso; (first | omega | exact h1 trivial | contradiction | (simp at h1; done)); done)
    all_goals
    refine SatL.guard_n rfl rfl rfl rfl ?_
    refine SatL.pu (RunV.pick_f rfl rfl) rfl ?_
    refine SatL.pu (RunV.assign rfl) rfl ?_
    refine SatL.nil (SatE.thenC ?_)
    refine SatC.ret ?_
    refine SatE.ret1 rfl rfl ?_
    refine ⟨congrArg Value.bool ?_, hS⟩
    rw [Bool.eq_iff_iff]; simp only [decide_eq_true_eq, Bool.false_eq_true, false_iff]; omega
theorem dnew_any (n : Int) (w : World) : Ret Try.prog 7 #[.int .i64 n] w fun u w' => ∃ b fs, u = .pointer (some ⟨b, 0, none⟩) ∧ fs = List.replicate 4 ⟨.slice none 0 0, [], 0, []⟩ ∧ St w [] (DO b (min (max n 0) 1048576) (-1) false fs) w' := by
  have hS := St.init0 w
  refine Ret.enter Try.func7 Try.ntmps7 rfl rfl ?_
  simp only [argEnv, Nat.reduceAdd]
  refine SatC.seq ?_
  refine SatC.region ?_
  refine SatL.pu (RunV.assign rfl) rfl ?_
  refine SatL.nil (SatE.thenC ?_)
  refine SatC.seq ?_
  refine SatC.region ?_
  refine SatL.pu (RunV.move rfl) rfl ?_
  refine SatL.pu (RunV.max2 rfl rfl) rfl ?_
  refine SatL.pu (RunV.min2 rfl rfl) rfl ?_
  refine SatL.pu (RunV.build rfl (by simp [go_sem]; try rfl)) rfl ?_
  refine SatL.op rfl (OpW.box hS rfl rfl (by repeat constructor) ?_)
  clear hS
  intro b7 w1 _ hS
  refine SatL.pu (RunV.assign rfl) rfl ?_
  refine SatL.nil (SatE.thenC ?_)
  refine SatC.ret ?_
  refine SatE.ret1 rfl rfl ?_
  exact ⟨_, _, rfl, rfl, hS⟩
section
variable {b : Nat} {room fuse : Int} {down : Bool} {fs : List Fi} {w : World}
theorem dnone_any (hown : Own w [(b, C 53 (dcs room fuse down fs))]) : Ret Try.prog 39 #[.pointer (some ⟨b, 0, none⟩)] w fun u w' => u = .bool false ∧ St w [] [] w' := by
  have hS := St.init hown
  simp only [List.map_cons, List.map_nil] at hS
  refine Ret.enter Try.func39 Try.ntmps39 rfl rfl ?_
  simp only [argEnv, Nat.reduceAdd]
  refine SatC.seq ?_
  refine SatC.region ?_
  refine SatL.pu (RunV.assign rfl) rfl ?_
  refine SatL.nil (SatE.thenC ?_)
  refine SatC.seq ?_
  refine SatC.region ?_
  refine SatL.pu (RunV.move rfl) rfl ?_
  refine SatL.pu (RunV.eqlPtrNil rfl rfl rfl) rfl ?_
  refine SatL.pu (RunV.move rfl) rfl ?_
  refine SatL.guard rfl rfl rfl (fun h1 => ?_) (fun h1 => ?_)
  · (try simp only [cx, ne_eq] at h1)
    try (exfalso; (first | omega | exact h1 trivial | contradiction | (simp at h1; done)); done)
    all_goals
    refine SatL.pu (RunV.move rfl) rfl ?_
    refine SatL.guard_y rfl rfl ?_
    first | refine SatL.pu (RunV.nil_ptr rfl) rfl ?_ | refine SatL.pu (RunV.nil_func rfl) rfl ?_ | refine SatL.pu (RunV.nil_yield rfl) rfl ?_
    refine SatL.guard_y rfl rfl ?_
    first | refine SatL.pu (RunV.fieldAddrL rfl rfl rfl) rfl ?_ | refine SatL.pu (RunV.fieldAddr rfl rfl rfl) rfl ?_
    refine SatL.guard_y rfl rfl ?_
    refine SatL.pu (RunV.load1 hS rfl rfl (by repeat constructor) rfl) rfl ?_
    refine SatL.guard_y rfl rfl ?_
    refine SatL.pu (RunV.not rfl) rfl ?_
    refine SatL.pu (RunV.pick_f rfl rfl) rfl ?_
    refine SatL.pu (RunV.assign rfl) rfl ?_
    refine SatL.nil (SatE.thenC ?_)
    refine SatC.ret ?_
    refine SatE.ret1 rfl rfl ?_
    exact ⟨by simp_all, St.ro hown hS (by repeat constructor)⟩
  · (try simp only [cx, ne_eq] at h1)
    try (exfalso; (first | omega | exact h1 trivial | contradiction | (simp at h1; done)); done)
    all_goals
    refine SatL.guard_n rfl rfl rfl rfl ?_
    refine SatL.guard_n rfl rfl rfl rfl ?_
    refine SatL.guard_n rfl rfl rfl rfl ?_
    refine SatL.guard_n rfl rfl rfl rfl ?_
    refine SatL.pu (RunV.pick_t rfl rfl) rfl ?_
    refine SatL.pu (RunV.assign rfl) rfl ?_
    refine SatL.nil (SatE.thenC ?_)
    refine SatC.ret ?_
    refine SatE.ret1 rfl rfl ?_
    exact ⟨by simp_all, St.ro hown hS (by repeat constructor)⟩
theorem used_any (h4 : fs.length = 4) (hvf : VF fs) (hub : usedF fs ≤ 4000000) (hown : Own w [(b, C 53 (dcs room fuse down fs))]) : Ret Try.prog 17 #[.pointer (some ⟨b, 0, none⟩)] w fun u w' => u = .int .i64 (usedF fs : Int) ∧ St w [] [] w' := by
  have hS := St.init hown
  have hro : ∀ {L w'}, St w [b] (L ++ [(b, C 53 (dcs room fuse down fs))]) w' → St w [] L w' := fun h => St.roL hown (by simpa only [List.map_cons, List.map_nil] using h.perm List.perm_append_comm) .here
  simp only [List.map_cons, List.map_nil] at hS
  refine Ret.enter Try.func17 Try.ntmps17 rfl rfl ?_
  simp only [argEnv, Nat.reduceAdd]
  refine SatC.seq ?_
  refine SatC.region ?_
  refine SatL.pu (RunV.assign rfl) rfl ?_
  refine SatL.nil (SatE.thenC ?_)
  refine SatC.seq ?_
  refine SatC.seq ?_
  refine SatC.region ?_
  refine SatL.pu (RunV.move rfl) rfl ?_
  refine SatL.op rfl (OpW.enter rfl rfl rfl (rfl) (dnone_any (hS.ownT (A := [(b, C 53 (dcs room fuse down fs))]) (by repeat constructor))) ?_)
  rintro r1 w1 ⟨rfl, h⟩
  replace hS := St.callN hS h
  refine SatL.nil (SatE.thenC ?_)
  refine SatC.cond rfl (fun h1 => ?_) (fun h1 => ?_)
  · (try simp only [cx, ne_eq] at h1)
    try (exfalso; (first | omega | exact h1 trivial | contradiction | (simp at h1; done)); done)
    all_goals
    refine SatC.seq ?_
    refine SatC.region ?_
    refine SatL.pu (RunV.assign rfl) rfl ?_
    refine SatL.nil (SatE.thenC ?_)
    refine SatC.ret (SatE.then_ret ?_)
    refine SatE.ret1 rfl rfl ?_
    exact ⟨rfl, hro (L := []) (hS.sel (by repeat constructor))⟩
  · (try simp only [cx, ne_eq] at h1)
    try (exfalso; (first | omega | exact h1 trivial | contradiction | (simp at h1; done)); done)
    all_goals
    refine SatC.skip (SatE.thenC ?_)
    refine SatC.seq ?_
    refine SatC.region ?_
    refine SatL.pu (RunV.assign rfl) rfl ?_
    refine SatL.nil (SatE.thenC ?_)
    refine SatC.seq ?_
    refine SatC.seq ?_
    refine SatC.region ?_
    refine SatL.pu (RunV.move rfl) rfl ?_
    first | refine SatL.pu (RunV.nil_ptr rfl) rfl ?_ | refine SatL.pu (RunV.nil_func rfl) rfl ?_ | refine SatL.pu (RunV.nil_yield rfl) rfl ?_
    first | refine SatL.pu (RunV.fieldAddrL rfl rfl rfl) rfl ?_ | refine SatL.pu (RunV.fieldAddr rfl rfl rfl) rfl ?_
    refine SatL.pu (RunV.loadMid hS rfl rfl (by repeat constructor) rfl (fs_len h4)) rfl ?_
    refine SatL.pu (RunV.move rfl) rfl ?_
    refine SatL.nil (SatE.thenC ?_)
    refine SatC.block ?_
    refine SatC.loopK (G := Nat) (V := fun i => [(12, .int .i64 (i : Int)), (3, .int .i64 (usedF (fs.take i) : Int))]) (Cn := [(2, _), (11, _)]) (I := fun i w' => i ≤ 4 ∧ St w [b] [(b, C 53 (dcs room fuse down fs))] w') (μ := fun i => 4 - i) 0 ?_ (by repeat constructor) ?_
    · exact ⟨Nat.zero_le _, hS.sel (by repeat constructor)⟩
    clear hS
    rintro i w2 ⟨hi, hS⟩
    refine SatC.weak (e' := [(2, _), (3, _), (11, _), (12, _)]) (by repeat constructor) ?_
    refine SatC.seq ?_
    refine SatC.region ?_
    refine SatL.pu (RunV.lss rfl rfl) rfl ?_
    refine SatL.nil (SatE.thenC ?_)
    refine SatC.seq ?_
    refine SatC.cond rfl (fun h2 => ?_) (fun h2 => ?_)
    · (try simp only [cx, ne_eq] at h2)
      try (exfalso; (first | omega | exact h2 trivial | contradiction | (simp at h2; done)); done)
      all_goals
      refine SatC.skip (SatE.thenC ?_)
      refine SatC.seq ?_
      refine SatC.block ?_
      refine SatC.seq ?_
      obtain ⟨y, hy⟩ := get_some fs i (by omega)
      obtain ⟨yb, yo, yc, hyv⟩ := hvf y (List.mem_of_getElem? hy)
      have hy1 := slv_one hyv
      have htk : usedF (fs.take (i + 1)) = usedF (fs.take i) + y.b.length := by rw [List.take_add_one, hy, usedF_app]; rfl
      have hle := usedF_take (fs := fs) (i := i + 1)
      refine SatC.region ?_
      refine SatL.pu (RunV.indexVRow (rows := fs.map fir) (k := 2) rfl rfl rfl rfl (by intro r hr; obtain ⟨x, _, rfl⟩ := List.mem_map.1 hr; rfl) (by omega) (by omega) (map_get hy)) rfl ?_
      refine SatL.op rfl (OpW.alloc hS rfl rfl (by repeat constructor) ?_)
      clear hS
      intro b5 w3 _ hS
      refine SatL.op rfl (OpW.store hS rfl rfl (by repeat constructor) (by repeat constructor) (by repeat constructor) rfl (by simp only [List.all_cons, List.all_nil, hy1, Bool.and_true]; rfl) ?_)
      clear hS
      intro w4 hS
      refine SatL.nil (SatE.thenC ?_)
      refine SatC.region ?_
      refine SatL.pu (RunV.move rfl) rfl ?_
      first | refine SatL.pu (RunV.fieldAddrL rfl rfl rfl) rfl ?_ | refine SatL.pu (RunV.fieldAddr rfl rfl rfl) rfl ?_
      refine SatL.pu (RunV.load1 hS rfl rfl (by repeat constructor) rfl) rfl ?_
      first | refine SatL.pu (RunV.lenR (by assumption) rfl rfl) rfl ?_ | refine SatL.pu (RunV.lenS rfl rfl) rfl ?_
      refine SatL.pu (RunV.add rfl rfl (by first | exact wrapI64 (by omega) | rfl)) rfl ?_
      refine SatL.pu (RunV.assign rfl) rfl ?_
      refine SatL.nil (SatE.blk_normal (SatE.thenC ?_))
      refine SatC.region ?_
      refine SatL.pu (RunV.add rfl rfl (by first | exact wrapI64 (by omega) | rfl)) rfl ?_
      refine SatL.pu (RunV.move rfl) rfl ?_
      refine SatL.nil ?_
      (refine SatE.again (i + 1) ⟨by omega, hS.sel (by repeat constructor)⟩ (by omega) ?_
       rw [show ((usedF (fs.take (i + 1)) : Nat) : Int) = (usedF (fs.take i) : Int) + (y.b.length : Int) from by omega]
       repeat constructor)
    · (try simp only [cx, ne_eq] at h2)
      try (exfalso; (first | omega | exact h2 trivial | contradiction | (simp at h2; done)); done)
      all_goals
      refine SatC.exit (SatE.then_exit (SatE.then_exit (SatE.blk_exit (SatE.thenC ?_))))
      refine SatC.seq ?_
      have he : fs.take i = fs := List.take_of_length_le (by omega)
      rw [he]
      refine SatC.region ?_
      refine SatL.pu (RunV.move rfl) rfl ?_
      refine SatL.pu (RunV.assign rfl) rfl ?_
      refine SatL.nil (SatE.thenC ?_)
      refine SatC.ret ?_
      refine SatE.ret1 rfl rfl ?_
      exact ⟨rfl, hro (L := []) (hS.sel (by repeat constructor))⟩
def burnF (fuse : Int) : Int := if 0 < fuse then fuse - 1 else fuse
theorem burns_any (h4 : fs.length = 4) (hf : -1 ≤ fuse) (hfm : fuse ≤ 9223372036854775807) (hown : Own w [(b, C 53 (dcs room fuse down fs))]) : Ret Try.prog 28 #[.pointer (some ⟨b, 0, none⟩)] w fun u w' => u = .bool (decide (fuse = 0)) ∧ St w [b] [(b, C 53 (dcs room (burnF fuse) (down || decide (fuse = 0)) fs))] w' := by
  have hS := St.init hown
  simp only [List.map_cons, List.map_nil] at hS
  refine Ret.enter Try.func28 Try.ntmps28 rfl rfl ?_
  simp only [argEnv, Nat.reduceAdd]
  refine SatC.seq ?_
  refine SatC.region ?_
  refine SatL.pu (RunV.assign rfl) rfl ?_
  refine SatL.nil (SatE.thenC ?_)
  refine SatC.seq ?_
  refine SatC.block ?_
  refine SatC.seq ?_
  refine SatC.region ?_
  refine SatL.pu (RunV.move rfl) rfl ?_
  first | refine SatL.pu (RunV.nil_ptr rfl) rfl ?_ | refine SatL.pu (RunV.nil_func rfl) rfl ?_ | refine SatL.pu (RunV.nil_yield rfl) rfl ?_
  first | refine SatL.pu (RunV.fieldAddrL rfl rfl rfl) rfl ?_ | refine SatL.pu (RunV.fieldAddr rfl rfl rfl) rfl ?_
  refine SatL.pu (RunV.load1 hS rfl rfl (by repeat constructor) (dfuse h4)) rfl ?_
  refine SatL.pu (RunV.lss rfl rfl) rfl ?_
  refine SatL.pu (RunV.assign rfl) rfl ?_
  refine SatL.nil (SatE.thenC ?_)
  refine SatC.cond rfl (fun h1 => ?_) (fun h1 => ?_)
  · (try simp only [cx, ne_eq] at h1)
    try (exfalso; (first | omega | exact h1 trivial | contradiction | (simp at h1; done)); done)
    all_goals
    refine SatC.seq ?_
    refine SatC.region ?_
    refine SatL.pu (RunV.assign rfl) rfl ?_
    refine SatL.nil (SatE.thenC ?_)
    refine SatC.ret (SatE.blk_ret (SatE.then_ret ?_))
    refine SatE.ret1 rfl rfl ?_
    first
    | (have e0 : ¬ fuse = 0 := by omega
       rw [show burnF fuse = fuse from if_neg (by omega), decide_eq_false e0, Bool.or_false]; exact ⟨rfl, hS⟩)
    | (have e0 : fuse = 0 := by omega
       rw [show burnF fuse = fuse from if_neg (by omega), decide_eq_true e0, Bool.or_true]; exact ⟨rfl, hS⟩)
    | (have e0 : ¬ fuse = 0 := by omega
       rw [show burnF fuse = fuse - 1 from if_pos (by omega), decide_eq_false e0, Bool.or_false]; exact ⟨rfl, hS⟩)
  · (try simp only [cx, ne_eq] at h1)
    try (exfalso; (first | omega | exact h1 trivial | contradiction | (simp at h1; done)); done)
    all_goals
    refine SatC.seq ?_
    refine SatC.region ?_
    refine SatL.pu (RunV.move rfl) rfl ?_
    first | refine SatL.pu (RunV.nil_ptr rfl) rfl ?_ | refine SatL.pu (RunV.nil_func rfl) rfl ?_ | refine SatL.pu (RunV.nil_yield rfl) rfl ?_
    first | refine SatL.pu (RunV.fieldAddrL rfl rfl rfl) rfl ?_ | refine SatL.pu (RunV.fieldAddr rfl rfl rfl) rfl ?_
    refine SatL.pu (RunV.load1 hS rfl rfl (by repeat constructor) (dfuse h4)) rfl ?_
    refine SatL.pu (RunV.eql rfl rfl) rfl ?_
    refine SatL.pu (RunV.assign rfl) rfl ?_
    refine SatL.nil (SatE.thenC ?_)
    refine SatC.cond rfl (fun h2 => ?_) (fun h2 => ?_)
    · (try simp only [cx, ne_eq] at h2)
      try (exfalso; (first | omega | exact h2 trivial | contradiction | (simp at h2; done)); done)
      all_goals
      refine SatC.seq ?_
      refine SatC.weak (e' := [(0, _), (2, _)]) (by repeat constructor) ?_
      refine SatC.region ?_
      refine SatL.pu (RunV.move rfl) rfl ?_
      first | refine SatL.pu (RunV.nil_ptr rfl) rfl ?_ | refine SatL.pu (RunV.nil_func rfl) rfl ?_ | refine SatL.pu (RunV.nil_yield rfl) rfl ?_
      first | refine SatL.pu (RunV.fieldAddrL rfl rfl rfl) rfl ?_ | refine SatL.pu (RunV.fieldAddr rfl rfl rfl) rfl ?_
      refine SatL.op rfl (OpW.storeAt (T := 53) (cs := dcs room fuse down fs) hS rfl rfl (by rw [dcs_len h4]; decide) (ddown_set h4 true) (by repeat constructor) rfl rfl ?_)
      clear hS
      intro w1 hS
      refine SatL.nil (SatE.thenC ?_)
      refine SatC.seq ?_
      refine SatC.region ?_
      refine SatL.pu (RunV.assign rfl) rfl ?_
      refine SatL.nil (SatE.thenC ?_)
      refine SatC.ret (SatE.blk_ret (SatE.then_ret ?_))
      refine SatE.ret1 rfl rfl ?_
      first
      | (have e0 : ¬ fuse = 0 := by omega
         rw [show burnF fuse = fuse from if_neg (by omega), decide_eq_false e0, Bool.or_false]; exact ⟨rfl, hS⟩)
      | (have e0 : fuse = 0 := by omega
         rw [show burnF fuse = fuse from if_neg (by omega), decide_eq_true e0, Bool.or_true]; exact ⟨rfl, hS⟩)
      | (have e0 : ¬ fuse = 0 := by omega
         rw [show burnF fuse = fuse - 1 from if_pos (by omega), decide_eq_false e0, Bool.or_false]; exact ⟨rfl, hS⟩)
    · (try simp only [cx, ne_eq] at h2)
      try (exfalso; (first | omega | exact h2 trivial | contradiction | (simp at h2; done)); done)
      all_goals
      refine SatC.skip (SatE.blk_normal (SatE.thenC ?_))
      refine SatC.seq ?_
      refine SatC.weak (e' := [(0, _), (2, _)]) (by repeat constructor) ?_
      refine SatC.region ?_
      refine SatL.pu (RunV.move rfl) rfl ?_
      first | refine SatL.pu (RunV.nil_ptr rfl) rfl ?_ | refine SatL.pu (RunV.nil_func rfl) rfl ?_ | refine SatL.pu (RunV.nil_yield rfl) rfl ?_
      first | refine SatL.pu (RunV.fieldAddrL rfl rfl rfl) rfl ?_ | refine SatL.pu (RunV.fieldAddr rfl rfl rfl) rfl ?_
      refine SatL.pu (RunV.load1 hS rfl rfl (by repeat constructor) (dfuse h4)) rfl ?_
      refine SatL.pu (RunV.sub rfl rfl (by first | exact wrapI64 (by omega) | rfl)) rfl ?_
      first | refine SatL.pu (RunV.nil_ptr rfl) rfl ?_ | refine SatL.pu (RunV.nil_func rfl) rfl ?_ | refine SatL.pu (RunV.nil_yield rfl) rfl ?_
      first | refine SatL.pu (RunV.fieldAddrL rfl rfl rfl) rfl ?_ | refine SatL.pu (RunV.fieldAddr rfl rfl rfl) rfl ?_
      refine SatL.op rfl (OpW.storeAt (T := 53) (cs := dcs room fuse down fs) hS rfl rfl (by rw [dcs_len h4]; decide) (dfuse_set h4 _) (by repeat constructor) rfl rfl ?_)
      clear hS
      intro w1 hS
      refine SatL.nil (SatE.thenC ?_)
      refine SatC.seq ?_
      refine SatC.region ?_
      refine SatL.pu (RunV.assign rfl) rfl ?_
      refine SatL.nil (SatE.thenC ?_)
      refine SatC.ret ?_
      refine SatE.ret1 rfl rfl ?_
      first
      | (have e0 : ¬ fuse = 0 := by omega
         rw [show burnF fuse = fuse from if_neg (by omega), decide_eq_false e0, Bool.or_false]; exact ⟨rfl, hS⟩)
      | (have e0 : fuse = 0 := by omega
         rw [show burnF fuse = fuse from if_neg (by omega), decide_eq_true e0, Bool.or_true]; exact ⟨rfl, hS⟩)
      | (have e0 : ¬ fuse = 0 := by omega
         rw [show burnF fuse = fuse - 1 from if_pos (by omega), decide_eq_false e0, Bool.or_false]; exact ⟨rfl, hS⟩)
end
end Go.Proofs.Ytahholhggohbnaa
