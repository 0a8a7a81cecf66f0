/- The table: its place by a key, what is put, dropped, listed. -/
import Derived.Test.YtdoinfpkfbfjaaaProg
import Derived.Test.YtdoinfpkfbfjaaaK15
import Derived.Test.YtdoinfpkfbfjaaaK17
import Derived.Test.YtdoinfpkfbfjaaaSe
set_option linter.unusedSimpArgs false
set_option linter.unusedVariables false
set_option maxRecDepth 100000
set_option maxHeartbeats 1000000
namespace Go.Proofs.Ytdoinfpkfbfjaaa
open Go.RowKit
structure Tr where
  k : List UInt8
  v : Int
  m : Int
  x : Int
deriving DecidableEq
@[reducible] def tr (r : Tr) : List Value := [str r.k, .int .i64 r.v, .int .u64 r.m, .int .u64 r.x]
@[reducible] def tc (most : Int) (v : Value) (last : Int) : List Value := [.int .i64 most, v, .int .u64 last]
theorem tr_one (rows : List Tr) : ∀ r ∈ rows.map tr, ∀ u ∈ r, u.oneCell' = true := by
  intro r hr u hu
  obtain ⟨x, _, rfl⟩ := List.mem_map.1 hr
  simp only [tr, List.mem_cons, List.not_mem_nil, or_false] at hu
  rcases hu with rfl | rfl | rfl | rfl <;> rfl
section
variable {b : Nat} {most last : Int} {v : Value} {rows : List Tr} {B : List (Nat × Obj)} {w : World}
theorem tnone_any (hown : Own w ((b, C 58 (tc most v last)) :: B)) (hm : ¬ most = 0) : Ret Try.prog 23 #[.pointer (some ⟨b, 0, none⟩)] w fun u w' => u = .bool false ∧ St w [] [] w' := by
  have hS := St.init hown
  refine Ret.enter Try.func23 Try.ntmps23 rfl rfl ?_
  simp only [argEnv, Nat.reduceAdd]
  refine SatC.seq ?_
  refine SatC.region ?_
  refine SatL.pu (RunV.assign rfl) rfl ?_
  refine SatL.nil (SatE.thenC ?_)
  refine SatC.seq ?_
  refine SatC.region ?_
  refine SatL.pu (RunV.move rfl) rfl ?_
  refine SatL.pu (RunV.eqlPtrNil rfl rfl rfl) rfl ?_
  refine SatL.pu (RunV.move rfl) rfl ?_
  refine SatL.guard rfl rfl rfl (fun h1 => ?_) (fun h1 => ?_)
  · (try simp only [cx, ne_eq] at h1)
    try (exfalso; (first | omega | exact h1 trivial | contradiction); done)
    all_goals
    refine SatL.pu (RunV.move rfl) rfl ?_
    refine SatL.guard_y rfl rfl ?_
    first | refine SatL.pu (RunV.nil_ptr rfl) rfl ?_ | refine SatL.pu (RunV.nil_func rfl) rfl ?_ | refine SatL.pu (RunV.nil_yield rfl) rfl ?_
    refine SatL.guard_y rfl rfl ?_
    first | refine SatL.pu (RunV.fieldAddrL rfl rfl rfl) rfl ?_ | refine SatL.pu (RunV.fieldAddr rfl rfl rfl) rfl ?_
    refine SatL.guard_y rfl rfl ?_
    refine SatL.pu (RunV.load1 hS rfl rfl (by repeat constructor) rfl) rfl ?_
    refine SatL.guard_y rfl rfl ?_
    refine SatL.pu (RunV.eql rfl rfl) rfl ?_
    refine SatL.pu (RunV.pick_f rfl rfl) rfl ?_
    refine SatL.pu (RunV.assign rfl) rfl ?_
    refine SatL.nil (SatE.thenC ?_)
    refine SatC.ret ?_
    refine SatE.ret1 rfl rfl ?_
    exact ⟨by rw [decide_eq_false hm], St.ro hown hS .all⟩
  · (try simp only [cx, ne_eq] at h1)
    try (exfalso; (first | omega | exact h1 trivial | contradiction); done)
    all_goals
    refine SatL.guard_n rfl rfl rfl rfl ?_
    refine SatL.guard_n rfl rfl rfl rfl ?_
    refine SatL.guard_n rfl rfl rfl rfl ?_
    refine SatL.guard_n rfl rfl rfl rfl ?_
    refine SatL.pu (RunV.pick_t rfl rfl) rfl ?_
    refine SatL.pu (RunV.assign rfl) rfl ?_
    refine SatL.nil (SatE.thenC ?_)
    refine SatC.ret ?_
    refine SatE.ret1 rfl rfl ?_
    exact ⟨by rw [decide_eq_false hm], St.ro hown hS .all⟩
theorem last_any (hown : Own w ((b, C 58 (tc most v last)) :: B)) (hm : ¬ most = 0) : Ret Try.prog 11 #[.pointer (some ⟨b, 0, none⟩)] w fun u w' => u = .int .u64 last ∧ St w [] [] w' := by
  have hS := St.init hown
  refine Ret.enter Try.func11 Try.ntmps11 rfl rfl ?_
  simp only [argEnv, Nat.reduceAdd]
  refine SatC.seq ?_
  refine SatC.region ?_
  refine SatL.pu (RunV.assign rfl) rfl ?_
  refine SatL.nil (SatE.thenC ?_)
  refine SatC.seq ?_
  refine SatC.seq ?_
  refine SatC.region ?_
  refine SatL.pu (RunV.move rfl) rfl ?_
  refine SatL.op rfl (OpW.enter rfl rfl rfl (rfl) (tnone_any ⟨hS.own, hS.nd⟩ hm) ?_)
  rintro r1 w1 ⟨rfl, h⟩
  replace hS := St.callN hS h
  refine SatL.nil (SatE.thenC ?_)
  refine SatC.cond rfl (fun h1 => ?_) (fun h1 => ?_)
  · (try simp only [cx, ne_eq] at h1)
    try (exfalso; (first | omega | exact h1 trivial | contradiction); done)
    all_goals
    refine SatC.seq ?_
    refine SatC.region ?_
    refine SatL.pu (RunV.assign rfl) rfl ?_
    refine SatL.nil (SatE.thenC ?_)
    refine SatC.ret (SatE.then_ret ?_)
    refine SatE.ret1 rfl rfl ?_
    exact ⟨rfl, St.ro hown hS .all⟩
  · (try simp only [cx, ne_eq] at h1)
    try (exfalso; (first | omega | exact h1 trivial | contradiction); done)
    all_goals
    refine SatC.skip (SatE.thenC ?_)
    refine SatC.seq ?_
    refine SatC.region ?_
    refine SatL.pu (RunV.move rfl) rfl ?_
    first | refine SatL.pu (RunV.nil_ptr rfl) rfl ?_ | refine SatL.pu (RunV.nil_func rfl) rfl ?_ | refine SatL.pu (RunV.nil_yield rfl) rfl ?_
    first | refine SatL.pu (RunV.fieldAddrL rfl rfl rfl) rfl ?_ | refine SatL.pu (RunV.fieldAddr rfl rfl rfl) rfl ?_
    refine SatL.pu (RunV.load1 hS rfl rfl (by repeat constructor) rfl) rfl ?_
    refine SatL.pu (RunV.assign rfl) rfl ?_
    refine SatL.nil (SatE.thenC ?_)
    refine SatC.ret ?_
    refine SatE.ret1 rfl rfl ?_
    exact ⟨rfl, St.ro hown hS .all⟩
theorem raise_any (x : Int) (hown : Own w ((b, C 58 (tc most v last)) :: B)) (hm : ¬ most = 0) : Ret Try.prog 20 #[.pointer (some ⟨b, 0, none⟩), .int .u64 x] w fun u w' => u = .tuple #[] ∧ St w (b :: B.map Prod.fst) ((b, C 58 (tc most v (max last x))) :: B) w' := by
  have hS := St.init hown
  refine Ret.enter Try.func20 Try.ntmps20 rfl rfl ?_
  simp only [argEnv, Nat.reduceAdd]
  refine SatC.seq ?_
  refine SatC.region ?_
  refine SatL.pu (RunV.move rfl) rfl ?_
  refine SatL.op rfl (OpW.enter rfl rfl rfl (rfl) (tnone_any ⟨hS.own, hS.nd⟩ hm) ?_)
  rintro r1 w1 ⟨rfl, h⟩
  replace hS := St.callN hS h
  refine SatL.pu (RunV.not rfl) rfl ?_
  refine SatL.nil (SatE.thenC ?_)
  refine SatC.cond rfl (fun h1 => ?_) (fun h1 => ?_)
  · (try simp only [cx, ne_eq] at h1)
    try (exfalso; (first | omega | exact h1 trivial | contradiction); done)
    all_goals
    refine SatC.region ?_
    refine SatL.pu (RunV.move rfl) rfl ?_
    refine SatL.pu (RunV.move rfl) rfl ?_
    first | refine SatL.pu (RunV.nil_ptr rfl) rfl ?_ | refine SatL.pu (RunV.nil_func rfl) rfl ?_ | refine SatL.pu (RunV.nil_yield rfl) rfl ?_
    first | refine SatL.pu (RunV.fieldAddrL rfl rfl rfl) rfl ?_ | refine SatL.pu (RunV.fieldAddr rfl rfl rfl) rfl ?_
    refine SatL.pu (RunV.load1 hS rfl rfl (by repeat constructor) rfl) rfl ?_
    refine SatL.pu (RunV.move rfl) rfl ?_
    refine SatL.pu (RunV.max2 rfl rfl) rfl ?_
    first | refine SatL.pu (RunV.nil_ptr rfl) rfl ?_ | refine SatL.pu (RunV.nil_func rfl) rfl ?_ | refine SatL.pu (RunV.nil_yield rfl) rfl ?_
    first | refine SatL.pu (RunV.fieldAddrL rfl rfl rfl) rfl ?_ | refine SatL.pu (RunV.fieldAddr rfl rfl rfl) rfl ?_
    refine SatL.op rfl (OpW.store hS rfl rfl (by repeat constructor) (by repeat constructor) (by repeat constructor) rfl rfl ?_)
    clear hS
    intro w2 hS
    refine SatL.nil ?_
    refine SatE.fin0 rfl ?_
    exact ⟨rfl, hS⟩
  · (try simp only [cx, ne_eq] at h1)
    try (exfalso; (first | omega | exact h1 trivial | contradiction); done)
    all_goals
    refine SatC.skip ?_
    refine SatE.fin0 rfl ?_
    exact ⟨rfl, hS⟩
theorem list_any (hsl : Sl 30 4 v (rows.map tr) B) (hl : rows.length ≤ 1000000) (hown : Own w ((b, C 58 (tc most v last)) :: B)) (hm : ¬ most = 0) : Ret Try.prog 10 #[.pointer (some ⟨b, 0, none⟩)] w fun u w' => ∃ B', Sl 30 4 u (rows.map tr) B' ∧ St w [] B' w' := by
  have hS := St.init hown
  obtain ⟨c, hv⟩ := hsl.slv
  simp only [List.length_map] at hv
  refine Ret.enter Try.func10 Try.ntmps10 rfl rfl ?_
  simp only [argEnv, Nat.reduceAdd]
  refine SatC.seq ?_
  refine SatC.region ?_
  refine SatL.pu (RunV.assign rfl) rfl ?_
  refine SatL.nil (SatE.thenC ?_)
  refine SatC.seq ?_
  refine SatC.seq ?_
  refine SatC.region ?_
  refine SatL.pu (RunV.move rfl) rfl ?_
  refine SatL.op rfl (OpW.enter rfl rfl rfl (rfl) (tnone_any ⟨hS.own, hS.nd⟩ hm) ?_)
  rintro r1 w1 ⟨rfl, h⟩
  replace hS := St.callN hS h
  refine SatL.nil (SatE.thenC ?_)
  refine SatC.cond rfl (fun h1 => ?_) (fun h1 => ?_)
  · (try simp only [cx, ne_eq] at h1)
    try (exfalso; (first | omega | exact h1 trivial | contradiction); done)
    all_goals
    refine SatC.seq ?_
    refine SatC.region ?_
    refine SatL.pu (RunV.assign rfl) rfl ?_
    refine SatL.nil (SatE.thenC ?_)
    refine SatC.ret (SatE.then_ret ?_)
    refine SatE.ret1 rfl rfl ?_
    exact ⟨B10, hsl10, by simpa using St.roL hown hS (.app .all)⟩
  · (try simp only [cx, ne_eq] at h1)
    try (exfalso; (first | omega | exact h1 trivial | contradiction); done)
    all_goals
    refine SatC.skip (SatE.thenC ?_)
    refine SatC.seq ?_
    refine SatC.region ?_
    refine SatL.op rfl (OpW.buildSlice0 hS rfl rfl rfl ?_)
    clear hS
    intro v5 b5 w2 _ hsl5 hv5 hS
    refine SatL.pu (RunV.move rfl) rfl ?_
    first | refine SatL.pu (RunV.nil_ptr rfl) rfl ?_ | refine SatL.pu (RunV.nil_func rfl) rfl ?_ | refine SatL.pu (RunV.nil_yield rfl) rfl ?_
    first | refine SatL.pu (RunV.fieldAddrL rfl rfl rfl) rfl ?_ | refine SatL.pu (RunV.fieldAddr rfl rfl rfl) rfl ?_
    refine SatL.pu (RunV.load1 hS rfl rfl (by repeat constructor) rfl) rfl ?_
    refine SatL.op rfl (OpW.appendN hsl5 hS (by repeat constructor) hv (hsl.rd hS (by repeat constructor)) (by rw [List.length_map]) rfl rfl rfl rfl rfl rfl rfl (tr_one rows) (by simp only [List.length_nil]; omega) rfl ?_)
    clear hS
    intro v10 B10 w3 hsl10 hS
    refine SatL.pu (RunV.assign rfl) rfl ?_
    refine SatL.nil (SatE.thenC ?_)
    refine SatC.ret ?_
    refine SatE.ret1 rfl rfl ?_
    exact ⟨B10, hsl10, by simpa using St.roL hown hS (.app .all)⟩
theorem key_at {p : Tr → Bool} {k : Nat} {y : Tr} (h : rows[k]? = some y) : ((rows[k]?).map p).getD false = p y := by rw [h]; rfl
theorem asks_any {b2 b3 : Nat} {key : List UInt8} (hsl : Sl 30 4 v (rows.map tr) B) (hl : rows.length ≤ 1000000) (k : Nat) (hk : k < rows.length)
    (hown : Own w ((b3, C 9 [str key]) :: (b2, C 23 [.pointer (some ⟨b, 0, none⟩)]) :: (b, C 58 (tc most v last)) :: B)) :
    Ret Try.prog 33 #[.int .i64 (k : Int), .pointer (some ⟨b2, 0, none⟩), .pointer (some ⟨b3, 0, none⟩)] w fun u w' => u = .bool (((rows[k]?).map fun (r : Tr) => decide (¬ r.k < key)).getD false) ∧ St w [] [] w' := by
  have hS := St.init hown
  obtain ⟨c, hv⟩ := hsl.slv
  obtain ⟨y, hy⟩ := get_some rows k hk
  simp only [List.length_map] at hv
  refine Ret.enter Try.func33 Try.ntmps33 rfl rfl ?_
  simp only [argEnv, Nat.reduceAdd]
  have hrd := hsl.rd hS (by repeat constructor)
  refine SatC.seq ?_
  refine SatC.region ?_
  refine SatL.pu (RunV.assign rfl) rfl ?_
  refine SatL.nil (SatE.thenC ?_)
  refine SatC.seq ?_
  refine SatC.drawnT 11 hS (hS) (by kernel_rfl) ?_
  clear hS
  intro w1 hh hS hD
  refine SatD.tk 0 rfl hD (fun _ hw => RunV.load1 hw rfl rfl (by repeat constructor) rfl) ?_
  first | refine SatD.tk 1 rfl hD (fun _ hw => RunV.nil_ptr rfl) ?_ | refine SatD.tk 1 rfl hD (fun _ hw => RunV.nil_func rfl) ?_ | refine SatD.tk 1 rfl hD (fun _ hw => RunV.nil_yield rfl) ?_
  first | refine SatD.tk 2 rfl hD (fun _ hw => RunV.fieldAddrL rfl rfl rfl) ?_ | refine SatD.tk 2 rfl hD (fun _ hw => RunV.fieldAddr rfl rfl rfl) ?_
  refine SatD.tk 3 rfl hD (fun _ hw => RunV.load1 hw rfl rfl (by repeat constructor) rfl) ?_
  refine SatD.tk 4 rfl hD (fun _ hw => RunV.move rfl) ?_
  first | refine SatD.tk 5 rfl hD (fun _ hw => RunV.indexR (by assumption) rfl rfl rfl (by omega) (by omega) rfl) ?_ | refine SatD.tk 5 rfl hD (fun _ hw => RunV.indexS rfl rfl rfl (by omega) (by omega) rfl) ?_
  first | refine SatD.tk 6 rfl hD (fun _ hw => RunV.fieldAddrL rfl rfl rfl) ?_ | refine SatD.tk 6 rfl hD (fun _ hw => RunV.fieldAddr rfl rfl rfl) ?_
  first | refine SatD.tk 7 rfl hD (fun _ hw => RunV.loadR1f (RdC.st (by assumption) hw List.not_mem_nil) rfl rfl (by first | assumption | exact map_get (by assumption)) rfl) ?_ | refine SatD.tk 7 rfl hD (fun _ hw => RunV.loadR1f (Sl.rd (by assumption) hw (by repeat constructor)) rfl rfl (by first | assumption | exact map_get (by assumption)) rfl) ?_
  refine SatD.tk 8 rfl hD (fun _ hw => RunV.load1 hw rfl rfl (by repeat constructor) rfl) ?_
  refine SatD.tk 9 rfl hD (fun _ hw => RunV.sgeq rfl rfl) ?_
  refine SatD.tk 10 rfl hD (fun _ hw => RunV.assign rfl) ?_
  refine SatD.done 0 (by kernel_rfl) (SatE.thenC ?_)
  clear hD
  refine SatC.ret ?_
  refine SatE.ret1 rfl rfl ?_
  exact ⟨by rw [key_at hy], St.ro hown hS .all⟩
def zr : Tr := ⟨[], 0, 0, 0⟩
def FoundAt (rows : List Tr) (key : List UInt8) (k : Nat) (fd : Bool) : Prop := k ≤ rows.length ∧ (0 < k → (rows.getD (k - 1) zr).k < key) ∧ (k < rows.length → ¬ (rows.getD k zr).k < key) ∧ (fd = true ↔ k < rows.length ∧ (rows.getD k zr).k = key)
theorem getD_at {rows : List Tr} {k : Nat} (h : k < rows.length) : rows[k]? = some (rows.getD k zr) := by simp [h]
theorem sr_found {rows : List Tr} {key : List UInt8} {k : Nat} (h : SrAt (fun k => ((rows[k]?).map fun (r : Tr) => decide (¬ r.k < key)).getD false) rows.length k) : FoundAt rows key k (decide (k < rows.length ∧ (rows.getD k zr).k = key)) := by
  obtain ⟨h1, h2, h3⟩ := h
  refine ⟨h1, fun h => ?_, fun h => ?_, by simp⟩
  · have := h2 h
    dsimp only at this
    rw [key_at (getD_at (by omega))] at this
    simpa using this
  · have := h3 h
    dsimp only at this
    rw [key_at (getD_at h)] at this
    simpa using this
theorem at_any (key : List UInt8) (hsl : Sl 30 4 v (rows.map tr) B) (hl : rows.length ≤ 1000000) (hown : Own w ((b, C 58 (tc most v last)) :: B)) : Ret Try.prog 24 #[.pointer (some ⟨b, 0, none⟩), str key] w fun u w' => ∃ k fd, FoundAt rows key k fd ∧ u = .tuple #[.int .i64 (k : Nat), .bool fd] ∧ St w [] [] w' := by
  have hS := St.init hown
  obtain ⟨c, hv⟩ := hsl.slv
  simp only [List.length_map] at hv
  refine Ret.enter Try.func24 Try.ntmps24 rfl rfl ?_
  simp only [argEnv, Nat.reduceAdd]
  refine SatC.seq ?_
  refine SatC.region ?_
  refine SatL.op rfl (OpW.box hS rfl rfl (by repeat constructor) ?_)
  clear hS
  intro b2 w1 _ hS
  refine SatL.op rfl (OpW.box hS rfl rfl (by repeat constructor) ?_)
  clear hS
  intro b3 w2 _ hS
  refine SatL.pu (RunV.assign rfl) rfl ?_
  refine SatL.pu (RunV.assign rfl) rfl ?_
  refine SatL.nil (SatE.thenC ?_)
  refine SatC.seq ?_
  refine SatC.region ?_
  refine SatL.pu (RunV.load1 hS rfl rfl (by repeat constructor) rfl) rfl ?_
  first | refine SatL.pu (RunV.nil_ptr rfl) rfl ?_ | refine SatL.pu (RunV.nil_func rfl) rfl ?_ | refine SatL.pu (RunV.nil_yield rfl) rfl ?_
  first | refine SatL.pu (RunV.fieldAddrL rfl rfl rfl) rfl ?_ | refine SatL.pu (RunV.fieldAddr rfl rfl rfl) rfl ?_
  refine SatL.pu (RunV.load1 hS rfl rfl (by repeat constructor) rfl) rfl ?_
  first | refine SatL.pu (RunV.lenR (by assumption) rfl rfl) rfl ?_ | refine SatL.pu (RunV.lenS rfl rfl) rfl ?_
  refine SatL.pu (RunV.mkFunc rfl) rfl ?_
  refine SatL.op rfl (OpW.enter rfl rfl rfl (rfl) (search_any (f := 33) (cap := [.pointer (some ⟨b2, 0, none⟩), .pointer (some ⟨b3, 0, none⟩)]) _ (fun k => ((rows[k]?).map fun (r : Tr) => decide (¬ r.k < key)).getD false) rows.length hl ⟨hS.own, hS.nd⟩ rfl (fun k w hk ho => asks_any hsl hl k hk ho.toOwn)) ?_)
  rintro r3 w3 ⟨k, hsr, rfl, h⟩
  replace hS := St.callN hS h
  refine SatL.pu (RunV.assign rfl) rfl ?_
  refine SatL.nil (SatE.thenC ?_)
  refine SatC.seq ?_
  refine SatC.drawnT 22 hS (hS) (by kernel_rfl) ?_
  clear hS
  intro w4 hh hS hD
  refine SatD.tk 0 rfl hD (fun _ hw => RunV.move rfl) ?_
  refine SatD.tk 1 rfl hD (fun _ hw => RunV.move rfl) ?_
  refine SatD.tk 2 rfl hD (fun _ hw => RunV.load1 hw rfl rfl (by repeat constructor) rfl) ?_
  first | refine SatD.tk 3 rfl hD (fun _ hw => RunV.nil_ptr rfl) ?_ | refine SatD.tk 3 rfl hD (fun _ hw => RunV.nil_func rfl) ?_ | refine SatD.tk 3 rfl hD (fun _ hw => RunV.nil_yield rfl) ?_
  first | refine SatD.tk 4 rfl hD (fun _ hw => RunV.fieldAddrL rfl rfl rfl) ?_ | refine SatD.tk 4 rfl hD (fun _ hw => RunV.fieldAddr rfl rfl rfl) ?_
  refine SatD.tk 5 rfl hD (fun _ hw => RunV.load1 hw rfl rfl (by repeat constructor) rfl) ?_
  first | refine SatD.tk 6 rfl hD (fun _ hw => RunV.lenR (by assumption) rfl rfl) ?_ | refine SatD.tk 6 rfl hD (fun _ hw => RunV.lenS rfl rfl) ?_
  refine SatD.tk 7 rfl hD (fun _ hw => RunV.lss rfl rfl) ?_
  refine SatD.tk 8 rfl hD (fun _ hw => RunV.move rfl) ?_
  refine SatD.ways 22 rfl (fun h1 => ?_) (fun h1 => ?_)
  · (try simp only [cx, ne_eq] at h1)
    try (exfalso; (first | omega | exact h1 trivial | contradiction); done)
    all_goals
    refine SatD.tk 9 rfl hD (fun _ hw => RunV.load1 hw rfl rfl (by repeat constructor) rfl) ?_
    first | refine SatD.tk 10 rfl hD (fun _ hw => RunV.nil_ptr rfl) ?_ | refine SatD.tk 10 rfl hD (fun _ hw => RunV.nil_func rfl) ?_ | refine SatD.tk 10 rfl hD (fun _ hw => RunV.nil_yield rfl) ?_
    first | refine SatD.tk 11 rfl hD (fun _ hw => RunV.fieldAddrL rfl rfl rfl) ?_ | refine SatD.tk 11 rfl hD (fun _ hw => RunV.fieldAddr rfl rfl rfl) ?_
    refine SatD.tk 12 rfl hD (fun _ hw => RunV.load1 hw rfl rfl (by repeat constructor) rfl) ?_
    refine SatD.tk 13 rfl hD (fun _ hw => RunV.move rfl) ?_
    first | refine SatD.tk 14 rfl hD (fun _ hw => RunV.indexR (by assumption) rfl rfl rfl (by omega) (by omega) rfl) ?_ | refine SatD.tk 14 rfl hD (fun _ hw => RunV.indexS rfl rfl rfl (by omega) (by omega) rfl) ?_
    first | refine SatD.tk 15 rfl hD (fun _ hw => RunV.fieldAddrL rfl rfl rfl) ?_ | refine SatD.tk 15 rfl hD (fun _ hw => RunV.fieldAddr rfl rfl rfl) ?_
    refine SatD.tk 16 rfl hD (fun _ hw => RunV.loadR1z (hsl.rd hw (by repeat constructor)) rfl rfl (show (rows.map tr)[(k : Int).toNat]? = some (tr (rows.getD k zr)) from map_get (getD_at (by omega))) rfl) ?_
    refine SatD.tk 17 rfl hD (fun _ hw => RunV.load1 hw rfl rfl (by repeat constructor) rfl) ?_
    refine SatD.tk 18 rfl hD (fun _ hw => RunV.seql rfl rfl) ?_
    refine SatD.tk 19 rfl hD (fun _ hw => RunV.pick_t rfl rfl) ?_
    refine SatD.tk 20 rfl hD (fun _ hw => RunV.assign rfl) ?_
    refine SatD.tk 21 rfl hD (fun _ hw => RunV.assign rfl) ?_
    refine SatD.done 0 (by kernel_rfl) (SatE.thenC ?_)
    clear hD
    refine SatC.ret ?_
    refine SatE.ret2 rfl rfl rfl ?_
    exact ⟨k, _, sr_found hsr, by first | rw [show decide (k < rows.length ∧ (rows.getD k zr).k = key) = false from decide_eq_false (fun h => by omega)] | rw [show decide (k < rows.length ∧ (rows.getD k zr).k = key) = decide ((rows.getD k zr).k = key) from decide_eq_decide.2 ⟨fun h => h.2, fun h => ⟨by omega, h⟩⟩], St.ro hown hS (.there (.there .all))⟩
  · (try simp only [cx, ne_eq] at h1)
    try (exfalso; (first | omega | exact h1 trivial | contradiction); done)
    all_goals
    refine SatD.sk 9 rfl [] hD ?_
    refine SatD.sk 10 rfl [] hD ?_
    refine SatD.sk 11 rfl [] hD ?_
    refine SatD.sk 12 rfl [] hD ?_
    refine SatD.sk 13 rfl [] hD ?_
    refine SatD.sk 14 rfl [] hD ?_
    refine SatD.sk 15 rfl [] hD ?_
    refine SatD.sk 16 rfl [] hD ?_
    refine SatD.sk 17 rfl [] hD ?_
    refine SatD.sk 18 rfl [] hD ?_
    refine SatD.tk 19 rfl hD (fun _ hw => RunV.pick_f rfl rfl) ?_
    refine SatD.tk 20 rfl hD (fun _ hw => RunV.assign rfl) ?_
    refine SatD.tk 21 rfl hD (fun _ hw => RunV.assign rfl) ?_
    refine SatD.done 0 (by kernel_rfl) (SatE.thenC ?_)
    clear hD
    refine SatC.ret ?_
    refine SatE.ret2 rfl rfl rfl ?_
    exact ⟨k, _, sr_found hsr, by first | rw [show decide (k < rows.length ∧ (rows.getD k zr).k = key) = false from decide_eq_false (fun h => by omega)] | rw [show decide (k < rows.length ∧ (rows.getD k zr).k = key) = decide ((rows.getD k zr).k = key) from decide_eq_decide.2 ⟨fun h => h.2, fun h => ⟨by omega, h⟩⟩], St.ro hown hS (.there (.there .all))⟩
@[reducible] def rv (r : Tr) : Value := .agg #[str r.k, .int .i64 r.v, .int .u64 r.m, .int .u64 r.x]
theorem get_any (key : List UInt8) (hsl : Sl 30 4 v (rows.map tr) B) (hl : rows.length ≤ 1000000) (hown : Own w ((b, C 58 (tc most v last)) :: B)) (hm : ¬ most = 0) : Ret Try.prog 16 #[.pointer (some ⟨b, 0, none⟩), str key] w fun u w' => ∃ k fd, FoundAt rows key k fd ∧ u = .tuple #[rv (if fd = true then rows.getD k zr else zr), .bool fd] ∧ St w [] [] w' := by
  have hS := St.init hown
  obtain ⟨c, hv⟩ := hsl.slv
  simp only [List.length_map] at hv
  refine Ret.enter Try.func16 Try.ntmps16 rfl rfl ?_
  simp only [argEnv, Nat.reduceAdd]
  refine SatC.seq ?_
  refine SatC.region ?_
  refine SatL.op rfl (OpW.alloc hS rfl rfl (by repeat constructor) ?_)
  clear hS
  intro b4 w1 _ hS
  refine SatL.pu (RunV.assign rfl) rfl ?_
  refine SatL.nil (SatE.thenC ?_)
  refine SatC.seq ?_
  refine SatC.seq ?_
  refine SatC.region ?_
  refine SatL.pu (RunV.move rfl) rfl ?_
  refine SatL.op rfl (OpW.enter rfl rfl rfl (rfl) (tnone_any (hS.ownT (by repeat constructor)) hm) ?_)
  rintro r2 w2 ⟨rfl, h⟩
  replace hS := St.callN hS h
  refine SatL.nil (SatE.thenC ?_)
  refine SatC.cond rfl (fun h1 => ?_) (fun h1 => ?_)
  · (try simp only [cx, ne_eq] at h1)
    try (exfalso; (first | omega | exact h1 trivial | contradiction); done)
    all_goals
    refine SatC.seq ?_
    refine SatC.region ?_
    refine SatL.pu (RunV.build rfl (by simp [go_sem]; try rfl)) rfl ?_
    refine SatL.op rfl (OpW.store hS rfl rfl (by repeat constructor) (by repeat constructor) (by repeat constructor) rfl rfl ?_)
    clear hS
    intro w3 hS
    refine SatL.pu (RunV.assign rfl) rfl ?_
    refine SatL.nil (SatE.thenC ?_)
    refine SatC.ret (SatE.then_ret ?_)
    refine SatE.retG2 hS rfl (.cellN rfl rfl (by repeat constructor) (by repeat constructor)) (.tmp rfl) ?_
    first | exact ⟨k, fd, hfd, by rw [show fd = false by assumption]; rfl, St.ro hown hS (.there .all)⟩ | exact ⟨k, fd, hfd, by rw [show fd = true by assumption]; rfl, St.ro hown hS (.there .all)⟩
  · (try simp only [cx, ne_eq] at h1)
    try (exfalso; (first | omega | exact h1 trivial | contradiction); done)
    all_goals
    refine SatC.skip (SatE.thenC ?_)
    refine SatC.seq ?_
    refine SatC.region ?_
    refine SatL.pu (RunV.move rfl) rfl ?_
    refine SatL.pu (RunV.move rfl) rfl ?_
    refine SatL.op rfl (OpW.enter rfl rfl rfl (rfl) (at_any key hsl hl (hS.ownT (by repeat constructor))) ?_)
    rintro r3 w3 ⟨k, fd, hfd, rfl, h⟩
    replace hS := St.callN hS h
    have hlt := hfd.2.2.2
    refine SatL.pu (RunV.move rfl) rfl ?_
    refine SatL.pu (RunV.extract rfl rfl) rfl ?_
    refine SatL.pu (RunV.extract rfl rfl) rfl ?_
    refine SatL.pu (RunV.assign rfl) rfl ?_
    refine SatL.pu (RunV.assign rfl) rfl ?_
    refine SatL.nil (SatE.thenC ?_)
    refine SatC.seq ?_
    refine SatC.seq ?_
    refine SatC.region ?_
    refine SatL.pu (RunV.move rfl) rfl ?_
    refine SatL.pu (RunV.not rfl) rfl ?_
    refine SatL.nil (SatE.thenC ?_)
    refine SatC.cond rfl (fun h2 => ?_) (fun h2 => ?_)
    · (try simp only [cx, ne_eq] at h2)
      try (exfalso; (first | omega | exact h2 trivial | contradiction); done)
      all_goals
      refine SatC.seq ?_
      refine SatC.weak (e' := [(4, _), (5, _)]) (by repeat constructor) ?_
      refine SatC.region ?_
      refine SatL.pu (RunV.build rfl (by simp [go_sem]; try rfl)) rfl ?_
      refine SatL.op rfl (OpW.store hS rfl rfl (by repeat constructor) (by repeat constructor) (by repeat constructor) rfl rfl ?_)
      clear hS
      intro w4 hS
      refine SatL.pu (RunV.assign rfl) rfl ?_
      refine SatL.nil (SatE.thenC ?_)
      refine SatC.ret (SatE.then_ret ?_)
      refine SatE.retG2 hS rfl (.cellN rfl rfl (by repeat constructor) (by repeat constructor)) (.tmp rfl) ?_
      first | exact ⟨k, fd, hfd, by rw [show fd = false by assumption]; rfl, St.ro hown hS (.there .all)⟩ | exact ⟨k, fd, hfd, by rw [show fd = true by assumption]; rfl, St.ro hown hS (.there .all)⟩
    · (try simp only [cx, ne_eq] at h2)
      try (exfalso; (first | omega | exact h2 trivial | contradiction); done)
      all_goals
      refine SatC.skip (SatE.thenC ?_)
      refine SatC.seq ?_
      refine SatC.weak (e' := [(0, _), (4, _), (5, _), (6, _)]) (by repeat constructor) ?_
      have hkl : k < rows.length := (hlt.1 (by assumption)).1
      refine SatC.region ?_
      refine SatL.pu (RunV.move rfl) rfl ?_
      first | refine SatL.pu (RunV.nil_ptr rfl) rfl ?_ | refine SatL.pu (RunV.nil_func rfl) rfl ?_ | refine SatL.pu (RunV.nil_yield rfl) rfl ?_
      first | refine SatL.pu (RunV.fieldAddrL rfl rfl rfl) rfl ?_ | refine SatL.pu (RunV.fieldAddr rfl rfl rfl) rfl ?_
      refine SatL.pu (RunV.load1 hS rfl rfl (by repeat constructor) rfl) rfl ?_
      refine SatL.pu (RunV.move rfl) rfl ?_
      first | refine SatL.pu (RunV.indexR (by assumption) rfl rfl rfl (by omega) (by omega) rfl) rfl ?_ | refine SatL.pu (RunV.indexS rfl rfl rfl (by omega) (by omega) rfl) rfl ?_
      refine SatL.pu (RunV.loadRNz (hsl.rd hS (by repeat constructor)) rfl rfl (show (rows.map tr)[(k : Int).toNat]? = some (tr (rows.getD k zr)) from map_get (getD_at hkl))) rfl ?_
      refine SatL.op rfl (OpW.store hS rfl rfl (by repeat constructor) (by repeat constructor) (by repeat constructor) rfl rfl ?_)
      clear hS
      intro w4 hS
      refine SatL.pu (RunV.assign rfl) rfl ?_
      refine SatL.nil (SatE.thenC ?_)
      refine SatC.ret ?_
      refine SatE.retG2 hS rfl (.cellN rfl rfl (by repeat constructor) (by repeat constructor)) (.tmp rfl) ?_
      first | exact ⟨k, fd, hfd, by rw [show fd = false by assumption]; rfl, St.ro hown hS (.there .all)⟩ | exact ⟨k, fd, hfd, by rw [show fd = true by assumption]; rfl, St.ro hown hS (.there .all)⟩
theorem RdC.drop0 {w : World} {b k : Nat} {xs : List (List Value)} (n : Nat) (hc : RdC w b 0 k xs) : RdC w b (n * k) k (xs.drop n) := by
  intro i r hi
  rw [List.getElem?_drop] at hi
  have h := hc (n + i) r hi
  refine ⟨h.1, fun j v hj => ?_⟩
  have := h.2 j v hj
  rw [Nat.zero_add, Nat.add_mul, Nat.add_assoc] at this
  exact this
theorem one_drop (rows : List Tr) (k : Nat) : ∀ r ∈ (rows.map tr ++ [[str [], .int .i64 0, .int .u64 0, .int .u64 0]]).drop k, ∀ c ∈ r, c.oneCell' = true := by
  intro r hr c hc
  rcases List.mem_append.1 (List.mem_of_mem_drop hr) with h | h
  · exact tr_one rows r h c hc
  · exact tr_one [zr] r (by simpa [zr] using h) c hc
/-- The rows behind the shift: from place k on all stand one place further. -/
def shifted (rows : List Tr) (k : Nat) : List Tr := (rows ++ [zr]).take (k + 1) ++ rows.drop k
theorem sh_len (rows : List Tr) (k : Nat) : ((shifted rows k).map tr).length = min (k + 1) (rows.length + 1) + (rows.length - k) := by
  simp [shifted]
theorem put_shift (rows : List Tr) (k : Nat) (hk : k ≤ rows.length) :
    (rows.map tr ++ [[str [], .int .i64 0, .int .u64 0, .int .u64 0]]).take (k + 1) ++ ((rows.map tr ++ [[str [], .int .i64 0, .int .u64 0, .int .u64 0]]).drop k).take (min (rows.length + 1 - k) (rows.length - k)) ++
      (rows.map tr ++ [[str [], .int .i64 0, .int .u64 0, .int .u64 0]]).drop (k + 1 + min (rows.length + 1 - k) (rows.length - k)) = (shifted rows k).map tr := by
  have e : rows.map tr ++ [[str [], .int .i64 0, .int .u64 0, .int .u64 0]] = (rows ++ [zr]).map tr := by simp [zr]
  rw [e, show min (rows.length + 1 - k) (rows.length - k) = rows.length - k by omega, ← List.map_take, ← List.map_drop, ← List.map_take, ← List.map_drop, shifted, List.map_append]
  have e3 : (rows ++ [zr]).drop (k + 1 + (rows.length - k)) = [] := List.drop_of_length_le (by simp; omega)
  rw [e3, List.map_nil, List.append_nil]
  congr 2
  rw [List.drop_append_of_le_length hk, List.take_append_of_le_length (by simp)]
  exact List.take_of_length_le (by simp)
theorem shifted_set (rows : List Tr) (k : Nat) (hk : k ≤ rows.length) (r : Tr) : (shifted rows k).set k r = rows.take k ++ [r] ++ rows.drop k := by
  unfold shifted
  rw [List.set_append_left _ _ (by simp; omega)]
  congr 1
  apply List.ext_getElem?
  intro j
  simp only [List.getElem?_set, List.getElem?_take, List.getElem?_append, List.length_take, List.length_append, List.length_cons, List.length_nil]
  by_cases h1 : k = j
  · subst h1
    rw [if_pos rfl, if_pos (by omega), if_neg (by omega), show k - min k rows.length = 0 by omega]
    rfl
  · rw [if_neg h1]
    by_cases h2 : j < k
    · rw [if_pos (by omega), if_pos (by omega), if_pos (by omega), if_pos h2]
    · rw [if_neg (by omega), if_neg (by omega), List.getElem?_eq_none (by simp; omega)]
/-- The rows behind a putting. -/
def putR (rows : List Tr) (k : Nat) (fd : Bool) (r : Tr) : List Tr := if fd = true then rows.set k { r with m := (rows.getD k zr).m } else rows.take k ++ [r] ++ rows.drop k
def putV (rows : List Tr) (k : Nat) (fd : Bool) (r : Tr) : Tr := if fd = true then { r with m := (rows.getD k zr).m } else r
theorem put_new (rows : List Tr) (k : Nat) (hk : k ≤ rows.length) (key : List UInt8) (x : Int) (ix : Int) : ((shifted rows k).map tr).set (k : Int).toNat (tr ⟨key, x, ix, ix⟩) = (putR rows k false ⟨key, x, ix, ix⟩).map tr := by
  rw [Int.toNat_natCast, ← List.map_set, shifted_set rows k hk]
  rfl
theorem put_old (rows : List Tr) (k : Nat) (key : List UInt8) (x : Int) (ix : Int) : (rows.map tr).set (k : Int).toNat (tr ⟨key, x, (rows.getD k zr).m, ix⟩) = (putR rows k true ⟨key, x, ix, ix⟩).map tr := by
  rw [Int.toNat_natCast, ← List.map_set]
  rfl
theorem put_any (key : List UInt8) (x : Int) (ix : Int) (hsl : Sl 30 4 v (rows.map tr) B) (hl : rows.length ≤ 100000) (hown : Own w ((b, C 58 (tc most v last)) :: B)) (hm : ¬ most = 0) : Ret Try.prog 9 #[.pointer (some ⟨b, 0, none⟩), str key, .int .i64 x, .int .u64 ix] w fun u w' => ∃ k fd, FoundAt rows key k fd ∧
    ((fd = false ∧ most ≤ rows.length ∧ u = .tuple #[rv zr, .int .i64 5] ∧ St w [] [] w') ∨
     ((fd = true ∨ (rows.length : Int) < most) ∧ u = .tuple #[rv (putV rows k fd ⟨key, x, ix, ix⟩), .int .i64 0] ∧ ∃ v' B', Sl 30 4 v' ((putR rows k fd ⟨key, x, ix, ix⟩).map tr) B' ∧ St w (b :: B.map Prod.fst) ((b, C 58 (tc most v' (max last ix))) :: B') w')) := by
  have hS := St.init hown
  obtain ⟨c, hv⟩ := hsl.slv
  simp only [List.length_map] at hv
  refine Ret.enter Try.func9 Try.ntmps9 rfl rfl ?_
  simp only [argEnv, Nat.reduceAdd]
  refine SatC.seq ?_
  refine SatC.region ?_
  refine SatL.op rfl (OpW.alloc hS rfl rfl (by repeat constructor) ?_)
  clear hS
  intro b8 w1 _ hS
  refine SatL.pu (RunV.assign rfl) rfl ?_
  refine SatL.nil (SatE.thenC ?_)
  refine SatC.seq ?_
  refine SatC.seq ?_
  refine SatC.region ?_
  refine SatL.pu (RunV.move rfl) rfl ?_
  refine SatL.op rfl (OpW.enter rfl rfl rfl (rfl) (tnone_any (hS.ownT (by repeat constructor)) hm) ?_)
  rintro r2 w2 ⟨rfl, h⟩
  replace hS := St.callN hS h
  refine SatL.nil (SatE.thenC ?_)
  refine SatC.cond rfl (fun h1 => ?_) (fun h1 => ?_)
  · (try simp only [cx, ne_eq] at h1)
    try (exfalso; (first | omega | exact h1 trivial | contradiction | exact absurd ((show fd = false by assumption).symm.trans (show fd = true by assumption)) (by decide)); done)
    all_goals
    refine SatC.seq ?_
    refine SatC.region ?_
    refine SatL.pu (RunV.build rfl (by simp [go_sem]; try rfl)) rfl ?_
    refine SatL.op rfl (OpW.store hS rfl rfl (by repeat constructor) (by repeat constructor) (by repeat constructor) rfl rfl ?_)
    clear hS
    intro w3 hS
    refine SatL.pu (RunV.assign rfl) rfl ?_
    refine SatL.nil (SatE.thenC ?_)
    refine SatC.ret (SatE.then_ret ?_)
    refine SatE.retG2 hS rfl (.cellN rfl rfl (by repeat constructor) (by repeat constructor)) (.tmp rfl) ?_
    first
    | exact ⟨k, fd, hfd, .inl ⟨by assumption, by omega, rfl, St.ro hown (hS.sel (R := (b, C 58 (tc most v last)) :: B) (by repeat constructor)) .all⟩⟩
    | (obtain rfl : fd = false := by assumption
       exact ⟨k, false, hfd, .inr ⟨.inr (by assumption), rfl, v66, B89, (by rw [← put_new rows k hkle]; exact hsl89), hS.sel (by repeat constructor)⟩⟩)
    | (obtain rfl : fd = true := by assumption
       exact ⟨k, true, hfd, .inr ⟨.inl rfl, rfl, v, B58, (by rw [← put_old rows k]; exact hsl58), hS.sel (by repeat constructor)⟩⟩)
  · (try simp only [cx, ne_eq] at h1)
    try (exfalso; (first | omega | exact h1 trivial | contradiction | exact absurd ((show fd = false by assumption).symm.trans (show fd = true by assumption)) (by decide)); done)
    all_goals
    refine SatC.skip (SatE.thenC ?_)
    refine SatC.seq ?_
    refine SatC.region ?_
    refine SatL.pu (RunV.move rfl) rfl ?_
    refine SatL.pu (RunV.move rfl) rfl ?_
    refine SatL.op rfl (OpW.enter rfl rfl rfl (rfl) (at_any key hsl (by omega) (hS.ownT (by repeat constructor))) ?_)
    rintro r3 w3 ⟨k, fd, hfd, rfl, h⟩
    replace hS := St.callN hS h
    have hlt := hfd.2.2.2
    have hkle := hfd.1
    refine SatL.pu (RunV.move rfl) rfl ?_
    refine SatL.pu (RunV.extract rfl rfl) rfl ?_
    refine SatL.pu (RunV.extract rfl rfl) rfl ?_
    refine SatL.pu (RunV.assign rfl) rfl ?_
    refine SatL.pu (RunV.assign rfl) rfl ?_
    refine SatL.nil (SatE.thenC ?_)
    refine SatC.seq ?_
    refine SatC.seq ?_
    refine SatC.drawnT 14 hS (hS) (by kernel_rfl) ?_
    clear hS
    intro w4 hh hS hD
    refine SatD.tk 0 rfl hD (fun _ hw => RunV.move rfl) ?_
    refine SatD.tk 1 rfl hD (fun _ hw => RunV.not rfl) ?_
    refine SatD.tk 2 rfl hD (fun _ hw => RunV.move rfl) ?_
    refine SatD.ways 24 rfl (fun h2 => ?_) (fun h2 => ?_)
    · (try simp only [cx, ne_eq] at h2)
      try (exfalso; (first | omega | exact h2 trivial | contradiction | exact absurd ((show fd = false by assumption).symm.trans (show fd = true by assumption)) (by decide)); done)
      all_goals
      refine SatD.tk 3 rfl hD (fun _ hw => RunV.move rfl) ?_
      first | refine SatD.tk 4 rfl hD (fun _ hw => RunV.nil_ptr rfl) ?_ | refine SatD.tk 4 rfl hD (fun _ hw => RunV.nil_func rfl) ?_ | refine SatD.tk 4 rfl hD (fun _ hw => RunV.nil_yield rfl) ?_
      first | refine SatD.tk 5 rfl hD (fun _ hw => RunV.fieldAddrL rfl rfl rfl) ?_ | refine SatD.tk 5 rfl hD (fun _ hw => RunV.fieldAddr rfl rfl rfl) ?_
      refine SatD.tk 6 rfl hD (fun _ hw => RunV.load1 hw rfl rfl (by repeat constructor) rfl) ?_
      first | refine SatD.tk 7 rfl hD (fun _ hw => RunV.lenR (by assumption) rfl rfl) ?_ | refine SatD.tk 7 rfl hD (fun _ hw => RunV.lenS rfl rfl) ?_
      refine SatD.tk 8 rfl hD (fun _ hw => RunV.move rfl) ?_
      first | refine SatD.tk 9 rfl hD (fun _ hw => RunV.nil_ptr rfl) ?_ | refine SatD.tk 9 rfl hD (fun _ hw => RunV.nil_func rfl) ?_ | refine SatD.tk 9 rfl hD (fun _ hw => RunV.nil_yield rfl) ?_
      first | refine SatD.tk 10 rfl hD (fun _ hw => RunV.fieldAddrL rfl rfl rfl) ?_ | refine SatD.tk 10 rfl hD (fun _ hw => RunV.fieldAddr rfl rfl rfl) ?_
      refine SatD.tk 11 rfl hD (fun _ hw => RunV.load1 hw rfl rfl (by repeat constructor) rfl) ?_
      refine SatD.tk 12 rfl hD (fun _ hw => RunV.geq rfl rfl) ?_
      refine SatD.tk 13 rfl hD (fun _ hw => RunV.pick_t rfl rfl) ?_
      refine SatD.done 0 (by kernel_rfl) (SatE.thenC ?_)
      clear hD
      refine SatC.weak (e' := [(0, _), (1, _), (2, _), (3, _), (8, _), (9, _), (10, _), (11, _), (35, _)]) (by repeat constructor) ?_
      refine SatC.cond rfl (fun h3 => ?_) (fun h3 => ?_)
      · (try simp only [cx, ne_eq] at h3)
        try (exfalso; (first | omega | exact h3 trivial | contradiction | exact absurd ((show fd = false by assumption).symm.trans (show fd = true by assumption)) (by decide)); done)
        all_goals
        refine SatC.seq ?_
        refine SatC.region ?_
        refine SatL.pu (RunV.build rfl (by simp [go_sem]; try rfl)) rfl ?_
        refine SatL.op rfl (OpW.store hS rfl rfl (by repeat constructor) (by repeat constructor) (by repeat constructor) rfl rfl ?_)
        clear hS
        intro w5 hS
        refine SatL.pu (RunV.assign rfl) rfl ?_
        refine SatL.nil (SatE.thenC ?_)
        refine SatC.ret (SatE.then_ret ?_)
        refine SatE.retG2 hS rfl (.cellN rfl rfl (by repeat constructor) (by repeat constructor)) (.tmp rfl) ?_
        first
        | exact ⟨k, fd, hfd, .inl ⟨by assumption, by omega, rfl, St.ro hown (hS.sel (R := (b, C 58 (tc most v last)) :: B) (by repeat constructor)) .all⟩⟩
        | (obtain rfl : fd = false := by assumption
           exact ⟨k, false, hfd, .inr ⟨.inr (by assumption), rfl, v66, B89, (by rw [← put_new rows k hkle]; exact hsl89), hS.sel (by repeat constructor)⟩⟩)
        | (obtain rfl : fd = true := by assumption
           exact ⟨k, true, hfd, .inr ⟨.inl rfl, rfl, v, B58, (by rw [← put_old rows k]; exact hsl58), hS.sel (by repeat constructor)⟩⟩)
      · (try simp only [cx, ne_eq] at h3)
        try (exfalso; (first | omega | exact h3 trivial | contradiction | exact absurd ((show fd = false by assumption).symm.trans (show fd = true by assumption)) (by decide)); done)
        all_goals
        refine SatC.skip (SatE.thenC ?_)
        refine SatC.seq ?_
        refine SatC.region ?_
        refine SatL.pu (RunV.move rfl) rfl ?_
        refine SatL.pu (RunV.move rfl) rfl ?_
        refine SatL.pu (RunV.move rfl) rfl ?_
        refine SatL.pu (RunV.move rfl) rfl ?_
        refine SatL.pu (RunV.build rfl (by simp [go_sem]; try rfl)) rfl ?_
        refine SatL.op rfl (OpW.alloc hS rfl rfl (by repeat constructor) ?_)
        clear hS
        intro b12 w5 _ hS
        refine SatL.op rfl (OpW.store hS rfl rfl (by repeat constructor) (by repeat constructor) (by repeat constructor) rfl rfl ?_)
        clear hS
        intro w6 hS
        refine SatL.nil (SatE.thenC ?_)
        refine SatC.seq ?_
        refine SatC.seq ?_
        refine SatC.region ?_
        refine SatL.pu (RunV.move rfl) rfl ?_
        refine SatL.nil (SatE.thenC ?_)
        refine SatC.cond rfl (fun h4 => ?_) (fun h4 => ?_)
        · (try simp only [cx, ne_eq] at h4)
          try (exfalso; (first | omega | exact h4 trivial | contradiction | exact absurd ((show fd = false by assumption).symm.trans (show fd = true by assumption)) (by decide)); done)
          all_goals
          refine SatC.seq ?_
          have hkl : k < rows.length := (hlt.1 (by assumption)).1
          have hy := getD_at hkl
          refine SatC.region ?_
          refine SatL.pu (RunV.move rfl) rfl ?_
          first | refine SatL.pu (RunV.nil_ptr rfl) rfl ?_ | refine SatL.pu (RunV.nil_func rfl) rfl ?_ | refine SatL.pu (RunV.nil_yield rfl) rfl ?_
          first | refine SatL.pu (RunV.fieldAddrL rfl rfl rfl) rfl ?_ | refine SatL.pu (RunV.fieldAddr rfl rfl rfl) rfl ?_
          refine SatL.pu (RunV.load1 hS rfl rfl (by repeat constructor) rfl) rfl ?_
          refine SatL.pu (RunV.move rfl) rfl ?_
          first | refine SatL.pu (RunV.indexR (by assumption) rfl rfl rfl (by omega) (by omega) rfl) rfl ?_ | refine SatL.pu (RunV.indexS rfl rfl rfl (by omega) (by omega) rfl) rfl ?_
          first | refine SatL.pu (RunV.fieldAddrL rfl rfl rfl) rfl ?_ | refine SatL.pu (RunV.fieldAddr rfl rfl rfl) rfl ?_
          first | refine SatL.pu (RunV.loadR1f (RdC.st (by assumption) hS List.not_mem_nil) rfl rfl (by first | assumption | exact map_get (by assumption)) rfl) rfl ?_ | refine SatL.pu (RunV.loadR1f (Sl.rd (by assumption) hS (by repeat constructor)) rfl rfl (by first | assumption | exact map_get (by assumption)) rfl) rfl ?_
          first | refine SatL.pu (RunV.fieldAddrL rfl rfl rfl) rfl ?_ | refine SatL.pu (RunV.fieldAddr rfl rfl rfl) rfl ?_
          refine SatL.op rfl (OpW.store hS rfl rfl (by repeat constructor) (by repeat constructor) (by repeat constructor) rfl rfl ?_)
          clear hS
          intro w7 hS
          refine SatL.nil (SatE.thenC ?_)
          refine SatC.weak (e' := [(0, _), (3, _), (8, _), (9, _), (10, _), (12, _)]) (by repeat constructor) ?_
          refine SatC.drawnT 7 hS (hS) (by kernel_rfl) ?_
          clear hS
          intro w8 hh hS hD
          refine SatD.tk 0 rfl hD (fun _ hw => RunV.move rfl) ?_
          first | refine SatD.tk 1 rfl hD (fun _ hw => RunV.nil_ptr rfl) ?_ | refine SatD.tk 1 rfl hD (fun _ hw => RunV.nil_func rfl) ?_ | refine SatD.tk 1 rfl hD (fun _ hw => RunV.nil_yield rfl) ?_
          first | refine SatD.tk 2 rfl hD (fun _ hw => RunV.fieldAddrL rfl rfl rfl) ?_ | refine SatD.tk 2 rfl hD (fun _ hw => RunV.fieldAddr rfl rfl rfl) ?_
          refine SatD.tk 3 rfl hD (fun _ hw => RunV.load1 hw rfl rfl (by repeat constructor) rfl) ?_
          refine SatD.tk 4 rfl hD (fun _ hw => RunV.move rfl) ?_
          refine SatD.tk 5 rfl hD (fun _ hw => RunV.loadN hw rfl rfl (by repeat constructor) (by repeat constructor)) ?_
          first | refine SatD.tk 6 rfl hD (fun _ hw => RunV.indexR (by assumption) rfl rfl rfl (by omega) (by omega) rfl) ?_ | refine SatD.tk 6 rfl hD (fun _ hw => RunV.indexS rfl rfl rfl (by omega) (by omega) rfl) ?_
          refine SatD.effF (by kernel_rfl) rfl rfl (OpW.storeSl hsl hS (by repeat constructor) rfl rfl (.agg) rfl (by simp only [List.length_map]; omega) rfl rfl ?_)
          clear hS
          intro B58 w9 hsl58 hS
          refine SatD.done 0 (by kernel_rfl) (SatE.thenC ?_)
          clear hD
          refine SatC.seq ?_
          refine SatC.region ?_
          refine SatL.pu (RunV.move rfl) rfl ?_
          refine SatL.pu (RunV.move rfl) rfl ?_
          refine SatL.op rfl (OpW.enter rfl rfl rfl (rfl) ((by first | exact raise_any ix (hS.ownT (A := (b, C 58 (tc most v66 last)) :: B89) (by repeat constructor)) hm | exact raise_any ix (hS.ownT (A := (b, C 58 (tc most v last)) :: B58) (by repeat constructor)) hm)) ?_)
          rintro r10 w10 ⟨rfl, h⟩
          replace hS := (by first | exact hS.callT (A := (b, C 58 (tc most v66 last)) :: B89) (by repeat constructor) h | exact hS.callT (A := (b, C 58 (tc most v last)) :: B58) (by repeat constructor) h)
          refine SatL.nil (SatE.thenC ?_)
          refine SatC.seq ?_
          refine SatC.weak (e' := [(8, _), (9, _), (12, _)]) (by repeat constructor) ?_
          refine SatC.region ?_
          refine SatL.pu (RunV.loadN hS rfl rfl (by repeat constructor) (by repeat constructor)) rfl ?_
          refine SatL.op rfl (OpW.store hS rfl rfl (by repeat constructor) (by repeat constructor) (by repeat constructor) rfl rfl ?_)
          clear hS
          intro w11 hS
          refine SatL.pu (RunV.assign rfl) rfl ?_
          refine SatL.nil (SatE.thenC ?_)
          refine SatC.ret ?_
          refine SatE.retG2 hS rfl (.cellN rfl rfl (by repeat constructor) (by repeat constructor)) (.tmp rfl) ?_
          first
          | exact ⟨k, fd, hfd, .inl ⟨by assumption, by omega, rfl, St.ro hown (hS.sel (R := (b, C 58 (tc most v last)) :: B) (by repeat constructor)) .all⟩⟩
          | (obtain rfl : fd = false := by assumption
             exact ⟨k, false, hfd, .inr ⟨.inr (by assumption), rfl, v66, B89, (by rw [← put_new rows k hkle]; exact hsl89), hS.sel (by repeat constructor)⟩⟩)
          | (obtain rfl : fd = true := by assumption
             exact ⟨k, true, hfd, .inr ⟨.inl rfl, rfl, v, B58, (by rw [← put_old rows k]; exact hsl58), hS.sel (by repeat constructor)⟩⟩)
        · (try simp only [cx, ne_eq] at h4)
          try (exfalso; (first | omega | exact h4 trivial | contradiction | exact absurd ((show fd = false by assumption).symm.trans (show fd = true by assumption)) (by decide)); done)
          all_goals
          refine SatC.seq ?_
          refine SatC.region ?_
          refine SatL.pu (RunV.move rfl) rfl ?_
          refine SatL.pu (RunV.move rfl) rfl ?_
          first | refine SatL.pu (RunV.nil_ptr rfl) rfl ?_ | refine SatL.pu (RunV.nil_func rfl) rfl ?_ | refine SatL.pu (RunV.nil_yield rfl) rfl ?_
          first | refine SatL.pu (RunV.fieldAddrL rfl rfl rfl) rfl ?_ | refine SatL.pu (RunV.fieldAddr rfl rfl rfl) rfl ?_
          refine SatL.pu (RunV.load1 hS rfl rfl (by repeat constructor) rfl) rfl ?_
          refine SatL.pu (RunV.build rfl (by simp [go_sem]; try rfl)) rfl ?_
          refine SatL.op rfl (OpW.buildSlice1 hS rfl rfl rfl rfl rfl (by repeat constructor) rfl rfl rfl ?_)
          clear hS
          intro b65 w7 _ hS
          refine SatL.op rfl (OpW.append1 (by assumption) hS (by repeat constructor) rfl rfl (by repeat constructor) rfl rfl rfl rfl rfl rfl rfl rfl (by first | omega | (simp only [List.length_map]; omega) | (simp only [List.length_append, List.length_map, List.length_cons, List.length_nil]; omega)) rfl ?_)
          clear hS
          intro v66 B66 w8 hsl66 hS
          first | refine SatL.pu (RunV.nil_ptr rfl) rfl ?_ | refine SatL.pu (RunV.nil_func rfl) rfl ?_ | refine SatL.pu (RunV.nil_yield rfl) rfl ?_
          first | refine SatL.pu (RunV.fieldAddrL rfl rfl rfl) rfl ?_ | refine SatL.pu (RunV.fieldAddr rfl rfl rfl) rfl ?_
          refine SatL.op rfl (OpW.store hS rfl rfl (.one hsl66.one) (by repeat constructor) (by repeat constructor) rfl (by simp [hsl66.one]) ?_)
          clear hS
          intro w9 hS
          refine SatL.nil (SatE.thenC ?_)
          refine SatC.seq ?_
          refine SatC.weak (e' := [(0, _), (3, _), (8, _), (9, _), (10, _), (12, _)]) (by repeat constructor) ?_
          obtain ⟨c66, hv66⟩ := hsl66.slv
          simp only [List.length_append, List.length_map, List.length_cons, List.length_nil, Nat.zero_add] at hv66
          have hk1 : ((k : Int) + 1).toNat = k + 1 := by omega
          have hd1 : SlV (cutV v66 ((k : Int) + 1).toNat (rows.length + 1) 4) (blk B66) ((k + 1) * 4) (rows.length - k) (c66 - (k + 1)) := by
            have := SlV.cutV 4 hv66 (show k + 1 ≤ rows.length + 1 by omega) (Nat.le_refl _)
            rw [hk1]
            rw [Nat.zero_add, show rows.length + 1 - (k + 1) = rows.length - k by omega] at this
            exact this
          have hd2 : SlV (cutV v66 (k : Int).toNat (rows.length + 1) 4) (blk B66) (k * 4) (rows.length + 1 - k) (c66 - k) := by
            have := SlV.cutV 4 hv66 (show k ≤ rows.length + 1 by omega) (Nat.le_refl _)
            rw [Nat.zero_add] at this
            exact this
          refine SatC.drawnT 13 hS (hS) (by kernel_rfl) ?_
          clear hS
          intro w10 hh hS hD
          refine SatD.tkp 0 rfl [6, 3, 2, 1] hD (fun _ hw => RunV.move rfl) ?_
          first | refine SatD.tkp 1 rfl [6, 3, 2] hD (fun _ hw => RunV.nil_ptr rfl) ?_ | refine SatD.tkp 1 rfl [6, 3, 2] hD (fun _ hw => RunV.nil_func rfl) ?_ | refine SatD.tkp 1 rfl [6, 3, 2] hD (fun _ hw => RunV.nil_yield rfl) ?_
          first | refine SatD.tkp 2 rfl [6, 3] hD (fun _ hw => RunV.fieldAddrL rfl rfl rfl) ?_ | refine SatD.tkp 2 rfl [6, 3] hD (fun _ hw => RunV.fieldAddr rfl rfl rfl) ?_
          refine SatD.tkp 3 rfl [6] hD (fun _ hw => RunV.load1 hw rfl rfl (by repeat constructor) rfl) ?_
          refine SatD.tkp 4 rfl [6, 5] hD (fun _ hw => RunV.move rfl) ?_
          refine SatD.tkp 5 rfl [6] hD (fun _ hw => RunV.add rfl rfl (by first | exact wrapI64 (by omega) | rfl)) ?_
          refine SatD.tk 6 rfl hD (fun _ hw => RunV.cutLv (by assumption) rfl rfl rfl rfl (by omega) (by omega)) ?_
          refine SatD.tkp 7 rfl [12, 10, 9, 8] hD (fun _ hw => RunV.move rfl) ?_
          first | refine SatD.tkp 8 rfl [12, 10, 9] hD (fun _ hw => RunV.nil_ptr rfl) ?_ | refine SatD.tkp 8 rfl [12, 10, 9] hD (fun _ hw => RunV.nil_func rfl) ?_ | refine SatD.tkp 8 rfl [12, 10, 9] hD (fun _ hw => RunV.nil_yield rfl) ?_
          first | refine SatD.tkp 9 rfl [12, 10] hD (fun _ hw => RunV.fieldAddrL rfl rfl rfl) ?_ | refine SatD.tkp 9 rfl [12, 10] hD (fun _ hw => RunV.fieldAddr rfl rfl rfl) ?_
          refine SatD.tkp 10 rfl [12] hD (fun _ hw => RunV.load1 hw rfl rfl (by repeat constructor) rfl) ?_
          refine SatD.tkp 11 rfl [12] hD (fun _ hw => RunV.move rfl) ?_
          refine SatD.tk 12 rfl hD (fun _ hw => RunV.cutLv (by assumption) rfl rfl rfl rfl (by omega) (by omega)) ?_
          refine SatD.effF (by kernel_rfl) rfl rfl (OpW.copySl hsl66 hS (by repeat constructor) hd1 (by simp only [List.length_append, List.length_map, List.length_cons, List.length_nil]; omega) hd2 (RdC.drop0 k (hsl66.rd hS (by repeat constructor))) (by simp only [List.length_drop, List.length_append, List.length_map, List.length_cons, List.length_nil]) rfl rfl rfl rfl rfl (one_drop rows k) rfl ?_)
          clear hS
          intro B82 w11 hsl82 hS
          rw [put_shift rows k (by omega)] at hsl82
          refine SatD.done 0 (by kernel_rfl) (SatE.thenC ?_)
          clear hD
          refine SatC.weak (e' := [(0, _), (3, _), (8, _), (9, _), (10, _), (12, _)]) (by repeat constructor) ?_
          obtain ⟨c82, hv82⟩ := hsl82.slv
          rw [sh_len, show min (k + 1) (rows.length + 1) + (rows.length - k) = rows.length + 1 by omega] at hv82
          clear hv66
          refine SatC.drawnT 7 hS (hS) (by kernel_rfl) ?_
          clear hS
          intro w12 hh hS hD
          refine SatD.tk 0 rfl hD (fun _ hw => RunV.move rfl) ?_
          first | refine SatD.tk 1 rfl hD (fun _ hw => RunV.nil_ptr rfl) ?_ | refine SatD.tk 1 rfl hD (fun _ hw => RunV.nil_func rfl) ?_ | refine SatD.tk 1 rfl hD (fun _ hw => RunV.nil_yield rfl) ?_
          first | refine SatD.tk 2 rfl hD (fun _ hw => RunV.fieldAddrL rfl rfl rfl) ?_ | refine SatD.tk 2 rfl hD (fun _ hw => RunV.fieldAddr rfl rfl rfl) ?_
          refine SatD.tk 3 rfl hD (fun _ hw => RunV.load1 hw rfl rfl (by repeat constructor) rfl) ?_
          refine SatD.tk 4 rfl hD (fun _ hw => RunV.move rfl) ?_
          refine SatD.tk 5 rfl hD (fun _ hw => RunV.loadN hw rfl rfl (by repeat constructor) (by repeat constructor)) ?_
          first | refine SatD.tk 6 rfl hD (fun _ hw => RunV.indexR (by assumption) rfl rfl rfl (by omega) (by omega) rfl) ?_ | refine SatD.tk 6 rfl hD (fun _ hw => RunV.indexS rfl rfl rfl (by omega) (by omega) rfl) ?_
          refine SatD.effF (by kernel_rfl) rfl rfl (OpW.storeSl hsl82 hS (by repeat constructor) rfl rfl (.agg) rfl (by rw [sh_len]; omega) rfl rfl ?_)
          clear hS
          intro B89 w13 hsl89 hS
          refine SatD.done 0 (by kernel_rfl) (SatE.thenC ?_)
          clear hD
          refine SatC.seq ?_
          refine SatC.region ?_
          refine SatL.pu (RunV.move rfl) rfl ?_
          refine SatL.pu (RunV.move rfl) rfl ?_
          refine SatL.op rfl (OpW.enter rfl rfl rfl (rfl) ((by first | exact raise_any ix (hS.ownT (A := (b, C 58 (tc most v66 last)) :: B89) (by repeat constructor)) hm | exact raise_any ix (hS.ownT (A := (b, C 58 (tc most v last)) :: B58) (by repeat constructor)) hm)) ?_)
          rintro r14 w14 ⟨rfl, h⟩
          replace hS := (by first | exact hS.callT (A := (b, C 58 (tc most v66 last)) :: B89) (by repeat constructor) h | exact hS.callT (A := (b, C 58 (tc most v last)) :: B58) (by repeat constructor) h)
          refine SatL.nil (SatE.thenC ?_)
          refine SatC.seq ?_
          refine SatC.weak (e' := [(8, _), (9, _), (12, _)]) (by repeat constructor) ?_
          refine SatC.region ?_
          refine SatL.pu (RunV.loadN hS rfl rfl (by repeat constructor) (by repeat constructor)) rfl ?_
          refine SatL.op rfl (OpW.store hS rfl rfl (by repeat constructor) (by repeat constructor) (by repeat constructor) rfl rfl ?_)
          clear hS
          intro w15 hS
          refine SatL.pu (RunV.assign rfl) rfl ?_
          refine SatL.nil (SatE.thenC ?_)
          refine SatC.ret ?_
          refine SatE.retG2 hS rfl (.cellN rfl rfl (by repeat constructor) (by repeat constructor)) (.tmp rfl) ?_
          first
          | exact ⟨k, fd, hfd, .inl ⟨by assumption, by omega, rfl, St.ro hown (hS.sel (R := (b, C 58 (tc most v last)) :: B) (by repeat constructor)) .all⟩⟩
          | (obtain rfl : fd = false := by assumption
             exact ⟨k, false, hfd, .inr ⟨.inr (by assumption), rfl, v66, B89, (by rw [← put_new rows k hkle]; exact hsl89), hS.sel (by repeat constructor)⟩⟩)
          | (obtain rfl : fd = true := by assumption
             exact ⟨k, true, hfd, .inr ⟨.inl rfl, rfl, v, B58, (by rw [← put_old rows k]; exact hsl58), hS.sel (by repeat constructor)⟩⟩)
    · (try simp only [cx, ne_eq] at h2)
      try (exfalso; (first | omega | exact h2 trivial | contradiction | exact absurd ((show fd = false by assumption).symm.trans (show fd = true by assumption)) (by decide)); done)
      all_goals
      refine SatD.sk 3 rfl [] hD ?_
      refine SatD.sk 4 rfl [] hD ?_
      refine SatD.sk 5 rfl [] hD ?_
      refine SatD.sk 6 rfl [] hD ?_
      refine SatD.sk 7 rfl [] hD ?_
      refine SatD.sk 8 rfl [] hD ?_
      refine SatD.sk 9 rfl [] hD ?_
      refine SatD.sk 10 rfl [] hD ?_
      refine SatD.sk 11 rfl [] hD ?_
      refine SatD.sk 12 rfl [] hD ?_
      refine SatD.tk 13 rfl hD (fun _ hw => RunV.pick_f rfl rfl) ?_
      refine SatD.done 0 (by kernel_rfl) (SatE.thenC ?_)
      clear hD
      refine SatC.weak (e' := [(0, _), (1, _), (2, _), (3, _), (8, _), (9, _), (10, _), (11, _), (35, _)]) (by repeat constructor) ?_
      refine SatC.cond_f rfl ?_
      refine SatC.skip (SatE.thenC ?_)
      refine SatC.seq ?_
      refine SatC.region ?_
      refine SatL.pu (RunV.move rfl) rfl ?_
      refine SatL.pu (RunV.move rfl) rfl ?_
      refine SatL.pu (RunV.move rfl) rfl ?_
      refine SatL.pu (RunV.move rfl) rfl ?_
      refine SatL.pu (RunV.build rfl (by simp [go_sem]; try rfl)) rfl ?_
      refine SatL.op rfl (OpW.alloc hS rfl rfl (by repeat constructor) ?_)
      clear hS
      intro b12 w5 _ hS
      refine SatL.op rfl (OpW.store hS rfl rfl (by repeat constructor) (by repeat constructor) (by repeat constructor) rfl rfl ?_)
      clear hS
      intro w6 hS
      refine SatL.nil (SatE.thenC ?_)
      refine SatC.seq ?_
      refine SatC.seq ?_
      refine SatC.region ?_
      refine SatL.pu (RunV.move rfl) rfl ?_
      refine SatL.nil (SatE.thenC ?_)
      refine SatC.cond rfl (fun h3 => ?_) (fun h3 => ?_)
      · (try simp only [cx, ne_eq] at h3)
        try (exfalso; (first | omega | exact h3 trivial | contradiction | exact absurd ((show fd = false by assumption).symm.trans (show fd = true by assumption)) (by decide)); done)
        all_goals
        refine SatC.seq ?_
        have hkl : k < rows.length := (hlt.1 (by assumption)).1
        have hy := getD_at hkl
        refine SatC.region ?_
        refine SatL.pu (RunV.move rfl) rfl ?_
        first | refine SatL.pu (RunV.nil_ptr rfl) rfl ?_ | refine SatL.pu (RunV.nil_func rfl) rfl ?_ | refine SatL.pu (RunV.nil_yield rfl) rfl ?_
        first | refine SatL.pu (RunV.fieldAddrL rfl rfl rfl) rfl ?_ | refine SatL.pu (RunV.fieldAddr rfl rfl rfl) rfl ?_
        refine SatL.pu (RunV.load1 hS rfl rfl (by repeat constructor) rfl) rfl ?_
        refine SatL.pu (RunV.move rfl) rfl ?_
        first | refine SatL.pu (RunV.indexR (by assumption) rfl rfl rfl (by omega) (by omega) rfl) rfl ?_ | refine SatL.pu (RunV.indexS rfl rfl rfl (by omega) (by omega) rfl) rfl ?_
        first | refine SatL.pu (RunV.fieldAddrL rfl rfl rfl) rfl ?_ | refine SatL.pu (RunV.fieldAddr rfl rfl rfl) rfl ?_
        first | refine SatL.pu (RunV.loadR1f (RdC.st (by assumption) hS List.not_mem_nil) rfl rfl (by first | assumption | exact map_get (by assumption)) rfl) rfl ?_ | refine SatL.pu (RunV.loadR1f (Sl.rd (by assumption) hS (by repeat constructor)) rfl rfl (by first | assumption | exact map_get (by assumption)) rfl) rfl ?_
        first | refine SatL.pu (RunV.fieldAddrL rfl rfl rfl) rfl ?_ | refine SatL.pu (RunV.fieldAddr rfl rfl rfl) rfl ?_
        refine SatL.op rfl (OpW.store hS rfl rfl (by repeat constructor) (by repeat constructor) (by repeat constructor) rfl rfl ?_)
        clear hS
        intro w7 hS
        refine SatL.nil (SatE.thenC ?_)
        refine SatC.weak (e' := [(0, _), (3, _), (8, _), (9, _), (10, _), (12, _)]) (by repeat constructor) ?_
        refine SatC.drawnT 7 hS (hS) (by kernel_rfl) ?_
        clear hS
        intro w8 hh hS hD
        refine SatD.tk 0 rfl hD (fun _ hw => RunV.move rfl) ?_
        first | refine SatD.tk 1 rfl hD (fun _ hw => RunV.nil_ptr rfl) ?_ | refine SatD.tk 1 rfl hD (fun _ hw => RunV.nil_func rfl) ?_ | refine SatD.tk 1 rfl hD (fun _ hw => RunV.nil_yield rfl) ?_
        first | refine SatD.tk 2 rfl hD (fun _ hw => RunV.fieldAddrL rfl rfl rfl) ?_ | refine SatD.tk 2 rfl hD (fun _ hw => RunV.fieldAddr rfl rfl rfl) ?_
        refine SatD.tk 3 rfl hD (fun _ hw => RunV.load1 hw rfl rfl (by repeat constructor) rfl) ?_
        refine SatD.tk 4 rfl hD (fun _ hw => RunV.move rfl) ?_
        refine SatD.tk 5 rfl hD (fun _ hw => RunV.loadN hw rfl rfl (by repeat constructor) (by repeat constructor)) ?_
        first | refine SatD.tk 6 rfl hD (fun _ hw => RunV.indexR (by assumption) rfl rfl rfl (by omega) (by omega) rfl) ?_ | refine SatD.tk 6 rfl hD (fun _ hw => RunV.indexS rfl rfl rfl (by omega) (by omega) rfl) ?_
        refine SatD.effF (by kernel_rfl) rfl rfl (OpW.storeSl hsl hS (by repeat constructor) rfl rfl (.agg) rfl (by simp only [List.length_map]; omega) rfl rfl ?_)
        clear hS
        intro B58 w9 hsl58 hS
        refine SatD.done 0 (by kernel_rfl) (SatE.thenC ?_)
        clear hD
        refine SatC.seq ?_
        refine SatC.region ?_
        refine SatL.pu (RunV.move rfl) rfl ?_
        refine SatL.pu (RunV.move rfl) rfl ?_
        refine SatL.op rfl (OpW.enter rfl rfl rfl (rfl) ((by first | exact raise_any ix (hS.ownT (A := (b, C 58 (tc most v66 last)) :: B89) (by repeat constructor)) hm | exact raise_any ix (hS.ownT (A := (b, C 58 (tc most v last)) :: B58) (by repeat constructor)) hm)) ?_)
        rintro r10 w10 ⟨rfl, h⟩
        replace hS := (by first | exact hS.callT (A := (b, C 58 (tc most v66 last)) :: B89) (by repeat constructor) h | exact hS.callT (A := (b, C 58 (tc most v last)) :: B58) (by repeat constructor) h)
        refine SatL.nil (SatE.thenC ?_)
        refine SatC.seq ?_
        refine SatC.weak (e' := [(8, _), (9, _), (12, _)]) (by repeat constructor) ?_
        refine SatC.region ?_
        refine SatL.pu (RunV.loadN hS rfl rfl (by repeat constructor) (by repeat constructor)) rfl ?_
        refine SatL.op rfl (OpW.store hS rfl rfl (by repeat constructor) (by repeat constructor) (by repeat constructor) rfl rfl ?_)
        clear hS
        intro w11 hS
        refine SatL.pu (RunV.assign rfl) rfl ?_
        refine SatL.nil (SatE.thenC ?_)
        refine SatC.ret ?_
        refine SatE.retG2 hS rfl (.cellN rfl rfl (by repeat constructor) (by repeat constructor)) (.tmp rfl) ?_
        first
        | exact ⟨k, fd, hfd, .inl ⟨by assumption, by omega, rfl, St.ro hown (hS.sel (R := (b, C 58 (tc most v last)) :: B) (by repeat constructor)) .all⟩⟩
        | (obtain rfl : fd = false := by assumption
           exact ⟨k, false, hfd, .inr ⟨.inr (by assumption), rfl, v66, B89, (by rw [← put_new rows k hkle]; exact hsl89), hS.sel (by repeat constructor)⟩⟩)
        | (obtain rfl : fd = true := by assumption
           exact ⟨k, true, hfd, .inr ⟨.inl rfl, rfl, v, B58, (by rw [← put_old rows k]; exact hsl58), hS.sel (by repeat constructor)⟩⟩)
      · (try simp only [cx, ne_eq] at h3)
        try (exfalso; (first | omega | exact h3 trivial | contradiction | exact absurd ((show fd = false by assumption).symm.trans (show fd = true by assumption)) (by decide)); done)
        all_goals
        refine SatC.seq ?_
        refine SatC.region ?_
        refine SatL.pu (RunV.move rfl) rfl ?_
        refine SatL.pu (RunV.move rfl) rfl ?_
        first | refine SatL.pu (RunV.nil_ptr rfl) rfl ?_ | refine SatL.pu (RunV.nil_func rfl) rfl ?_ | refine SatL.pu (RunV.nil_yield rfl) rfl ?_
        first | refine SatL.pu (RunV.fieldAddrL rfl rfl rfl) rfl ?_ | refine SatL.pu (RunV.fieldAddr rfl rfl rfl) rfl ?_
        refine SatL.pu (RunV.load1 hS rfl rfl (by repeat constructor) rfl) rfl ?_
        refine SatL.pu (RunV.build rfl (by simp [go_sem]; try rfl)) rfl ?_
        refine SatL.op rfl (OpW.buildSlice1 hS rfl rfl rfl rfl rfl (by repeat constructor) rfl rfl rfl ?_)
        clear hS
        intro b65 w7 _ hS
        refine SatL.op rfl (OpW.append1 (by assumption) hS (by repeat constructor) rfl rfl (by repeat constructor) rfl rfl rfl rfl rfl rfl rfl rfl (by first | omega | (simp only [List.length_map]; omega) | (simp only [List.length_append, List.length_map, List.length_cons, List.length_nil]; omega)) rfl ?_)
        clear hS
        intro v66 B66 w8 hsl66 hS
        first | refine SatL.pu (RunV.nil_ptr rfl) rfl ?_ | refine SatL.pu (RunV.nil_func rfl) rfl ?_ | refine SatL.pu (RunV.nil_yield rfl) rfl ?_
        first | refine SatL.pu (RunV.fieldAddrL rfl rfl rfl) rfl ?_ | refine SatL.pu (RunV.fieldAddr rfl rfl rfl) rfl ?_
        refine SatL.op rfl (OpW.store hS rfl rfl (.one hsl66.one) (by repeat constructor) (by repeat constructor) rfl (by simp [hsl66.one]) ?_)
        clear hS
        intro w9 hS
        refine SatL.nil (SatE.thenC ?_)
        refine SatC.seq ?_
        refine SatC.weak (e' := [(0, _), (3, _), (8, _), (9, _), (10, _), (12, _)]) (by repeat constructor) ?_
        obtain ⟨c66, hv66⟩ := hsl66.slv
        simp only [List.length_append, List.length_map, List.length_cons, List.length_nil, Nat.zero_add] at hv66
        have hk1 : ((k : Int) + 1).toNat = k + 1 := by omega
        have hd1 : SlV (cutV v66 ((k : Int) + 1).toNat (rows.length + 1) 4) (blk B66) ((k + 1) * 4) (rows.length - k) (c66 - (k + 1)) := by
          have := SlV.cutV 4 hv66 (show k + 1 ≤ rows.length + 1 by omega) (Nat.le_refl _)
          rw [hk1]
          rw [Nat.zero_add, show rows.length + 1 - (k + 1) = rows.length - k by omega] at this
          exact this
        have hd2 : SlV (cutV v66 (k : Int).toNat (rows.length + 1) 4) (blk B66) (k * 4) (rows.length + 1 - k) (c66 - k) := by
          have := SlV.cutV 4 hv66 (show k ≤ rows.length + 1 by omega) (Nat.le_refl _)
          rw [Nat.zero_add] at this
          exact this
        refine SatC.drawnT 13 hS (hS) (by kernel_rfl) ?_
        clear hS
        intro w10 hh hS hD
        refine SatD.tkp 0 rfl [6, 3, 2, 1] hD (fun _ hw => RunV.move rfl) ?_
        first | refine SatD.tkp 1 rfl [6, 3, 2] hD (fun _ hw => RunV.nil_ptr rfl) ?_ | refine SatD.tkp 1 rfl [6, 3, 2] hD (fun _ hw => RunV.nil_func rfl) ?_ | refine SatD.tkp 1 rfl [6, 3, 2] hD (fun _ hw => RunV.nil_yield rfl) ?_
        first | refine SatD.tkp 2 rfl [6, 3] hD (fun _ hw => RunV.fieldAddrL rfl rfl rfl) ?_ | refine SatD.tkp 2 rfl [6, 3] hD (fun _ hw => RunV.fieldAddr rfl rfl rfl) ?_
        refine SatD.tkp 3 rfl [6] hD (fun _ hw => RunV.load1 hw rfl rfl (by repeat constructor) rfl) ?_
        refine SatD.tkp 4 rfl [6, 5] hD (fun _ hw => RunV.move rfl) ?_
        refine SatD.tkp 5 rfl [6] hD (fun _ hw => RunV.add rfl rfl (by first | exact wrapI64 (by omega) | rfl)) ?_
        refine SatD.tk 6 rfl hD (fun _ hw => RunV.cutLv (by assumption) rfl rfl rfl rfl (by omega) (by omega)) ?_
        refine SatD.tkp 7 rfl [12, 10, 9, 8] hD (fun _ hw => RunV.move rfl) ?_
        first | refine SatD.tkp 8 rfl [12, 10, 9] hD (fun _ hw => RunV.nil_ptr rfl) ?_ | refine SatD.tkp 8 rfl [12, 10, 9] hD (fun _ hw => RunV.nil_func rfl) ?_ | refine SatD.tkp 8 rfl [12, 10, 9] hD (fun _ hw => RunV.nil_yield rfl) ?_
        first | refine SatD.tkp 9 rfl [12, 10] hD (fun _ hw => RunV.fieldAddrL rfl rfl rfl) ?_ | refine SatD.tkp 9 rfl [12, 10] hD (fun _ hw => RunV.fieldAddr rfl rfl rfl) ?_
        refine SatD.tkp 10 rfl [12] hD (fun _ hw => RunV.load1 hw rfl rfl (by repeat constructor) rfl) ?_
        refine SatD.tkp 11 rfl [12] hD (fun _ hw => RunV.move rfl) ?_
        refine SatD.tk 12 rfl hD (fun _ hw => RunV.cutLv (by assumption) rfl rfl rfl rfl (by omega) (by omega)) ?_
        refine SatD.effF (by kernel_rfl) rfl rfl (OpW.copySl hsl66 hS (by repeat constructor) hd1 (by simp only [List.length_append, List.length_map, List.length_cons, List.length_nil]; omega) hd2 (RdC.drop0 k (hsl66.rd hS (by repeat constructor))) (by simp only [List.length_drop, List.length_append, List.length_map, List.length_cons, List.length_nil]) rfl rfl rfl rfl rfl (one_drop rows k) rfl ?_)
        clear hS
        intro B82 w11 hsl82 hS
        rw [put_shift rows k (by omega)] at hsl82
        refine SatD.done 0 (by kernel_rfl) (SatE.thenC ?_)
        clear hD
        refine SatC.weak (e' := [(0, _), (3, _), (8, _), (9, _), (10, _), (12, _)]) (by repeat constructor) ?_
        obtain ⟨c82, hv82⟩ := hsl82.slv
        rw [sh_len, show min (k + 1) (rows.length + 1) + (rows.length - k) = rows.length + 1 by omega] at hv82
        clear hv66
        refine SatC.drawnT 7 hS (hS) (by kernel_rfl) ?_
        clear hS
        intro w12 hh hS hD
        refine SatD.tk 0 rfl hD (fun _ hw => RunV.move rfl) ?_
        first | refine SatD.tk 1 rfl hD (fun _ hw => RunV.nil_ptr rfl) ?_ | refine SatD.tk 1 rfl hD (fun _ hw => RunV.nil_func rfl) ?_ | refine SatD.tk 1 rfl hD (fun _ hw => RunV.nil_yield rfl) ?_
        first | refine SatD.tk 2 rfl hD (fun _ hw => RunV.fieldAddrL rfl rfl rfl) ?_ | refine SatD.tk 2 rfl hD (fun _ hw => RunV.fieldAddr rfl rfl rfl) ?_
        refine SatD.tk 3 rfl hD (fun _ hw => RunV.load1 hw rfl rfl (by repeat constructor) rfl) ?_
        refine SatD.tk 4 rfl hD (fun _ hw => RunV.move rfl) ?_
        refine SatD.tk 5 rfl hD (fun _ hw => RunV.loadN hw rfl rfl (by repeat constructor) (by repeat constructor)) ?_
        first | refine SatD.tk 6 rfl hD (fun _ hw => RunV.indexR (by assumption) rfl rfl rfl (by omega) (by omega) rfl) ?_ | refine SatD.tk 6 rfl hD (fun _ hw => RunV.indexS rfl rfl rfl (by omega) (by omega) rfl) ?_
        refine SatD.effF (by kernel_rfl) rfl rfl (OpW.storeSl hsl82 hS (by repeat constructor) rfl rfl (.agg) rfl (by rw [sh_len]; omega) rfl rfl ?_)
        clear hS
        intro B89 w13 hsl89 hS
        refine SatD.done 0 (by kernel_rfl) (SatE.thenC ?_)
        clear hD
        refine SatC.seq ?_
        refine SatC.region ?_
        refine SatL.pu (RunV.move rfl) rfl ?_
        refine SatL.pu (RunV.move rfl) rfl ?_
        refine SatL.op rfl (OpW.enter rfl rfl rfl (rfl) ((by first | exact raise_any ix (hS.ownT (A := (b, C 58 (tc most v66 last)) :: B89) (by repeat constructor)) hm | exact raise_any ix (hS.ownT (A := (b, C 58 (tc most v last)) :: B58) (by repeat constructor)) hm)) ?_)
        rintro r14 w14 ⟨rfl, h⟩
        replace hS := (by first | exact hS.callT (A := (b, C 58 (tc most v66 last)) :: B89) (by repeat constructor) h | exact hS.callT (A := (b, C 58 (tc most v last)) :: B58) (by repeat constructor) h)
        refine SatL.nil (SatE.thenC ?_)
        refine SatC.seq ?_
        refine SatC.weak (e' := [(8, _), (9, _), (12, _)]) (by repeat constructor) ?_
        refine SatC.region ?_
        refine SatL.pu (RunV.loadN hS rfl rfl (by repeat constructor) (by repeat constructor)) rfl ?_
        refine SatL.op rfl (OpW.store hS rfl rfl (by repeat constructor) (by repeat constructor) (by repeat constructor) rfl rfl ?_)
        clear hS
        intro w15 hS
        refine SatL.pu (RunV.assign rfl) rfl ?_
        refine SatL.nil (SatE.thenC ?_)
        refine SatC.ret ?_
        refine SatE.retG2 hS rfl (.cellN rfl rfl (by repeat constructor) (by repeat constructor)) (.tmp rfl) ?_
        first
        | exact ⟨k, fd, hfd, .inl ⟨by assumption, by omega, rfl, St.ro hown (hS.sel (R := (b, C 58 (tc most v last)) :: B) (by repeat constructor)) .all⟩⟩
        | (obtain rfl : fd = false := by assumption
           exact ⟨k, false, hfd, .inr ⟨.inr (by assumption), rfl, v66, B89, (by rw [← put_new rows k hkle]; exact hsl89), hS.sel (by repeat constructor)⟩⟩)
        | (obtain rfl : fd = true := by assumption
           exact ⟨k, true, hfd, .inr ⟨.inl rfl, rfl, v, B58, (by rw [← put_old rows k]; exact hsl58), hS.sel (by repeat constructor)⟩⟩)
theorem drop_any (key : List UInt8) (ix : Int) (hsl : Sl 30 4 v (rows.map tr) B) (hl : rows.length ≤ 100000) (hown : Own w ((b, C 58 (tc most v last)) :: B)) (hm : ¬ most = 0) : Ret Try.prog 8 #[.pointer (some ⟨b, 0, none⟩), str key, .int .u64 ix] w fun u w' => ∃ k fd, FoundAt rows key k fd ∧ u = .bool fd ∧
    ((fd = false ∧ St w [] [] w') ∨
     (fd = true ∧ ∃ v' B', Sl 30 4 v' ((rows.eraseIdx k).map tr) B' ∧ St w (b :: B.map Prod.fst) ((b, C 58 (tc most v' (max last ix))) :: B') w')) := by
  have hS := St.init hown
  obtain ⟨c, hv⟩ := hsl.slv
  simp only [List.length_map] at hv
  refine Ret.enter Try.func8 Try.ntmps8 rfl rfl ?_
  simp only [argEnv, Nat.reduceAdd]
  refine SatC.seq ?_
  refine SatC.region ?_
  refine SatL.pu (RunV.assign rfl) rfl ?_
  refine SatL.nil (SatE.thenC ?_)
  refine SatC.seq ?_
  refine SatC.seq ?_
  refine SatC.region ?_
  refine SatL.pu (RunV.move rfl) rfl ?_
  refine SatL.op rfl (OpW.enter rfl rfl rfl (rfl) (tnone_any (hS.ownT (by repeat constructor)) hm) ?_)
  rintro r1 w1 ⟨rfl, h⟩
  replace hS := St.callN hS h
  refine SatL.nil (SatE.thenC ?_)
  refine SatC.cond rfl (fun h1 => ?_) (fun h1 => ?_)
  · (try simp only [cx, ne_eq] at h1)
    try (exfalso; (first | omega | exact h1 trivial | contradiction); done)
    all_goals
    refine SatC.seq ?_
    refine SatC.region ?_
    refine SatL.pu (RunV.assign rfl) rfl ?_
    refine SatL.nil (SatE.thenC ?_)
    refine SatC.ret (SatE.then_ret ?_)
    refine SatE.ret1 rfl rfl ?_
    first
    | (obtain rfl : fd = false := by assumption
       exact ⟨k, false, hfd, rfl, .inl ⟨rfl, St.ro hown hS .all⟩⟩)
    | (obtain rfl : fd = true := by assumption
       refine ⟨k, true, hfd, rfl, .inr ⟨rfl, v35, B35, ?_, hS.sub (List.sublist_append_left ((b, C 58 (tc most v35 (max last ix))) :: B35) B)⟩⟩
       rw [List.nil_append, ← List.map_take, ← List.map_drop, ← List.map_append, ← List.eraseIdx_eq_take_drop_succ] at hsl35
       exact hsl35)
  · (try simp only [cx, ne_eq] at h1)
    try (exfalso; (first | omega | exact h1 trivial | contradiction); done)
    all_goals
    refine SatC.skip (SatE.thenC ?_)
    refine SatC.seq ?_
    refine SatC.region ?_
    refine SatL.pu (RunV.move rfl) rfl ?_
    refine SatL.pu (RunV.move rfl) rfl ?_
    refine SatL.op rfl (OpW.enter rfl rfl rfl (rfl) (at_any key hsl (by omega) (hS.ownT (by repeat constructor))) ?_)
    rintro r2 w2 ⟨k, fd, hfd, rfl, h⟩
    replace hS := St.callN hS h
    have hlt := hfd.2.2.2
    have hkle := hfd.1
    refine SatL.pu (RunV.move rfl) rfl ?_
    refine SatL.pu (RunV.extract rfl rfl) rfl ?_
    refine SatL.pu (RunV.extract rfl rfl) rfl ?_
    refine SatL.pu (RunV.assign rfl) rfl ?_
    refine SatL.pu (RunV.assign rfl) rfl ?_
    refine SatL.nil (SatE.thenC ?_)
    refine SatC.seq ?_
    refine SatC.seq ?_
    refine SatC.region ?_
    refine SatL.pu (RunV.move rfl) rfl ?_
    refine SatL.pu (RunV.not rfl) rfl ?_
    refine SatL.nil (SatE.thenC ?_)
    refine SatC.cond rfl (fun h2 => ?_) (fun h2 => ?_)
    · (try simp only [cx, ne_eq] at h2)
      try (exfalso; (first | omega | exact h2 trivial | contradiction); done)
      all_goals
      refine SatC.seq ?_
      refine SatC.weak (e' := [(6, _)]) (by repeat constructor) ?_
      refine SatC.region ?_
      refine SatL.pu (RunV.assign rfl) rfl ?_
      refine SatL.nil (SatE.thenC ?_)
      refine SatC.ret (SatE.then_ret ?_)
      refine SatE.ret1 rfl rfl ?_
      first
      | (obtain rfl : fd = false := by assumption
         exact ⟨k, false, hfd, rfl, .inl ⟨rfl, St.ro hown hS .all⟩⟩)
      | (obtain rfl : fd = true := by assumption
         refine ⟨k, true, hfd, rfl, .inr ⟨rfl, v35, B35, ?_, hS.sub (List.sublist_append_left ((b, C 58 (tc most v35 (max last ix))) :: B35) B)⟩⟩
         rw [List.nil_append, ← List.map_take, ← List.map_drop, ← List.map_append, ← List.eraseIdx_eq_take_drop_succ] at hsl35
         exact hsl35)
    · (try simp only [cx, ne_eq] at h2)
      try (exfalso; (first | omega | exact h2 trivial | contradiction); done)
      all_goals
      refine SatC.skip (SatE.thenC ?_)
      refine SatC.seq ?_
      refine SatC.weak (e' := [(0, _), (2, _), (6, _), (7, _)]) (by repeat constructor) ?_
      have hkl : k < rows.length := (hlt.1 (by assumption)).1
      have hd1 : SlV (cutV v 0 (k : Int).toNat 4) (blk B) 0 k c := by
        have := SlV.cutV 4 hv (Nat.zero_le k) (by omega)
        simpa using this
      have hd2 : SlV (cutV v ((k : Int) + 1).toNat rows.length 4) (blk B) ((k + 1) * 4) (rows.length - (k + 1)) (c - (k + 1)) := by
        have := SlV.cutV 4 hv (show k + 1 ≤ rows.length by omega) (Nat.le_refl _)
        rw [Nat.zero_add] at this
        rw [show ((k : Int) + 1).toNat = k + 1 by omega]
        exact this
      refine SatC.drawnT 19 hS (hS) (by kernel_rfl) ?_
      clear hS
      intro w3 hh hS hD
      refine SatD.tk 0 rfl hD (fun _ hw => RunV.move rfl) ?_
      refine SatD.tk 2 rfl hD (fun _ hw => RunV.move rfl) ?_
      first | refine SatD.tk 3 rfl hD (fun _ hw => RunV.nil_ptr rfl) ?_ | refine SatD.tk 3 rfl hD (fun _ hw => RunV.nil_func rfl) ?_ | refine SatD.tk 3 rfl hD (fun _ hw => RunV.nil_yield rfl) ?_
      first | refine SatD.tk 4 rfl hD (fun _ hw => RunV.fieldAddrL rfl rfl rfl) ?_ | refine SatD.tk 4 rfl hD (fun _ hw => RunV.fieldAddr rfl rfl rfl) ?_
      refine SatD.tk 5 rfl hD (fun _ hw => RunV.load1 hw rfl rfl (by repeat constructor) rfl) ?_
      refine SatD.tk 6 rfl hD (fun _ hw => RunV.move rfl) ?_
      refine SatD.tk 7 rfl hD (fun _ hw => RunV.cutHv (by assumption) rfl rfl rfl rfl (by omega) (by omega)) ?_
      refine SatD.tk 9 rfl hD (fun _ hw => RunV.move rfl) ?_
      first | refine SatD.tk 10 rfl hD (fun _ hw => RunV.nil_ptr rfl) ?_ | refine SatD.tk 10 rfl hD (fun _ hw => RunV.nil_func rfl) ?_ | refine SatD.tk 10 rfl hD (fun _ hw => RunV.nil_yield rfl) ?_
      first | refine SatD.tk 11 rfl hD (fun _ hw => RunV.fieldAddrL rfl rfl rfl) ?_ | refine SatD.tk 11 rfl hD (fun _ hw => RunV.fieldAddr rfl rfl rfl) ?_
      refine SatD.tk 12 rfl hD (fun _ hw => RunV.load1 hw rfl rfl (by repeat constructor) rfl) ?_
      refine SatD.tk 13 rfl hD (fun _ hw => RunV.move rfl) ?_
      refine SatD.tk 14 rfl hD (fun _ hw => RunV.add rfl rfl (by first | exact wrapI64 (by omega) | rfl)) ?_
      refine SatD.tk 15 rfl hD (fun _ hw => RunV.cutLv (by assumption) rfl rfl rfl rfl (by omega) (by omega)) ?_
      refine SatD.ef 1 rfl (OpW.buildSlice0 hS rfl rfl rfl ?_)
      clear hS
      intro v20 b20 w4 _ hsl20 hv20 hS
      refine keepS ((by first | exact hS | exact hS.sub (List.sublist_append_right _ _))) (fun hD => ?_)
      refine SatD.ef 8 rfl (OpW.appendN hsl20 hS (by repeat constructor) hd1 ((hsl.rd hS (by repeat constructor)).take (h := k)) (by rw [List.length_take, List.length_map]; omega) rfl rfl rfl rfl rfl rfl rfl (fun r hr => tr_one rows r (List.mem_of_mem_take hr)) (by simp only [List.length_nil]; omega) rfl ?_)
      clear hS
      intro v27 B27 w5 hsl27 hS
      refine keepS ((by first | exact hS | exact hS.sub (List.sublist_append_right _ _))) (fun hD => ?_)
      refine SatD.ef 16 rfl (OpW.appendN hsl27 hS (by repeat constructor) hd2 (RdC.drop0 (k + 1) (hsl.rd hS (by repeat constructor))) (by rw [List.length_drop, List.length_map]) rfl rfl rfl rfl rfl rfl rfl (fun r hr => tr_one rows r (List.mem_of_mem_drop hr)) (by simp only [List.length_append, List.length_nil, List.length_take, List.length_map]; omega) rfl ?_)
      clear hS
      intro v35 B35 w6 hsl35 hS
      refine keepS ((by first | exact hS | exact hS.sub (List.sublist_append_right _ _))) (fun hD => ?_)
      first | refine SatD.tkp 17 rfl [18] hD (fun _ hw => RunV.nil_ptr rfl) ?_ | refine SatD.tkp 17 rfl [18] hD (fun _ hw => RunV.nil_func rfl) ?_ | refine SatD.tkp 17 rfl [18] hD (fun _ hw => RunV.nil_yield rfl) ?_
      first | refine SatD.tk 18 rfl hD (fun _ hw => RunV.fieldAddrL rfl rfl rfl) ?_ | refine SatD.tk 18 rfl hD (fun _ hw => RunV.fieldAddr rfl rfl rfl) ?_
      refine SatD.effF (by kernel_rfl) rfl rfl (OpW.store hS rfl rfl (.one hsl35.one) (by repeat constructor) (by repeat constructor) rfl (by simp [hsl35.one]) ?_)
      clear hS
      intro w7 hS
      refine SatD.done 0 (by kernel_rfl) (SatE.thenC ?_)
      clear hD
      refine SatC.seq ?_
      refine SatC.weak (e' := [(0, _), (2, _), (6, _)]) (by repeat constructor) ?_
      refine SatC.region ?_
      refine SatL.pu (RunV.move rfl) rfl ?_
      refine SatL.pu (RunV.move rfl) rfl ?_
      refine SatL.op rfl (OpW.enter rfl rfl rfl (rfl) (raise_any ix (hS.ownT (A := (b, C 58 (tc most v35 last)) :: B35) (by repeat constructor)) hm) ?_)
      rintro r8 w8 ⟨rfl, h⟩
      replace hS := hS.callT (A := (b, C 58 (tc most v35 last)) :: B35) (by repeat constructor) h
      refine SatL.nil (SatE.thenC ?_)
      refine SatC.seq ?_
      refine SatC.region ?_
      refine SatL.pu (RunV.assign rfl) rfl ?_
      refine SatL.nil (SatE.thenC ?_)
      refine SatC.ret ?_
      refine SatE.ret1 rfl rfl ?_
      first
      | (obtain rfl : fd = false := by assumption
         exact ⟨k, false, hfd, rfl, .inl ⟨rfl, St.ro hown hS .all⟩⟩)
      | (obtain rfl : fd = true := by assumption
         refine ⟨k, true, hfd, rfl, .inr ⟨rfl, v35, B35, ?_, hS.sub (List.sublist_append_left ((b, C 58 (tc most v35 (max last ix))) :: B35) B)⟩⟩
         rw [List.nil_append, ← List.map_take, ← List.map_drop, ← List.map_append, ← List.eraseIdx_eq_take_drop_succ] at hsl35
         exact hsl35)
theorem build_tab (u : Value) (hu : u.oneCell' = true) (m l : Int) : (Instr.build 58 #[(0, .int .i64 m), (1, u), (2, .int .u64 l)]).run Try.prog w = .ok (.agg #[.int .i64 m, u, .int .u64 l]) w := by
  cases u <;> simp [go_sem, Value.oneCell'] at hu ⊢ <;> trace_state
theorem copy_any (hsl : Sl 30 4 v (rows.map tr) B) (hl : rows.length ≤ 1000000) (hown : Own w ((b, C 58 (tc most v last)) :: B)) (hm : ¬ most = 0) : Ret Try.prog 22 #[.pointer (some ⟨b, 0, none⟩)] w fun u w' => ∃ b' v' B', u = .pointer (some ⟨b', 0, none⟩) ∧ Sl 30 4 v' (rows.map tr) B' ∧ St w [] ((b', C 58 (tc most v' last)) :: B') w' := by
  have hS := St.init hown
  refine Ret.enter Try.func22 Try.ntmps22 rfl rfl ?_
  simp only [argEnv, Nat.reduceAdd]
  refine SatC.seq ?_
  refine SatC.region ?_
  refine SatL.pu (RunV.assign rfl) rfl ?_
  refine SatL.nil (SatE.thenC ?_)
  refine SatC.seq ?_
  refine SatC.seq ?_
  refine SatC.region ?_
  refine SatL.pu (RunV.move rfl) rfl ?_
  refine SatL.op rfl (OpW.enter rfl rfl rfl (rfl) (tnone_any (hS.ownT (by repeat constructor)) hm) ?_)
  rintro r1 w1 ⟨rfl, h⟩
  replace hS := St.callN hS h
  refine SatL.nil (SatE.thenC ?_)
  refine SatC.cond rfl (fun h1 => ?_) (fun h1 => ?_)
  · (try simp only [cx, ne_eq] at h1)
    try (exfalso; (first | omega | exact h1 trivial | contradiction); done)
    all_goals
    refine SatC.seq ?_
    refine SatC.region ?_
    refine SatL.pu (RunV.assign rfl) rfl ?_
    refine SatL.nil (SatE.thenC ?_)
    refine SatC.ret (SatE.then_ret ?_)
    refine SatE.ret1 rfl rfl ?_
    exact ⟨_, _, B2, rfl, hsl2, St.roL hown (hS.sel (R := ((b, C 58 (tc most v last)) :: B) ++ ((b16, C 58 (tc most r3 last)) :: B2)) (by repeat constructor)) .here⟩
  · (try simp only [cx, ne_eq] at h1)
    try (exfalso; (first | omega | exact h1 trivial | contradiction); done)
    all_goals
    refine SatC.skip (SatE.thenC ?_)
    refine SatC.seq ?_
    refine SatC.drawnT 13 hS (hS) (by kernel_rfl) ?_
    clear hS
    intro w2 hh hS hD
    refine SatD.tk 0 rfl hD (fun _ hw => RunV.move rfl) ?_
    first | refine SatD.tk 1 rfl hD (fun _ hw => RunV.nil_ptr rfl) ?_ | refine SatD.tk 1 rfl hD (fun _ hw => RunV.nil_func rfl) ?_ | refine SatD.tk 1 rfl hD (fun _ hw => RunV.nil_yield rfl) ?_
    first | refine SatD.tk 2 rfl hD (fun _ hw => RunV.fieldAddrL rfl rfl rfl) ?_ | refine SatD.tk 2 rfl hD (fun _ hw => RunV.fieldAddr rfl rfl rfl) ?_
    refine SatD.tk 3 rfl hD (fun _ hw => RunV.load1 hw rfl rfl (by repeat constructor) rfl) ?_
    refine SatD.tk 4 rfl hD (fun _ hw => RunV.move rfl) ?_
    refine SatD.tk 6 rfl hD (fun _ hw => RunV.move rfl) ?_
    first | refine SatD.tk 7 rfl hD (fun _ hw => RunV.nil_ptr rfl) ?_ | refine SatD.tk 7 rfl hD (fun _ hw => RunV.nil_func rfl) ?_ | refine SatD.tk 7 rfl hD (fun _ hw => RunV.nil_yield rfl) ?_
    first | refine SatD.tk 8 rfl hD (fun _ hw => RunV.fieldAddrL rfl rfl rfl) ?_ | refine SatD.tk 8 rfl hD (fun _ hw => RunV.fieldAddr rfl rfl rfl) ?_
    refine SatD.tk 9 rfl hD (fun _ hw => RunV.load1 hw rfl rfl (by repeat constructor) rfl) ?_
    refine SatD.ef 5 rfl (OpW.enter rfl rfl rfl (rfl) (list_any hsl hl (hS.ownT (A := (b, C 58 (tc most v last)) :: B) (by repeat constructor)) hm) ?_)
    rintro r3 w3 ⟨B2, hsl2, h⟩
    replace hS := hS.call0 h
    refine keepS (hS.sel (by repeat constructor)) (fun hD => ?_)
    refine SatD.tk 10 rfl hD (fun _ hw => RunV.build rfl (build_tab _ hsl2.one _ _)) ?_
    refine SatD.ef 11 rfl (OpW.box hS rfl rfl .agg ?_)
    clear hS
    intro b16 w4 _ hS
    refine keepS (hS.sel (by repeat constructor)) (fun hD => ?_)
    refine SatD.tk 12 rfl hD (fun _ hw => RunV.assign rfl) ?_
    refine SatD.done 0 (by kernel_rfl) (SatE.thenC ?_)
    clear hD
    refine SatC.ret ?_
    refine SatE.ret1 rfl rfl ?_
    exact ⟨_, _, B2, rfl, hsl2, St.roL hown (hS.sel (R := ((b, C 58 (tc most v last)) :: B) ++ ((b16, C 58 (tc most r3 last)) :: B2)) (by repeat constructor)) .here⟩
theorem tnew_any (n : Int) (w : World) : Ret Try.prog 7 #[.int .i64 n] w fun u w' => ∃ b, u = .pointer (some ⟨b, 0, none⟩) ∧ St w [] [(b, C 58 (tc (min (max n 1) 64) (.slice none 0 0) 0))] w' := by
  have hS := St.init0 w
  refine Ret.enter Try.func7 Try.ntmps7 rfl rfl ?_
  simp only [argEnv, Nat.reduceAdd]
  refine SatC.seq ?_
  refine SatC.region ?_
  refine SatL.pu (RunV.assign rfl) rfl ?_
  refine SatL.nil (SatE.thenC ?_)
  refine SatC.seq ?_
  refine SatC.region ?_
  refine SatL.pu (RunV.move rfl) rfl ?_
  refine SatL.pu (RunV.max2 rfl rfl) rfl ?_
  refine SatL.pu (RunV.min2 rfl rfl) rfl ?_
  refine SatL.pu (RunV.build rfl (by simp [go_sem]; try rfl)) rfl ?_
  refine SatL.op rfl (OpW.box hS rfl rfl (by repeat constructor) ?_)
  clear hS
  intro b7 w1 _ hS
  refine SatL.pu (RunV.assign rfl) rfl ?_
  refine SatL.nil (SatE.thenC ?_)
  refine SatC.ret ?_
  refine SatE.ret1 rfl rfl ?_
  exact ⟨_, rfl, hS⟩
end
end Go.Proofs.Ytdoinfpkfbfjaaa
