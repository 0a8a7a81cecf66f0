/- The document's wheel. -/
import Derived.Test.YtabladeenemfoaaWh
import Derived.Test.YtabladeenemfoaaK28
set_option linter.unusedSimpArgs false
set_option linter.unusedVariables false
set_option maxRecDepth 100000
set_option maxHeartbeats 4000000
namespace Go.Proofs.Ytabladeenemfoaa
open Go.RowKit
@[reducible] def pw (p : Int × Nat) : List Value := [.int .i64 p.1, .int .i64 (p.2 : Int)]
def hasP (l : List (Int × Nat)) (i : Int) : Bool := l.any fun p => decide (p.1 = i)
def outP (l : List (Int × Nat)) (i : Int) : List (Int × Nat) := l.filter fun p => decide (¬ p.1 = i)
def insP (x : Int × Nat) : Bool → List (Int × Nat) → List (Int × Nat)
  | true, l => l
  | false, [] => [x]
  | false, y :: l => if x.1 < y.1 then x :: y :: l else y :: insP x false l
theorem outP_step {i : Int} {y : Int × Nat} {l : List (Int × Nat)} {k : Nat} (h : l[k]? = some y) : outP (l.take (k + 1)) i = outP (l.take k) i ++ (if y.1 = i then [] else [y]) := by
  unfold outP
  rw [List.take_add_one, h, List.filter_append]
  simp only [Option.toList_some, List.filter_cons, List.filter_nil, decide_not, Bool.not_eq_true']
  split <;> split <;> simp_all
theorem outP_len (l : List (Int × Nat)) (i : Int) : (outP l i).length ≤ l.length := List.length_filter_le ..
def dueP (l : List (Int × Nat)) (n : Nat) : List (Int × Nat) := l.filter fun p => decide (p.2 = n)
def notP (l : List (Int × Nat)) (n : Nat) : List (Int × Nat) := l.filter fun p => decide (¬ p.2 = n)
theorem dueP_step {n : Nat} {y : Int × Nat} {l : List (Int × Nat)} {k : Nat} (h : l[k]? = some y) : dueP (l.take (k + 1)) n = dueP (l.take k) n ++ (if y.2 = n then [y] else []) := by
  unfold dueP
  rw [List.take_add_one, h, List.filter_append]
  simp only [Option.toList_some, List.filter_cons, List.filter_nil]
  split <;> split <;> simp_all
theorem notP_step {n : Nat} {y : Int × Nat} {l : List (Int × Nat)} {k : Nat} (h : l[k]? = some y) : notP (l.take (k + 1)) n = notP (l.take k) n ++ (if y.2 = n then [] else [y]) := by
  unfold notP
  rw [List.take_add_one, h, List.filter_append]
  simp only [Option.toList_some, List.filter_cons, List.filter_nil, decide_not, Bool.not_eq_true']
  split <;> split <;> simp_all
def leftP (l : List (Int × Nat)) (now : Nat) (i : Int) : Int × Bool := match l.find? fun p => decide (p.1 = i) with
  | some p => ((p.2 : Int) - now, true)
  | none => (0, false)
def lstep (now : Nat) (q : Int × Bool) (p : Int × Nat) : Int × Bool := if q.2 = false ∨ (p.2 : Int) - now < q.1 then ((p.2 : Int) - now, true) else q
def nextP (l : List (Int × Nat)) (now : Nat) : Int × Bool := l.foldl (lstep now) (0, false)
@[reducible] def RO (b now : Nat) (v : Value) (B : List (Nat × Obj)) : List (Nat × Obj) := (b, C 39 [.int .i64 (now : Int), v]) :: B
theorem find_none {l : List (Int × Nat)} {i : Int} {k : Nat} (h : ∀ j x, j < k → l[j]? = some x → ¬ x.1 = i) : (l.take k).find? (fun p => decide (p.1 = i)) = none := by
  rw [List.find?_eq_none]
  intro x hx
  obtain ⟨j, hj, e⟩ := List.mem_iff_getElem.1 hx
  rw [List.length_take] at hj
  rw [List.getElem_take] at e
  simpa using h j x (by omega) (by rw [List.getElem?_eq_getElem (by omega), e])
theorem find_at {l : List (Int × Nat)} {i : Int} {k : Nat} {y : Int × Nat} (h : ∀ j x, j < k → l[j]? = some x → ¬ x.1 = i) (hy : l[k]? = some y) (e : y.1 = i) : l.find? (fun p => decide (p.1 = i)) = some y := by
  have hlt : k < l.length := by
    rcases Nat.lt_or_ge k l.length with h' | h'
    · exact h'
    · rw [List.getElem?_eq_none h'] at hy; cases hy
  rw [← List.take_append_drop k l, List.find?_append, find_none h, List.drop_eq_getElem_cons hlt]
  rw [List.getElem?_eq_getElem hlt] at hy
  cases hy
  rw [Option.none_or, List.find?_cons_of_pos (by simpa using e)]
theorem has_find (l : List (Int × Nat)) (i : Int) : hasP l i = (l.find? fun p => decide (p.1 = i)).isSome := by
  unfold hasP
  induction l with
  | nil => rfl
  | cons y l ih =>
    rw [List.any_cons, List.find?_cons]
    cases hd : decide (y.1 = i)
    · rw [Bool.false_or]; exact ih
    · rfl
section
variable {b now : Nat} {v : Value} {B : List (Nat × Obj)} {l : List (Int × Nat)} {w : World}
theorem rhas_any (i : Int) (hsl : Sl 64 2 v (l.map pw) B) (hl : l.length ≤ 1000) (hown : Own w (RO b now v B)) :
    Ret Try.prog 28 #[.pointer (some ⟨b, 0, none⟩), .int .i64 i] w fun u w' => u = .bool (l.find? fun p => decide (p.1 = i)).isSome ∧ St w [] [] w' := by
  have hS := St.init hown
  obtain ⟨vc, hv⟩ := hsl.slv
  rw [List.length_map] at hv
  generalize hX : (RO b now v B).map Prod.fst = X at hS
  have hro : ∀ {L w'}, St w X (L ++ RO b now v B) w' → St w [] L w' := fun h => St.roL hown (by rw [hX]; exact h.perm List.perm_append_comm) .here
  refine Ret.enter Try.func28 Try.ntmps28 rfl rfl ?_
  simp only [argEnv, Nat.reduceAdd]
  refine SatC.seq ?_
  refine SatC.region ?_
  refine SatL.pu (RunV.assign rfl) rfl ?_
  refine SatL.nil (SatE.thenC ?_)
  refine SatC.seq ?_
  refine SatC.seq ?_
  refine SatC.region ?_
  refine SatL.pu (RunV.assign rfl) rfl ?_
  refine SatL.nil (SatE.thenC ?_)
  refine SatC.block ?_
  refine SatC.loopK (G := Nat) (V := fun k => [(5, .int .i64 (k : Int))]) (Cn := [(0, _), (1, _), (4, _)]) (I := fun k w' => k ≤ l.length ∧ (∀ j x, j < k → l[j]? = some x → ¬ x.1 = i) ∧ St w X (RO b now v B) w') (μ := fun k => l.length - k) 0 ?_ (by repeat constructor) ?_
  · exact ⟨by omega, fun j x hj => by omega, hS⟩
  clear hS
  rintro k w1 ⟨hk, hno, hS⟩
  refine SatC.weak (e' := [(0, _), (1, _), (4, _), (5, _)]) (by repeat constructor) ?_
  refine SatC.seq ?_
  refine SatC.seq ?_
  refine SatC.region ?_
  refine SatL.pu (RunV.move rfl) rfl ?_
  refine SatL.pu (RunV.move rfl) rfl ?_
  first | refine SatL.pu (RunV.nil_ptr rfl) rfl ?_ | refine SatL.pu (RunV.nil_func rfl) rfl ?_ | refine SatL.pu (RunV.nil_yield rfl) rfl ?_
  first | refine SatL.pu (RunV.fieldAddrL rfl rfl rfl) rfl ?_ | refine SatL.pu (RunV.fieldAddr rfl rfl rfl) rfl ?_
  refine SatL.pu (RunV.load1 hS rfl rfl (by repeat constructor) rfl) rfl ?_
  first | refine SatL.pu (RunV.lenR (by assumption) rfl rfl) rfl ?_ | refine SatL.pu (RunV.lenS rfl rfl) rfl ?_
  refine SatL.pu (RunV.lss rfl rfl) rfl ?_
  refine SatL.nil (SatE.thenC ?_)
  refine SatC.cond rfl (fun h1 => ?_) (fun h1 => ?_)
  · (try simp only [cx, ne_eq] at h1)
    try (exfalso; (first | omega | exact h1 trivial | contradiction | (first | omega | (simp at h1; done))); done)
    all_goals
    refine SatC.skip (SatE.thenC ?_)
    refine SatC.seq ?_
    refine SatC.block ?_
    refine SatC.seq ?_
    obtain ⟨y, hy⟩ := get_some l k (by omega)
    refine SatC.region ?_
    refine SatL.pu (RunV.move rfl) rfl ?_
    first | refine SatL.pu (RunV.nil_ptr rfl) rfl ?_ | refine SatL.pu (RunV.nil_func rfl) rfl ?_ | refine SatL.pu (RunV.nil_yield rfl) rfl ?_
    first | refine SatL.pu (RunV.fieldAddrL rfl rfl rfl) rfl ?_ | refine SatL.pu (RunV.fieldAddr rfl rfl rfl) rfl ?_
    refine SatL.pu (RunV.load1 hS rfl rfl (by repeat constructor) rfl) rfl ?_
    refine SatL.pu (RunV.move rfl) rfl ?_
    first | refine SatL.pu (RunV.indexR (by assumption) rfl rfl rfl (by omega) (by omega) rfl) rfl ?_ | refine SatL.pu (RunV.indexS rfl rfl rfl (by omega) (by omega) rfl) rfl ?_
    first | refine SatL.pu (RunV.fieldAddrL rfl rfl rfl) rfl ?_ | refine SatL.pu (RunV.fieldAddr rfl rfl rfl) rfl ?_
    refine SatL.pu (RunV.loadR1g k 0 (Sl.rd hsl hS (by repeat constructor)) rfl rfl (by omega) (map_get hy) rfl) rfl ?_
    refine SatL.pu (RunV.move rfl) rfl ?_
    refine SatL.pu (RunV.eql rfl rfl) rfl ?_
    refine SatL.nil (SatE.thenC ?_)
    refine SatC.weak (e' := [(0, _), (1, _), (4, _), (5, _), (24, _)]) (by repeat constructor) ?_
    refine SatC.cond rfl (fun h2 => ?_) (fun h2 => ?_)
    · (try simp only [cx, ne_eq] at h2)
      try (exfalso; (first | omega | exact h2 trivial | contradiction | (first | omega | (simp at h2; done))); done)
      all_goals
      refine SatC.seq ?_
      refine SatC.region ?_
      refine SatL.pu (RunV.assign rfl) rfl ?_
      refine SatL.nil (SatE.thenC ?_)
      refine SatC.ret (SatE.blk_ret (SatE.then_ret (SatE.then_ret (SatE.blk_ret (SatE.then_ret ?_)))))
      refine SatE.ret1 rfl rfl ?_
      first
      | (rw [find_at hno hy (by assumption)]; exact ⟨rfl, hro (L := []) (hS.sel (by repeat constructor))⟩)
      | (have := find_none hno
         rw [List.take_of_length_le (by omega)] at this
         rw [this]; exact ⟨rfl, hro (L := []) (hS.sel (by repeat constructor))⟩)
    · (try simp only [cx, ne_eq] at h2)
      try (exfalso; (first | omega | exact h2 trivial | contradiction | (first | omega | (simp at h2; done))); done)
      all_goals
      refine SatC.skip (SatE.blk_normal (SatE.thenC ?_))
      refine SatC.region ?_
      refine SatL.pu (RunV.move rfl) rfl ?_
      refine SatL.pu (RunV.add rfl rfl (by first | exact wrapI64 (by omega) | rfl)) rfl ?_
      refine SatL.pu (RunV.assign rfl) rfl ?_
      refine SatL.nil ?_
      refine SatE.again (k + 1) ?_ (by first | omega | (dsimp only; omega)) (by repeat constructor)
      refine ⟨by omega, fun j x hj hx => ?_, hS⟩
      rcases (by omega : j < k ∨ j = k) with hj | rfl
      · exact hno j x hj hx
      · rw [hy] at hx; cases hx; assumption
  · (try simp only [cx, ne_eq] at h1)
    try (exfalso; (first | omega | exact h1 trivial | contradiction | (first | omega | (simp at h1; done))); done)
    all_goals
    refine SatC.exit (SatE.then_exit (SatE.then_exit (SatE.blk_exit (SatE.thenC ?_))))
    refine SatC.seq ?_
    refine SatC.region ?_
    refine SatL.pu (RunV.assign rfl) rfl ?_
    refine SatL.nil (SatE.thenC ?_)
    refine SatC.ret ?_
    refine SatE.ret1 rfl rfl ?_
    first
    | (rw [find_at hno hy (by assumption)]; exact ⟨rfl, hro (L := []) (hS.sel (by repeat constructor))⟩)
    | (have := find_none hno
       rw [List.take_of_length_le (by omega)] at this
       rw [this]; exact ⟨rfl, hro (L := []) (hS.sel (by repeat constructor))⟩)
theorem rleft_any (i : Int) (hsl : Sl 64 2 v (l.map pw) B) (hl : l.length ≤ 1000) (hn : now ≤ 1000000000) (hd : ∀ p ∈ l, p.2 ≤ 2000000000) (hown : Own w (RO b now v B)) :
    Ret Try.prog 29 #[.pointer (some ⟨b, 0, none⟩), .int .i64 i] w fun u w' => u = .tuple #[.int .i64 (leftP l now i).1, .bool (leftP l now i).2] ∧ St w [] [] w' := by
  have hS := St.init hown
  obtain ⟨vc, hv⟩ := hsl.slv
  rw [List.length_map] at hv
  generalize hX : (RO b now v B).map Prod.fst = X at hS
  have hro : ∀ {L w'}, St w X (L ++ RO b now v B) w' → St w [] L w' := fun h => St.roL hown (by rw [hX]; exact h.perm List.perm_append_comm) .here
  unfold leftP
  refine Ret.enter Try.func29 Try.ntmps29 rfl rfl ?_
  simp only [argEnv, Nat.reduceAdd]
  refine SatC.seq ?_
  refine SatC.region ?_
  refine SatL.pu (RunV.assign rfl) rfl ?_
  refine SatL.pu (RunV.assign rfl) rfl ?_
  refine SatL.nil (SatE.thenC ?_)
  refine SatC.seq ?_
  refine SatC.seq ?_
  refine SatC.region ?_
  refine SatL.pu (RunV.assign rfl) rfl ?_
  refine SatL.nil (SatE.thenC ?_)
  refine SatC.block ?_
  refine SatC.loopK (G := Nat) (V := fun k => [(6, .int .i64 (k : Int))]) (Cn := [(0, _), (1, _), (4, _), (5, _)]) (I := fun k w' => k ≤ l.length ∧ (∀ j x, j < k → l[j]? = some x → ¬ x.1 = i) ∧ St w X (RO b now v B) w') (μ := fun k => l.length - k) 0 ?_ (by repeat constructor) ?_
  · exact ⟨by omega, fun j x hj => by omega, hS⟩
  clear hS
  rintro k w1 ⟨hk, hno, hS⟩
  refine SatC.weak (e' := [(0, _), (1, _), (4, _), (5, _), (6, _)]) (by repeat constructor) ?_
  refine SatC.seq ?_
  refine SatC.seq ?_
  refine SatC.region ?_
  refine SatL.pu (RunV.move rfl) rfl ?_
  refine SatL.pu (RunV.move rfl) rfl ?_
  first | refine SatL.pu (RunV.nil_ptr rfl) rfl ?_ | refine SatL.pu (RunV.nil_func rfl) rfl ?_ | refine SatL.pu (RunV.nil_yield rfl) rfl ?_
  first | refine SatL.pu (RunV.fieldAddrL rfl rfl rfl) rfl ?_ | refine SatL.pu (RunV.fieldAddr rfl rfl rfl) rfl ?_
  refine SatL.pu (RunV.load1 hS rfl rfl (by repeat constructor) rfl) rfl ?_
  first | refine SatL.pu (RunV.lenR (by assumption) rfl rfl) rfl ?_ | refine SatL.pu (RunV.lenS rfl rfl) rfl ?_
  refine SatL.pu (RunV.lss rfl rfl) rfl ?_
  refine SatL.nil (SatE.thenC ?_)
  refine SatC.cond rfl (fun h1 => ?_) (fun h1 => ?_)
  · (try simp only [cx, ne_eq] at h1)
    try (exfalso; (first | omega | exact h1 trivial | contradiction | (first | omega | (simp at h1; done))); done)
    all_goals
    refine SatC.skip (SatE.thenC ?_)
    refine SatC.seq ?_
    refine SatC.block ?_
    refine SatC.seq ?_
    obtain ⟨y, hy⟩ := get_some l k (by omega)
    have hyd := hd y (List.mem_of_getElem? hy)
    refine SatC.region ?_
    refine SatL.pu (RunV.move rfl) rfl ?_
    first | refine SatL.pu (RunV.nil_ptr rfl) rfl ?_ | refine SatL.pu (RunV.nil_func rfl) rfl ?_ | refine SatL.pu (RunV.nil_yield rfl) rfl ?_
    first | refine SatL.pu (RunV.fieldAddrL rfl rfl rfl) rfl ?_ | refine SatL.pu (RunV.fieldAddr rfl rfl rfl) rfl ?_
    refine SatL.pu (RunV.load1 hS rfl rfl (by repeat constructor) rfl) rfl ?_
    refine SatL.pu (RunV.move rfl) rfl ?_
    first | refine SatL.pu (RunV.indexR (by assumption) rfl rfl rfl (by omega) (by omega) rfl) rfl ?_ | refine SatL.pu (RunV.indexS rfl rfl rfl (by omega) (by omega) rfl) rfl ?_
    first | refine SatL.pu (RunV.fieldAddrL rfl rfl rfl) rfl ?_ | refine SatL.pu (RunV.fieldAddr rfl rfl rfl) rfl ?_
    refine SatL.pu (RunV.loadR1g k 0 (Sl.rd hsl hS (by repeat constructor)) rfl rfl (by omega) (map_get hy) rfl) rfl ?_
    refine SatL.pu (RunV.move rfl) rfl ?_
    refine SatL.pu (RunV.eql rfl rfl) rfl ?_
    refine SatL.nil (SatE.thenC ?_)
    refine SatC.weak (e' := [(0, _), (1, _), (4, _), (5, _), (6, _), (25, _)]) (by repeat constructor) ?_
    refine SatC.cond rfl (fun h2 => ?_) (fun h2 => ?_)
    · (try simp only [cx, ne_eq] at h2)
      try (exfalso; (first | omega | exact h2 trivial | contradiction | (first | omega | (simp at h2; done))); done)
      all_goals
      refine SatC.seq ?_
      refine SatC.drawnT 15 hS (hS.sel (R := RO b now v B) (by repeat constructor)) (by kernel_rfl) ?_
      clear hS
      intro w2 hh hS hD
      refine SatD.tk 0 rfl hD (fun _ hw => RunV.move rfl) ?_
      first | refine SatD.tk 1 rfl hD (fun _ hw => RunV.nil_ptr rfl) ?_ | refine SatD.tk 1 rfl hD (fun _ hw => RunV.nil_func rfl) ?_ | refine SatD.tk 1 rfl hD (fun _ hw => RunV.nil_yield rfl) ?_
      first | refine SatD.tk 2 rfl hD (fun _ hw => RunV.fieldAddrL rfl rfl rfl) ?_ | refine SatD.tk 2 rfl hD (fun _ hw => RunV.fieldAddr rfl rfl rfl) ?_
      refine SatD.tk 3 rfl hD (fun _ hw => RunV.load1 hw rfl rfl (by repeat constructor) rfl) ?_
      refine SatD.tk 4 rfl hD (fun _ hw => RunV.move rfl) ?_
      first | refine SatD.tk 5 rfl hD (fun _ hw => RunV.indexR (by assumption) rfl rfl rfl (by omega) (by omega) rfl) ?_ | refine SatD.tk 5 rfl hD (fun _ hw => RunV.indexS rfl rfl rfl (by omega) (by omega) rfl) ?_
      first | refine SatD.tk 6 rfl hD (fun _ hw => RunV.fieldAddrL rfl rfl rfl) ?_ | refine SatD.tk 6 rfl hD (fun _ hw => RunV.fieldAddr rfl rfl rfl) ?_
      refine SatD.tk 7 rfl hD (fun _ hw => RunV.loadR1g k 1 (Sl.rd hsl hw (by repeat constructor)) rfl rfl (by omega) (map_get hy) rfl) ?_
      refine SatD.tk 8 rfl hD (fun _ hw => RunV.move rfl) ?_
      first | refine SatD.tk 9 rfl hD (fun _ hw => RunV.nil_ptr rfl) ?_ | refine SatD.tk 9 rfl hD (fun _ hw => RunV.nil_func rfl) ?_ | refine SatD.tk 9 rfl hD (fun _ hw => RunV.nil_yield rfl) ?_
      first | refine SatD.tk 10 rfl hD (fun _ hw => RunV.fieldAddrL rfl rfl rfl) ?_ | refine SatD.tk 10 rfl hD (fun _ hw => RunV.fieldAddr rfl rfl rfl) ?_
      refine SatD.tk 11 rfl hD (fun _ hw => RunV.load1 hw rfl rfl (by repeat constructor) rfl) ?_
      refine SatD.tk 12 rfl hD (fun _ hw => RunV.sub rfl rfl (by first | exact wrapI64 (by omega) | rfl)) ?_
      refine SatD.tk 13 rfl hD (fun _ hw => RunV.assign rfl) ?_
      refine SatD.tk 14 rfl hD (fun _ hw => RunV.assign rfl) ?_
      refine SatD.done 0 (by kernel_rfl) (SatE.thenC ?_)
      clear hD
      refine SatC.ret (SatE.blk_ret (SatE.then_ret (SatE.then_ret (SatE.blk_ret (SatE.then_ret ?_)))))
      refine SatE.ret2 rfl rfl rfl ?_
      first
      | (rw [find_at hno hy (by assumption)]; exact ⟨rfl, hro (L := []) (hS.sel (by repeat constructor))⟩)
      | (have := find_none hno
         rw [List.take_of_length_le (by omega)] at this
         rw [this]; exact ⟨rfl, hro (L := []) (hS.sel (by repeat constructor))⟩)
    · (try simp only [cx, ne_eq] at h2)
      try (exfalso; (first | omega | exact h2 trivial | contradiction | (first | omega | (simp at h2; done))); done)
      all_goals
      refine SatC.skip (SatE.blk_normal (SatE.thenC ?_))
      refine SatC.region ?_
      refine SatL.pu (RunV.move rfl) rfl ?_
      refine SatL.pu (RunV.add rfl rfl (by first | exact wrapI64 (by omega) | rfl)) rfl ?_
      refine SatL.pu (RunV.assign rfl) rfl ?_
      refine SatL.nil ?_
      refine SatE.again (k + 1) ?_ (by first | omega | (dsimp only; omega)) (by repeat constructor)
      refine ⟨by omega, fun j x hj hx => ?_, hS⟩
      rcases (by omega : j < k ∨ j = k) with hj | rfl
      · exact hno j x hj hx
      · rw [hy] at hx; cases hx; assumption
  · (try simp only [cx, ne_eq] at h1)
    try (exfalso; (first | omega | exact h1 trivial | contradiction | (first | omega | (simp at h1; done))); done)
    all_goals
    refine SatC.exit (SatE.then_exit (SatE.then_exit (SatE.blk_exit (SatE.thenC ?_))))
    refine SatC.seq ?_
    refine SatC.region ?_
    refine SatL.pu (RunV.assign rfl) rfl ?_
    refine SatL.pu (RunV.assign rfl) rfl ?_
    refine SatL.nil (SatE.thenC ?_)
    refine SatC.ret ?_
    refine SatE.ret2 rfl rfl rfl ?_
    first
    | (rw [find_at hno hy (by assumption)]; exact ⟨rfl, hro (L := []) (hS.sel (by repeat constructor))⟩)
    | (have := find_none hno
       rw [List.take_of_length_le (by omega)] at this
       rw [this]; exact ⟨rfl, hro (L := []) (hS.sel (by repeat constructor))⟩)
theorem lstep_y {now : Nat} {e : Int} {a : Bool} {p : Int × Nat} (h : a = false ∨ (p.2 : Int) - now < e) : lstep now (e, a) p = ((p.2 : Int) - now, true) := if_pos h
theorem lstep_n {now : Nat} {e : Int} {a : Bool} {p : Int × Nat} (h : ¬ (a = false ∨ (p.2 : Int) - now < e)) : lstep now (e, a) p = (e, a) := if_neg h
theorem rnext_any (hsl : Sl 64 2 v (l.map pw) B) (hl : l.length ≤ 1000) (hn : now ≤ 1000000000) (hd : ∀ p ∈ l, p.2 ≤ 2000000000) (hown : Own w (RO b now v B)) :
    Ret Try.prog 30 #[.pointer (some ⟨b, 0, none⟩)] w fun u w' => u = .tuple #[.int .i64 (nextP l now).1, .bool (nextP l now).2] ∧ St w [] [] w' := by
  have hS := St.init hown
  obtain ⟨vc, hv⟩ := hsl.slv
  rw [List.length_map] at hv
  generalize hX : (RO b now v B).map Prod.fst = X at hS
  have hro : ∀ {L w'}, St w X (L ++ RO b now v B) w' → St w [] L w' := fun h => St.roL hown (by rw [hX]; exact h.perm List.perm_append_comm) .here
  unfold nextP
  generalize hR : l.foldl (lstep now) (0, false) = R
  refine Ret.enter Try.func30 Try.ntmps30 rfl rfl ?_
  simp only [argEnv, Nat.reduceAdd]
  refine SatC.seq ?_
  refine SatC.region ?_
  refine SatL.pu (RunV.assign rfl) rfl ?_
  refine SatL.pu (RunV.assign rfl) rfl ?_
  refine SatL.nil (SatE.thenC ?_)
  refine SatC.seq ?_
  refine SatC.region ?_
  refine SatL.pu (RunV.assign rfl) rfl ?_
  refine SatL.pu (RunV.assign rfl) rfl ?_
  refine SatL.nil (SatE.thenC ?_)
  refine SatC.seq ?_
  refine SatC.seq ?_
  refine SatC.region ?_
  refine SatL.pu (RunV.assign rfl) rfl ?_
  refine SatL.nil (SatE.thenC ?_)
  refine SatC.block ?_
  refine SatC.loopK (G := Nat × Int × Bool) (V := fun ⟨k, e, a⟩ => [(6, .int .i64 (k : Int)), (4, .int .i64 e), (5, .bool a)]) (Cn := [(0, _), (2, _), (3, _)]) (I := fun ⟨k, e, a⟩ w' => k ≤ l.length ∧ (l.drop k).foldl (lstep now) (e, a) = R ∧ St w X (RO b now v B) w') (μ := fun ⟨k, e, a⟩ => l.length - k) (0, 0, false) ?_ (by repeat constructor) ?_
  · exact ⟨by omega, hR, hS⟩
  clear hS
  rintro ⟨k, e, a⟩ w1 ⟨hk, hf, hS⟩
  refine SatC.weak (e' := [(0, _), (2, _), (3, _), (4, _), (5, _), (6, _)]) (by repeat constructor) ?_
  refine SatC.seq ?_
  refine SatC.seq ?_
  refine SatC.region ?_
  refine SatL.pu (RunV.move rfl) rfl ?_
  refine SatL.pu (RunV.move rfl) rfl ?_
  first | refine SatL.pu (RunV.nil_ptr rfl) rfl ?_ | refine SatL.pu (RunV.nil_func rfl) rfl ?_ | refine SatL.pu (RunV.nil_yield rfl) rfl ?_
  first | refine SatL.pu (RunV.fieldAddrL rfl rfl rfl) rfl ?_ | refine SatL.pu (RunV.fieldAddr rfl rfl rfl) rfl ?_
  refine SatL.pu (RunV.load1 hS rfl rfl (by repeat constructor) rfl) rfl ?_
  first | refine SatL.pu (RunV.lenR (by assumption) rfl rfl) rfl ?_ | refine SatL.pu (RunV.lenS rfl rfl) rfl ?_
  refine SatL.pu (RunV.lss rfl rfl) rfl ?_
  refine SatL.nil (SatE.thenC ?_)
  refine SatC.cond rfl (fun h1 => ?_) (fun h1 => ?_)
  · (try simp only [cx, ne_eq] at h1)
    try (exfalso; (first | omega | exact h1 trivial | contradiction | (first | omega | (simp at h1; done))); done)
    all_goals
    refine SatC.skip (SatE.thenC ?_)
    refine SatC.seq ?_
    refine SatC.block ?_
    refine SatC.seq ?_
    obtain ⟨y, hy⟩ := get_some l k (by omega)
    have hyd := hd y (List.mem_of_getElem? hy)
    rw [List.drop_eq_getElem_cons (by omega : k < l.length), List.foldl_cons, show l[k] = y from by rw [List.getElem?_eq_getElem (by omega)] at hy; exact Option.some.inj hy] at hf
    refine SatC.drawnT 14 hS (hS.sel (R := RO b now v B) (by repeat constructor)) (by kernel_rfl) ?_
    clear hS
    intro w2 hh hS hD
    refine SatD.tk 0 rfl hD (fun _ hw => RunV.move rfl) ?_
    first | refine SatD.tk 1 rfl hD (fun _ hw => RunV.nil_ptr rfl) ?_ | refine SatD.tk 1 rfl hD (fun _ hw => RunV.nil_func rfl) ?_ | refine SatD.tk 1 rfl hD (fun _ hw => RunV.nil_yield rfl) ?_
    first | refine SatD.tk 2 rfl hD (fun _ hw => RunV.fieldAddrL rfl rfl rfl) ?_ | refine SatD.tk 2 rfl hD (fun _ hw => RunV.fieldAddr rfl rfl rfl) ?_
    refine SatD.tk 3 rfl hD (fun _ hw => RunV.load1 hw rfl rfl (by repeat constructor) rfl) ?_
    refine SatD.tk 4 rfl hD (fun _ hw => RunV.move rfl) ?_
    first | refine SatD.tk 5 rfl hD (fun _ hw => RunV.indexR (by assumption) rfl rfl rfl (by omega) (by omega) rfl) ?_ | refine SatD.tk 5 rfl hD (fun _ hw => RunV.indexS rfl rfl rfl (by omega) (by omega) rfl) ?_
    first | refine SatD.tk 6 rfl hD (fun _ hw => RunV.fieldAddrL rfl rfl rfl) ?_ | refine SatD.tk 6 rfl hD (fun _ hw => RunV.fieldAddr rfl rfl rfl) ?_
    refine SatD.tk 7 rfl hD (fun _ hw => RunV.loadR1g k 1 (Sl.rd hsl hw (by repeat constructor)) rfl rfl (by omega) (map_get hy) rfl) ?_
    refine SatD.tk 8 rfl hD (fun _ hw => RunV.move rfl) ?_
    first | refine SatD.tk 9 rfl hD (fun _ hw => RunV.nil_ptr rfl) ?_ | refine SatD.tk 9 rfl hD (fun _ hw => RunV.nil_func rfl) ?_ | refine SatD.tk 9 rfl hD (fun _ hw => RunV.nil_yield rfl) ?_
    first | refine SatD.tk 10 rfl hD (fun _ hw => RunV.fieldAddrL rfl rfl rfl) ?_ | refine SatD.tk 10 rfl hD (fun _ hw => RunV.fieldAddr rfl rfl rfl) ?_
    refine SatD.tk 11 rfl hD (fun _ hw => RunV.load1 hw rfl rfl (by repeat constructor) rfl) ?_
    refine SatD.tk 12 rfl hD (fun _ hw => RunV.sub rfl rfl (by first | exact wrapI64 (by omega) | rfl)) ?_
    refine SatD.tk 13 rfl hD (fun _ hw => RunV.assign rfl) ?_
    refine SatD.done 0 (by kernel_rfl) (SatE.thenC ?_)
    clear hD
    refine SatC.seq ?_
    refine SatC.weak (e' := [(0, _), (2, _), (3, _), (4, _), (5, _), (6, _), (7, _)]) (by repeat constructor) ?_
    refine SatC.region ?_
    refine SatL.pu (RunV.move rfl) rfl ?_
    refine SatL.pu (RunV.not rfl) rfl ?_
    refine SatL.pu (RunV.move rfl) rfl ?_
    refine SatL.guard rfl rfl rfl (fun h2 => ?_) (fun h2 => ?_)
    · (try simp only [cx, ne_eq] at h2)
      try (exfalso; (first | omega | exact h2 trivial | contradiction | (first | omega | (simp at h2; done))); done)
      all_goals
      refine SatL.pu (RunV.move rfl) rfl ?_
      refine SatL.guard_y rfl rfl ?_
      refine SatL.pu (RunV.move rfl) rfl ?_
      refine SatL.guard_y rfl rfl ?_
      refine SatL.pu (RunV.lss rfl rfl) rfl ?_
      refine SatL.pu (RunV.pick_f rfl rfl) rfl ?_
      refine SatL.nil (SatE.thenC ?_)
      refine SatC.cond rfl (fun h3 => ?_) (fun h3 => ?_)
      · (try simp only [cx, ne_eq] at h3)
        try (exfalso; (first | omega | exact h3 trivial | contradiction | (first | omega | (simp at h3; done))); done)
        all_goals
        refine SatC.seq ?_
        refine SatC.region ?_
        refine SatL.pu (RunV.move rfl) rfl ?_
        refine SatL.pu (RunV.assign rfl) rfl ?_
        refine SatL.nil (SatE.thenC ?_)
        refine SatC.region ?_
        refine SatL.pu (RunV.assign rfl) rfl ?_
        refine SatL.nil (SatE.blk_normal (SatE.thenC ?_))
        refine SatC.region ?_
        refine SatL.pu (RunV.move rfl) rfl ?_
        refine SatL.pu (RunV.add rfl rfl (by first | exact wrapI64 (by omega) | rfl)) rfl ?_
        refine SatL.pu (RunV.assign rfl) rfl ?_
        refine SatL.nil ?_
        by_cases hq : a = false ∨ (y.2 : Int) - now < e
        · rw [lstep_y hq] at hf
          first
          | (exfalso; clear hf hS hsl hR; simp_all; done)
          | (exfalso; clear hf hS hsl hR; simp_all; omega)
          | exact SatE.again (k + 1, (y.2 : Int) - now, true) ⟨by omega, hf, hS⟩ (by dsimp only; omega) (by repeat constructor)
        · rw [lstep_n hq] at hf
          first
          | (exfalso; clear hf hS hsl hR; simp_all; done)
          | (exfalso; clear hf hS hsl hR; simp_all; omega)
          | exact SatE.again (k + 1, e, a) ⟨by omega, hf, hS⟩ (by dsimp only; omega) (by repeat constructor)
      · (try simp only [cx, ne_eq] at h3)
        try (exfalso; (first | omega | exact h3 trivial | contradiction | (first | omega | (simp at h3; done))); done)
        all_goals
        refine SatC.skip (SatE.blk_normal (SatE.thenC ?_))
        refine SatC.region ?_
        refine SatL.pu (RunV.move rfl) rfl ?_
        refine SatL.pu (RunV.add rfl rfl (by first | exact wrapI64 (by omega) | rfl)) rfl ?_
        refine SatL.pu (RunV.assign rfl) rfl ?_
        refine SatL.nil ?_
        by_cases hq : a = false ∨ (y.2 : Int) - now < e
        · rw [lstep_y hq] at hf
          first
          | (exfalso; clear hf hS hsl hR; simp_all; done)
          | (exfalso; clear hf hS hsl hR; simp_all; omega)
          | exact SatE.again (k + 1, (y.2 : Int) - now, true) ⟨by omega, hf, hS⟩ (by dsimp only; omega) (by repeat constructor)
        · rw [lstep_n hq] at hf
          first
          | (exfalso; clear hf hS hsl hR; simp_all; done)
          | (exfalso; clear hf hS hsl hR; simp_all; omega)
          | exact SatE.again (k + 1, e, a) ⟨by omega, hf, hS⟩ (by dsimp only; omega) (by repeat constructor)
    · (try simp only [cx, ne_eq] at h2)
      try (exfalso; (first | omega | exact h2 trivial | contradiction | (first | omega | (simp at h2; done))); done)
      all_goals
      refine SatL.guard_n rfl rfl rfl rfl ?_
      refine SatL.guard_n rfl rfl rfl rfl ?_
      refine SatL.pu (RunV.pick_t rfl rfl) rfl ?_
      refine SatL.nil (SatE.thenC ?_)
      refine SatC.cond_t rfl ?_
      refine SatC.seq ?_
      refine SatC.region ?_
      refine SatL.pu (RunV.move rfl) rfl ?_
      refine SatL.pu (RunV.assign rfl) rfl ?_
      refine SatL.nil (SatE.thenC ?_)
      refine SatC.region ?_
      refine SatL.pu (RunV.assign rfl) rfl ?_
      refine SatL.nil (SatE.blk_normal (SatE.thenC ?_))
      refine SatC.region ?_
      refine SatL.pu (RunV.move rfl) rfl ?_
      refine SatL.pu (RunV.add rfl rfl (by first | exact wrapI64 (by omega) | rfl)) rfl ?_
      refine SatL.pu (RunV.assign rfl) rfl ?_
      refine SatL.nil ?_
      by_cases hq : a = false ∨ (y.2 : Int) - now < e
      · rw [lstep_y hq] at hf
        first
        | (exfalso; clear hf hS hsl hR; simp_all; done)
        | (exfalso; clear hf hS hsl hR; simp_all; omega)
        | exact SatE.again (k + 1, (y.2 : Int) - now, true) ⟨by omega, hf, hS⟩ (by dsimp only; omega) (by repeat constructor)
      · rw [lstep_n hq] at hf
        first
        | (exfalso; clear hf hS hsl hR; simp_all; done)
        | (exfalso; clear hf hS hsl hR; simp_all; omega)
        | exact SatE.again (k + 1, e, a) ⟨by omega, hf, hS⟩ (by dsimp only; omega) (by repeat constructor)
  · (try simp only [cx, ne_eq] at h1)
    try (exfalso; (first | omega | exact h1 trivial | contradiction | (first | omega | (simp at h1; done))); done)
    all_goals
    refine SatC.exit (SatE.then_exit (SatE.then_exit (SatE.blk_exit (SatE.thenC ?_))))
    refine SatC.seq ?_
    refine SatC.region ?_
    refine SatL.pu (RunV.move rfl) rfl ?_
    refine SatL.pu (RunV.move rfl) rfl ?_
    refine SatL.pu (RunV.assign rfl) rfl ?_
    refine SatL.pu (RunV.assign rfl) rfl ?_
    refine SatL.nil (SatE.thenC ?_)
    refine SatC.ret ?_
    refine SatE.ret2 rfl rfl rfl ?_
    rw [List.drop_of_length_le (by omega)] at hf
    exact ⟨by rw [← hf]; rfl, hro (L := []) (hS.sel (by repeat constructor))⟩
end
end Go.Proofs.Ytabladeenemfoaa
