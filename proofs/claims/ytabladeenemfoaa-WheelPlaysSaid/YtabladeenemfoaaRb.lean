/- The document's wheel: Stop, Tick, Set. -/
import Derived.Test.YtabladeenemfoaaRa
set_option linter.unusedSimpArgs false
set_option linter.unusedVariables false
set_option maxRecDepth 100000
set_option maxHeartbeats 4000000
namespace Go.Proofs.Ytabladeenemfoaa
open Go.RowKit
theorem insP_gt {x y : Int × Nat} {ys : List (Int × Nat)} (h : x.1 < y.1) : insP x false (y :: ys) = x :: y :: insP x true ys := by
  show (if x.1 < y.1 then _ else _) = _
  rw [if_pos h]; cases ys <;> rfl
theorem insP_lt {x y : Int × Nat} {ys : List (Int × Nat)} {laid : Bool} (h : laid = true ∨ ¬ x.1 < y.1) : insP x laid (y :: ys) = y :: insP x laid ys := by
  cases laid
  · show (if x.1 < y.1 then _ else _) = _
    rw [if_neg (h.resolve_left (by decide))]
  · cases ys <;> rfl
def rokP (l : List (Int × Nat)) (i n : Int) : Prop := 1 ≤ n ∧ n ≤ 262144 ∧ ((l.find? fun p => decide (p.1 = i)).isSome = true ∨ l.length < 64)
instance (l : List (Int × Nat)) (i n : Int) : Decidable (rokP l i n) := by unfold rokP; exact inferInstance
def rsetP (l : List (Int × Nat)) (now : Nat) (i n : Int) : List (Int × Nat) := if rokP l i n then insP (i, now + n.toNat) false (outP l i) else l
section
variable {b now : Nat} {v : Value} {B : List (Nat × Obj)} {l : List (Int × Nat)} {w : World}
theorem rstop_any (i : Int) (hsl : Sl 64 2 v (l.map pw) B) (hl : l.length ≤ 1000) (hown : Own w (RO b now v B)) :
    Ret Try.prog 14 #[.pointer (some ⟨b, 0, none⟩), .int .i64 i] w fun u w' => u = .bool (l.find? fun p => decide (p.1 = i)).isSome ∧ ∃ v' B', Sl 64 2 v' ((outP l i).map pw) B' ∧ St w ((RO b now v B).map Prod.fst) (RO b now v' B') w' := by
  have hS := St.init hown
  obtain ⟨vc, hv⟩ := hsl.slv
  rw [List.length_map] at hv
  generalize hX : (RO b now v B).map Prod.fst = X at hS ⊢
  refine Ret.enter Try.func14 Try.ntmps14 rfl rfl ?_
  simp only [argEnv, Nat.reduceAdd]
  refine SatC.seq ?_
  refine SatC.region ?_
  refine SatL.pu (RunV.assign rfl) rfl ?_
  refine SatL.nil (SatE.thenC ?_)
  refine SatC.seq ?_
  refine SatC.region ?_
  refine SatL.pu (RunV.move rfl) rfl ?_
  refine SatL.pu (RunV.move rfl) rfl ?_
  refine SatL.op rfl (OpW.enter rfl rfl rfl (rfl) (rhas_any i hsl hl (hS.ownT (A := RO b now v B) (by repeat constructor))) ?_)
  rintro r1 w1 ⟨rfl, h⟩
  replace hS := St.callN hS h
  refine SatL.pu (RunV.assign rfl) rfl ?_
  refine SatL.nil (SatE.thenC ?_)
  refine SatC.seq ?_
  refine SatC.region ?_
  refine SatL.pu (RunV.assign rfl) rfl ?_
  refine SatL.nil (SatE.thenC ?_)
  refine SatC.seq ?_
  refine SatC.seq ?_
  refine SatC.region ?_
  refine SatL.pu (RunV.assign rfl) rfl ?_
  refine SatL.nil (SatE.thenC ?_)
  refine SatC.block ?_
  refine SatC.loopK (G := Nat × Value × List (Nat × Obj)) (V := fun ⟨k, va, Ba⟩ => [(7, .int .i64 (k : Int)), (6, va)]) (Cn := [(0, _), (1, _), (4, _), (5, _)]) (I := fun ⟨k, va, Ba⟩ w' => k ≤ l.length ∧ Sl 64 2 va ((outP (l.take k) i).map pw) Ba ∧ St w X (Ba ++ RO b now v B) w') (μ := fun ⟨k, va, Ba⟩ => l.length - k) (0, .slice none 0 0, []) ?_ (by repeat constructor) ?_
  · exact ⟨by omega, .nil, hS⟩
  clear hS
  rintro ⟨k, va, Ba⟩ w2 ⟨hk, hsa, hS⟩
  refine SatC.weak (e' := [(0, _), (1, _), (4, _), (5, _), (6, _), (7, _)]) (by repeat constructor) ?_
  refine SatC.seq ?_
  refine SatC.seq ?_
  refine SatC.region ?_
  refine SatL.pu (RunV.move rfl) rfl ?_
  refine SatL.pu (RunV.move rfl) rfl ?_
  first | refine SatL.pu (RunV.nil_ptr rfl) rfl ?_ | refine SatL.pu (RunV.nil_func rfl) rfl ?_ | refine SatL.pu (RunV.nil_yield rfl) rfl ?_
  first | refine SatL.pu (RunV.fieldAddrL rfl rfl rfl) rfl ?_ | refine SatL.pu (RunV.fieldAddr rfl rfl rfl) rfl ?_
  refine SatL.pu (RunV.load1 hS rfl rfl (by repeat constructor) rfl) rfl ?_
  first | refine SatL.pu (RunV.lenR (by assumption) rfl rfl) rfl ?_ | refine SatL.pu (RunV.lenS rfl rfl) rfl ?_
  refine SatL.pu (RunV.lss rfl rfl) rfl ?_
  refine SatL.nil (SatE.thenC ?_)
  refine SatC.cond rfl (fun h1 => ?_) (fun h1 => ?_)
  · (try simp only [cx, ne_eq] at h1)
    try (exfalso; (first | omega | exact h1 trivial | contradiction | (first | omega | (simp at h1; done))); done)
    all_goals
    refine SatC.skip (SatE.thenC ?_)
    refine SatC.seq ?_
    refine SatC.block ?_
    refine SatC.seq ?_
    obtain ⟨y, hy⟩ := get_some l k (by omega)
    have hol := outP_len (l.take k) i
    rw [List.length_take] at hol
    refine SatC.region ?_
    refine SatL.pu (RunV.move rfl) rfl ?_
    first | refine SatL.pu (RunV.nil_ptr rfl) rfl ?_ | refine SatL.pu (RunV.nil_func rfl) rfl ?_ | refine SatL.pu (RunV.nil_yield rfl) rfl ?_
    first | refine SatL.pu (RunV.fieldAddrL rfl rfl rfl) rfl ?_ | refine SatL.pu (RunV.fieldAddr rfl rfl rfl) rfl ?_
    refine SatL.pu (RunV.load1 hS rfl rfl (by repeat constructor) rfl) rfl ?_
    refine SatL.pu (RunV.move rfl) rfl ?_
    first | refine SatL.pu (RunV.indexR (by assumption) rfl rfl rfl (by omega) (by omega) rfl) rfl ?_ | refine SatL.pu (RunV.indexS rfl rfl rfl (by omega) (by omega) rfl) rfl ?_
    first | refine SatL.pu (RunV.fieldAddrL rfl rfl rfl) rfl ?_ | refine SatL.pu (RunV.fieldAddr rfl rfl rfl) rfl ?_
    refine SatL.pu (RunV.loadR1g k 0 (Sl.rd hsl hS (by repeat constructor)) rfl rfl (by omega) (map_get hy) rfl) rfl ?_
    refine SatL.pu (RunV.move rfl) rfl ?_
    refine SatL.pu (RunV.neq rfl rfl) rfl ?_
    refine SatL.nil (SatE.thenC ?_)
    refine SatC.weak (e' := [(0, _), (1, _), (4, _), (5, _), (6, _), (7, _), (29, _)]) (by repeat constructor) ?_
    refine SatC.cond rfl (fun h2 => ?_) (fun h2 => ?_)
    · (try simp only [cx, ne_eq] at h2)
      try (exfalso; (first | omega | exact h2 trivial | contradiction | (first | omega | (simp at h2; done))); done)
      all_goals
      refine SatC.region ?_
      refine SatL.pu (RunV.move rfl) rfl ?_
      refine SatL.pu (RunV.move rfl) rfl ?_
      first | refine SatL.pu (RunV.nil_ptr rfl) rfl ?_ | refine SatL.pu (RunV.nil_func rfl) rfl ?_ | refine SatL.pu (RunV.nil_yield rfl) rfl ?_
      first | refine SatL.pu (RunV.fieldAddrL rfl rfl rfl) rfl ?_ | refine SatL.pu (RunV.fieldAddr rfl rfl rfl) rfl ?_
      refine SatL.pu (RunV.load1 hS rfl rfl (by repeat constructor) rfl) rfl ?_
      refine SatL.pu (RunV.move rfl) rfl ?_
      first | refine SatL.pu (RunV.indexR (by assumption) rfl rfl rfl (by omega) (by omega) rfl) rfl ?_ | refine SatL.pu (RunV.indexS rfl rfl rfl (by omega) (by omega) rfl) rfl ?_
      refine SatL.pu (RunV.loadRNz (Sl.rd hsl hS (by repeat constructor)) rfl rfl (map_get hy)) rfl ?_
      refine SatL.op rfl (OpW.buildSlice1 hS rfl rfl rfl rfl rfl (by repeat constructor) rfl rfl rfl ?_)
      clear hS
      intro b38 w3 _ hS
      refine SatL.op rfl (OpW.append1 hsa hS (by repeat constructor) rfl rfl (by repeat constructor) rfl rfl rfl rfl rfl rfl rfl rfl (by rw [List.length_map]; omega) rfl ?_)
      clear hS
      intro v39 B39 w4 hsl39 hS
      refine SatL.pu (RunV.assign rfl) rfl ?_
      refine SatL.nil (SatE.blk_normal (SatE.thenC ?_))
      refine SatC.region ?_
      refine SatL.pu (RunV.move rfl) rfl ?_
      refine SatL.pu (RunV.add rfl rfl (by first | exact wrapI64 (by omega) | rfl)) rfl ?_
      refine SatL.pu (RunV.assign rfl) rfl ?_
      refine SatL.nil ?_
      refine SatE.again ((k + 1, v39, B39)) ?_ (by first | omega | (dsimp only; omega)) (by repeat constructor)
      refine ⟨by omega, ?_, hS.sel (by repeat constructor)⟩
      rw [outP_step hy, if_neg (by assumption), List.map_append]
      exact hsl39
    · (try simp only [cx, ne_eq] at h2)
      try (exfalso; (first | omega | exact h2 trivial | contradiction | (first | omega | (simp at h2; done))); done)
      all_goals
      refine SatC.skip (SatE.blk_normal (SatE.thenC ?_))
      refine SatC.region ?_
      refine SatL.pu (RunV.move rfl) rfl ?_
      refine SatL.pu (RunV.add rfl rfl (by first | exact wrapI64 (by omega) | rfl)) rfl ?_
      refine SatL.pu (RunV.assign rfl) rfl ?_
      refine SatL.nil ?_
      refine SatE.again ((k + 1, va, Ba)) ?_ (by first | omega | (dsimp only; omega)) (by repeat constructor)
      refine ⟨by omega, ?_, hS.sel (by repeat constructor)⟩
      rw [outP_step hy, if_pos (by omega), List.append_nil]
      exact hsa
  · (try simp only [cx, ne_eq] at h1)
    try (exfalso; (first | omega | exact h1 trivial | contradiction | (first | omega | (simp at h1; done))); done)
    all_goals
    refine SatC.exit (SatE.then_exit (SatE.then_exit (SatE.blk_exit (SatE.thenC ?_))))
    refine SatC.seq ?_
    rw [List.take_of_length_le (by omega)] at hsa
    refine SatC.region ?_
    refine SatL.pu (RunV.move rfl) rfl ?_
    refine SatL.pu (RunV.move rfl) rfl ?_
    first | refine SatL.pu (RunV.nil_ptr rfl) rfl ?_ | refine SatL.pu (RunV.nil_func rfl) rfl ?_ | refine SatL.pu (RunV.nil_yield rfl) rfl ?_
    first | refine SatL.pu (RunV.fieldAddrL rfl rfl rfl) rfl ?_ | refine SatL.pu (RunV.fieldAddr rfl rfl rfl) rfl ?_
    refine SatL.op rfl (OpW.storeAt (T := 39) (cs := [.int .i64 (now : Int), v]) (cs' := [.int .i64 (now : Int), va]) hS rfl rfl (by show _ < 2; decide) rfl (by repeat constructor) rfl hsa.one ?_)
    clear hS
    intro w3 hS
    refine SatL.nil (SatE.thenC ?_)
    refine SatC.seq ?_
    refine SatC.weak (e' := [(4, _), (5, _)]) (by repeat constructor) ?_
    refine SatC.region ?_
    refine SatL.pu (RunV.move rfl) rfl ?_
    refine SatL.pu (RunV.assign rfl) rfl ?_
    refine SatL.nil (SatE.thenC ?_)
    refine SatC.ret ?_
    refine SatE.ret1 rfl rfl ?_
    exact ⟨rfl, va, Ba, hsa, hS.sel (by repeat constructor)⟩
theorem rtick_any (hsl : Sl 64 2 v (l.map pw) B) (hl : l.length ≤ 1000) (hn : now ≤ 1000000000) (hd : ∀ p ∈ l, p.2 ≤ 2000000000) (hown : Own w (RO b now v B)) :
    Ret Try.prog 17 #[.pointer (some ⟨b, 0, none⟩)] w fun u w' => ∃ v' B' D, Sl 3 1 u (((dueP l (now + 1)).map Prod.fst).map ri) D ∧ Sl 64 2 v' ((notP l (now + 1)).map pw) B' ∧ St w ((RO b now v B).map Prod.fst) (D ++ RO b (now + 1) v' B') w' := by
  have hS := St.init hown
  obtain ⟨vc, hv⟩ := hsl.slv
  rw [List.length_map] at hv
  generalize hX : (RO b now v B).map Prod.fst = X at hS ⊢
  refine Ret.enter Try.func17 Try.ntmps17 rfl rfl ?_
  simp only [argEnv, Nat.reduceAdd]
  refine SatC.seq ?_
  refine SatC.region ?_
  refine SatL.pu (RunV.assign rfl) rfl ?_
  refine SatL.nil (SatE.thenC ?_)
  refine SatC.seq ?_
  refine SatC.region ?_
  refine SatL.pu (RunV.move rfl) rfl ?_
  refine SatL.pu (RunV.move rfl) rfl ?_
  first | refine SatL.pu (RunV.nil_ptr rfl) rfl ?_ | refine SatL.pu (RunV.nil_func rfl) rfl ?_ | refine SatL.pu (RunV.nil_yield rfl) rfl ?_
  first | refine SatL.pu (RunV.fieldAddrL rfl rfl rfl) rfl ?_ | refine SatL.pu (RunV.fieldAddr rfl rfl rfl) rfl ?_
  refine SatL.pu (RunV.load1 hS rfl rfl (by repeat constructor) rfl) rfl ?_
  refine SatL.pu (RunV.add rfl rfl (by first | exact wrapI64 (by omega) | rfl)) rfl ?_
  first | refine SatL.pu (RunV.nil_ptr rfl) rfl ?_ | refine SatL.pu (RunV.nil_func rfl) rfl ?_ | refine SatL.pu (RunV.nil_yield rfl) rfl ?_
  first | refine SatL.pu (RunV.fieldAddrL rfl rfl rfl) rfl ?_ | refine SatL.pu (RunV.fieldAddr rfl rfl rfl) rfl ?_
  refine SatL.op rfl (OpW.storeAt (T := 39) (cs := [.int .i64 (now : Int), v]) (cs' := [.int .i64 ((now + 1 : Nat) : Int), v]) hS rfl rfl (by show _ < 2; decide) rfl (by repeat constructor) rfl rfl ?_)
  clear hS
  intro w1 hS
  refine SatL.nil (SatE.thenC ?_)
  refine SatC.seq ?_
  refine SatC.region ?_
  refine SatL.pu (RunV.assign rfl) rfl ?_
  refine SatL.nil (SatE.thenC ?_)
  refine SatC.seq ?_
  refine SatC.region ?_
  refine SatL.pu (RunV.assign rfl) rfl ?_
  refine SatL.nil (SatE.thenC ?_)
  refine SatC.seq ?_
  refine SatC.seq ?_
  refine SatC.region ?_
  refine SatL.pu (RunV.assign rfl) rfl ?_
  refine SatL.nil (SatE.thenC ?_)
  refine SatC.block ?_
  refine SatC.loopK (G := Nat × Value × List (Nat × Obj) × Value × List (Nat × Obj)) (V := fun ⟨k, va, Ba, vo, Bo⟩ => [(5, .int .i64 (k : Int)), (3, vo), (4, va)]) (Cn := [(0, _), (2, _)]) (I := fun ⟨k, va, Ba, vo, Bo⟩ w' => k ≤ l.length ∧ Sl 64 2 va ((notP (l.take k) (now + 1)).map pw) Ba ∧ Sl 3 1 vo (((dueP (l.take k) (now + 1)).map Prod.fst).map ri) Bo ∧ St w X (Ba ++ (Bo ++ RO b (now + 1) v B)) w') (μ := fun ⟨k, va, Ba, vo, Bo⟩ => l.length - k) (0, .slice none 0 0, [], .slice none 0 0, []) ?_ (by repeat constructor) ?_
  · exact ⟨by omega, .nil, .nil, hS.sel (by repeat constructor)⟩
  clear hS
  rintro ⟨k, va, Ba, vo, Bo⟩ w2 ⟨hk, hsa, hso, hS⟩
  refine SatC.weak (e' := [(0, _), (2, _), (3, _), (4, _), (5, _)]) (by repeat constructor) ?_
  refine SatC.seq ?_
  refine SatC.seq ?_
  refine SatC.region ?_
  refine SatL.pu (RunV.move rfl) rfl ?_
  refine SatL.pu (RunV.move rfl) rfl ?_
  first | refine SatL.pu (RunV.nil_ptr rfl) rfl ?_ | refine SatL.pu (RunV.nil_func rfl) rfl ?_ | refine SatL.pu (RunV.nil_yield rfl) rfl ?_
  first | refine SatL.pu (RunV.fieldAddrL rfl rfl rfl) rfl ?_ | refine SatL.pu (RunV.fieldAddr rfl rfl rfl) rfl ?_
  refine SatL.pu (RunV.load1 hS rfl rfl (by repeat constructor) rfl) rfl ?_
  first | refine SatL.pu (RunV.lenR (by assumption) rfl rfl) rfl ?_ | refine SatL.pu (RunV.lenS rfl rfl) rfl ?_
  refine SatL.pu (RunV.lss rfl rfl) rfl ?_
  refine SatL.nil (SatE.thenC ?_)
  refine SatC.cond rfl (fun h1 => ?_) (fun h1 => ?_)
  · (try simp only [cx, ne_eq] at h1)
    try (exfalso; (first | omega | exact h1 trivial | contradiction | (first | omega | (simp at h1; done))); done)
    all_goals
    refine SatC.skip (SatE.thenC ?_)
    refine SatC.seq ?_
    refine SatC.block ?_
    refine SatC.seq ?_
    obtain ⟨y, hy⟩ := get_some l k (by omega)
    have hol : (notP (l.take k) (now + 1)).length ≤ (l.take k).length := List.length_filter_le ..
    have hdl : (dueP (l.take k) (now + 1)).length ≤ (l.take k).length := List.length_filter_le ..
    rw [List.length_take] at hol hdl
    refine SatC.drawnT 13 hS (hS.sel (R := RO b (now + 1) v B) (by repeat constructor)) (by kernel_rfl) ?_
    clear hS
    intro w3 hh hS hD
    refine SatD.tk 0 rfl hD (fun _ hw => RunV.move rfl) ?_
    first | refine SatD.tk 1 rfl hD (fun _ hw => RunV.nil_ptr rfl) ?_ | refine SatD.tk 1 rfl hD (fun _ hw => RunV.nil_func rfl) ?_ | refine SatD.tk 1 rfl hD (fun _ hw => RunV.nil_yield rfl) ?_
    first | refine SatD.tk 2 rfl hD (fun _ hw => RunV.fieldAddrL rfl rfl rfl) ?_ | refine SatD.tk 2 rfl hD (fun _ hw => RunV.fieldAddr rfl rfl rfl) ?_
    refine SatD.tk 3 rfl hD (fun _ hw => RunV.load1 hw rfl rfl (by repeat constructor) rfl) ?_
    refine SatD.tk 4 rfl hD (fun _ hw => RunV.move rfl) ?_
    first | refine SatD.tk 5 rfl hD (fun _ hw => RunV.indexR (by assumption) rfl rfl rfl (by omega) (by omega) rfl) ?_ | refine SatD.tk 5 rfl hD (fun _ hw => RunV.indexS rfl rfl rfl (by omega) (by omega) rfl) ?_
    first | refine SatD.tk 6 rfl hD (fun _ hw => RunV.fieldAddrL rfl rfl rfl) ?_ | refine SatD.tk 6 rfl hD (fun _ hw => RunV.fieldAddr rfl rfl rfl) ?_
    refine SatD.tk 7 rfl hD (fun _ hw => RunV.loadR1g k 1 (Sl.rd hsl hw (by repeat constructor)) rfl rfl (by omega) (map_get hy) rfl) ?_
    refine SatD.tk 8 rfl hD (fun _ hw => RunV.move rfl) ?_
    first | refine SatD.tk 9 rfl hD (fun _ hw => RunV.nil_ptr rfl) ?_ | refine SatD.tk 9 rfl hD (fun _ hw => RunV.nil_func rfl) ?_ | refine SatD.tk 9 rfl hD (fun _ hw => RunV.nil_yield rfl) ?_
    first | refine SatD.tk 10 rfl hD (fun _ hw => RunV.fieldAddrL rfl rfl rfl) ?_ | refine SatD.tk 10 rfl hD (fun _ hw => RunV.fieldAddr rfl rfl rfl) ?_
    refine SatD.tk 11 rfl hD (fun _ hw => RunV.load1 hw rfl rfl (by repeat constructor) rfl) ?_
    refine SatD.tk 12 rfl hD (fun _ hw => RunV.eql rfl rfl) ?_
    refine SatD.done 0 (by kernel_rfl) (SatE.thenC ?_)
    clear hD
    refine SatC.weak (e' := [(0, _), (2, _), (3, _), (4, _), (5, _), (35, _)]) (by repeat constructor) ?_
    refine SatC.cond rfl (fun h2 => ?_) (fun h2 => ?_)
    · (try simp only [cx, ne_eq] at h2)
      try (exfalso; (first | omega | exact h2 trivial | contradiction | (first | omega | (simp at h2; done))); done)
      all_goals
      refine SatC.region ?_
      refine SatL.pu (RunV.move rfl) rfl ?_
      refine SatL.pu (RunV.move rfl) rfl ?_
      first | refine SatL.pu (RunV.nil_ptr rfl) rfl ?_ | refine SatL.pu (RunV.nil_func rfl) rfl ?_ | refine SatL.pu (RunV.nil_yield rfl) rfl ?_
      first | refine SatL.pu (RunV.fieldAddrL rfl rfl rfl) rfl ?_ | refine SatL.pu (RunV.fieldAddr rfl rfl rfl) rfl ?_
      refine SatL.pu (RunV.load1 hS rfl rfl (by repeat constructor) rfl) rfl ?_
      refine SatL.pu (RunV.move rfl) rfl ?_
      first | refine SatL.pu (RunV.indexR (by assumption) rfl rfl rfl (by omega) (by omega) rfl) rfl ?_ | refine SatL.pu (RunV.indexS rfl rfl rfl (by omega) (by omega) rfl) rfl ?_
      first | refine SatL.pu (RunV.fieldAddrL rfl rfl rfl) rfl ?_ | refine SatL.pu (RunV.fieldAddr rfl rfl rfl) rfl ?_
      refine SatL.pu (RunV.loadR1g k 0 (Sl.rd hsl hS (by repeat constructor)) rfl rfl (by omega) (map_get hy) rfl) rfl ?_
      refine SatL.op rfl (OpW.buildSlice1 hS rfl rfl rfl rfl rfl (by repeat constructor) rfl rfl rfl ?_)
      clear hS
      intro b45 w4 _ hS
      refine SatL.op rfl (OpW.append1 hso hS (by repeat constructor) rfl rfl (by repeat constructor) rfl rfl rfl rfl rfl rfl rfl rfl (by rw [List.length_map, List.length_map]; omega) rfl ?_)
      clear hS
      intro v46 B46 w5 hsl46 hS
      refine SatL.pu (RunV.assign rfl) rfl ?_
      refine SatL.nil (SatE.blk_normal (SatE.thenC ?_))
      refine SatC.weak (e' := [(0, _), (2, _), (3, _), (4, _), (5, _)]) (by repeat constructor) ?_
      refine SatC.region ?_
      refine SatL.pu (RunV.move rfl) rfl ?_
      refine SatL.pu (RunV.add rfl rfl (by first | exact wrapI64 (by omega) | rfl)) rfl ?_
      refine SatL.pu (RunV.assign rfl) rfl ?_
      refine SatL.nil ?_
      refine SatE.again ((k + 1, va, Ba, v46, B46)) ?_ (by first | omega | (dsimp only; omega)) (by repeat constructor)
      refine ⟨by omega, ?_, ?_, hS.sel (by repeat constructor)⟩
      · rw [notP_step hy, if_pos (by omega), List.append_nil]
        exact hsa
      · rw [dueP_step hy, if_pos (by omega), List.map_append, List.map_append]
        exact hsl46
    · (try simp only [cx, ne_eq] at h2)
      try (exfalso; (first | omega | exact h2 trivial | contradiction | (first | omega | (simp at h2; done))); done)
      all_goals
      refine SatC.region ?_
      refine SatL.pu (RunV.move rfl) rfl ?_
      refine SatL.pu (RunV.move rfl) rfl ?_
      first | refine SatL.pu (RunV.nil_ptr rfl) rfl ?_ | refine SatL.pu (RunV.nil_func rfl) rfl ?_ | refine SatL.pu (RunV.nil_yield rfl) rfl ?_
      first | refine SatL.pu (RunV.fieldAddrL rfl rfl rfl) rfl ?_ | refine SatL.pu (RunV.fieldAddr rfl rfl rfl) rfl ?_
      refine SatL.pu (RunV.load1 hS rfl rfl (by repeat constructor) rfl) rfl ?_
      refine SatL.pu (RunV.move rfl) rfl ?_
      first | refine SatL.pu (RunV.indexR (by assumption) rfl rfl rfl (by omega) (by omega) rfl) rfl ?_ | refine SatL.pu (RunV.indexS rfl rfl rfl (by omega) (by omega) rfl) rfl ?_
      refine SatL.pu (RunV.loadRNz (Sl.rd hsl hS (by repeat constructor)) rfl rfl (map_get hy)) rfl ?_
      refine SatL.op rfl (OpW.buildSlice1 hS rfl rfl rfl rfl rfl (by repeat constructor) rfl rfl rfl ?_)
      clear hS
      intro b55 w4 _ hS
      refine SatL.op rfl (OpW.append1 hsa hS (by repeat constructor) rfl rfl (by repeat constructor) rfl rfl rfl rfl rfl rfl rfl rfl (by rw [List.length_map]; omega) rfl ?_)
      clear hS
      intro v56 B56 w5 hsl56 hS
      refine SatL.pu (RunV.assign rfl) rfl ?_
      refine SatL.nil (SatE.blk_normal (SatE.thenC ?_))
      refine SatC.region ?_
      refine SatL.pu (RunV.move rfl) rfl ?_
      refine SatL.pu (RunV.add rfl rfl (by first | exact wrapI64 (by omega) | rfl)) rfl ?_
      refine SatL.pu (RunV.assign rfl) rfl ?_
      refine SatL.nil ?_
      refine SatE.again ((k + 1, v56, B56, vo, Bo)) ?_ (by first | omega | (dsimp only; omega)) (by repeat constructor)
      refine ⟨by omega, ?_, ?_, hS.sel (by repeat constructor)⟩
      · rw [notP_step hy, if_neg (by omega), List.map_append]
        exact hsl56
      · rw [dueP_step hy, if_neg (by omega), List.append_nil]
        exact hso
  · (try simp only [cx, ne_eq] at h1)
    try (exfalso; (first | omega | exact h1 trivial | contradiction | (first | omega | (simp at h1; done))); done)
    all_goals
    refine SatC.exit (SatE.then_exit (SatE.then_exit (SatE.blk_exit (SatE.thenC ?_))))
    refine SatC.seq ?_
    rw [List.take_of_length_le (by omega)] at hsa hso
    refine SatC.region ?_
    refine SatL.pu (RunV.move rfl) rfl ?_
    refine SatL.pu (RunV.move rfl) rfl ?_
    first | refine SatL.pu (RunV.nil_ptr rfl) rfl ?_ | refine SatL.pu (RunV.nil_func rfl) rfl ?_ | refine SatL.pu (RunV.nil_yield rfl) rfl ?_
    first | refine SatL.pu (RunV.fieldAddrL rfl rfl rfl) rfl ?_ | refine SatL.pu (RunV.fieldAddr rfl rfl rfl) rfl ?_
    refine SatL.op rfl (OpW.storeAt (T := 39) (cs := [.int .i64 ((now + 1 : Nat) : Int), v]) (cs' := [.int .i64 ((now + 1 : Nat) : Int), va]) hS rfl rfl (by show _ < 2; decide) rfl (by repeat constructor) rfl hsa.one ?_)
    clear hS
    intro w3 hS
    refine SatL.nil (SatE.thenC ?_)
    refine SatC.seq ?_
    refine SatC.weak (e' := [(2, _), (3, _)]) (by repeat constructor) ?_
    refine SatC.region ?_
    refine SatL.pu (RunV.move rfl) rfl ?_
    refine SatL.pu (RunV.assign rfl) rfl ?_
    refine SatL.nil (SatE.thenC ?_)
    refine SatC.ret ?_
    refine SatE.ret1 rfl rfl ?_
    exact ⟨va, Ba, Bo, hso, hsa, hS.sel (by repeat constructor)⟩
theorem rset_any (i n : Int) (hsl : Sl 64 2 v (l.map pw) B) (hl : l.length ≤ 1000) (hn : now ≤ 1000000000) (hown : Own w (RO b now v B)) :
    Ret Try.prog 13 #[.pointer (some ⟨b, 0, none⟩), .int .i64 i, .int .i64 n] w fun u w' => u = .bool (decide (rokP l i n)) ∧ ∃ v' B', Sl 64 2 v' ((rsetP l now i n).map pw) B' ∧ St w ((RO b now v B).map Prod.fst) (RO b now v' B') w' := by
  have hS := St.init hown
  obtain ⟨vc, hv⟩ := hsl.slv
  rw [List.length_map] at hv
  generalize hX : (RO b now v B).map Prod.fst = X at hS ⊢
  refine Ret.enter Try.func13 Try.ntmps13 rfl rfl ?_
  simp only [argEnv, Nat.reduceAdd]
  refine SatC.seq ?_
  refine SatC.region ?_
  refine SatL.pu (RunV.assign rfl) rfl ?_
  refine SatL.nil (SatE.thenC ?_)
  refine SatC.seq ?_
  refine SatC.seq ?_
  refine SatC.region ?_
  refine SatL.pu (RunV.move rfl) rfl ?_
  refine SatL.pu (RunV.lss rfl rfl) rfl ?_
  refine SatL.pu (RunV.move rfl) rfl ?_
  refine SatL.guard rfl rfl rfl (fun h1 => ?_) (fun h1 => ?_)
  · (try simp only [cx, ne_eq] at h1)
    try (exfalso; (first | omega | exact h1 trivial | contradiction | (first | omega | (simp at h1; done))); done)
    all_goals
    refine SatL.pu (RunV.move rfl) rfl ?_
    refine SatL.guard_y rfl rfl ?_
    refine SatL.pu (RunV.gtr rfl rfl) rfl ?_
    refine SatL.pu (RunV.pick_f rfl rfl) rfl ?_
    refine SatL.pu (RunV.move rfl) rfl ?_
    refine SatL.guard rfl rfl rfl (fun h2 => ?_) (fun h2 => ?_)
    · (try simp only [cx, ne_eq] at h2)
      try (exfalso; (first | omega | exact h2 trivial | contradiction | (first | omega | (simp at h2; done))); done)
      all_goals
      refine SatL.pu (RunV.move rfl) rfl ?_
      refine SatL.guard_y rfl rfl ?_
      refine SatL.pu (RunV.move rfl) rfl ?_
      refine SatL.guard_y rfl rfl ?_
      refine SatL.op rfl (OpW.enter rfl rfl rfl (rfl) (rhas_any i hsl hl (hS.ownT (A := RO b now v B) (by repeat constructor))) ?_)
      rintro r1 w1 ⟨rfl, h⟩
      replace hS := St.callN hS h
      refine SatL.guard_y rfl rfl ?_
      refine SatL.pu (RunV.not rfl) rfl ?_
      refine SatL.guard_y rfl rfl ?_
      refine SatL.pu (RunV.move rfl) rfl ?_
      refine SatL.guard rfl rfl rfl (fun h3 => ?_) (fun h3 => ?_)
      · (try simp only [cx, ne_eq] at h3)
        try (exfalso; (first | omega | exact h3 trivial | contradiction | (first | omega | (simp at h3; done))); done)
        all_goals
        refine SatL.pu (RunV.move rfl) rfl ?_
        refine SatL.guard_y rfl rfl ?_
        first | refine SatL.pu (RunV.nil_ptr rfl) rfl ?_ | refine SatL.pu (RunV.nil_func rfl) rfl ?_ | refine SatL.pu (RunV.nil_yield rfl) rfl ?_
        refine SatL.guard_y rfl rfl ?_
        first | refine SatL.pu (RunV.fieldAddrL rfl rfl rfl) rfl ?_ | refine SatL.pu (RunV.fieldAddr rfl rfl rfl) rfl ?_
        refine SatL.guard_y rfl rfl ?_
        refine SatL.pu (RunV.load1 hS rfl rfl (by repeat constructor) rfl) rfl ?_
        refine SatL.guard_y rfl rfl ?_
        first | refine SatL.pu (RunV.lenR (by assumption) rfl rfl) rfl ?_ | refine SatL.pu (RunV.lenS rfl rfl) rfl ?_
        refine SatL.guard_y rfl rfl ?_
        refine SatL.pu (RunV.geq rfl rfl) rfl ?_
        refine SatL.guard_y rfl rfl ?_
        refine SatL.pu (RunV.pick_t rfl rfl) rfl ?_
        refine SatL.pu (RunV.pick_f rfl rfl) rfl ?_
        refine SatL.nil (SatE.thenC ?_)
        refine SatC.weak (e' := [(0, _), (1, _), (2, _), (6, _), (29, _)]) (by repeat constructor) ?_
        refine SatC.cond rfl (fun h4 => ?_) (fun h4 => ?_)
        · (try simp only [cx, ne_eq] at h4)
          try (exfalso; (first | omega | exact h4 trivial | contradiction | (first | omega | (simp at h4; done))); done)
          all_goals
          refine SatC.seq ?_
          refine SatC.region ?_
          refine SatL.pu (RunV.assign rfl) rfl ?_
          refine SatL.nil (SatE.thenC ?_)
          refine SatC.ret (SatE.then_ret ?_)
          refine SatE.ret1 rfl rfl ?_
          first
          | exact ⟨by rw [decide_eq_true hok], vz, Bz, by rw [hrs]; exact hsz, hS.sel (by repeat constructor)⟩
          | (have hno : ¬ rokP l i n := by (rintro ⟨h1, h2, h3⟩; (first | omega | (rcases h3 with h3 | h3 <;> first | omega | (simp_all; done))))
             exact ⟨by rw [decide_eq_false hno], v, B, by unfold rsetP; rw [if_neg hno]; exact hsl, hS.sel (by repeat constructor)⟩)
        · (try simp only [cx, ne_eq] at h4)
          try (exfalso; (first | omega | exact h4 trivial | contradiction | (first | omega | (simp at h4; done))); done)
          all_goals
          refine SatC.skip (SatE.thenC ?_)
          refine SatC.seq ?_
          refine SatC.region ?_
          refine SatL.pu (RunV.move rfl) rfl ?_
          refine SatL.pu (RunV.move rfl) rfl ?_
          refine SatL.op rfl (OpW.enter rfl rfl rfl (rfl) (rstop_any i hsl hl (hS.ownT (A := RO b now v B) (by repeat constructor))) ?_)
          rintro r2 w2 ⟨rfl, v1, B1, hsl1, h⟩
          replace hS := hS.callT (A := RO b now v B) (by repeat constructor) h
          rw [List.append_nil] at hS
          obtain ⟨vc1, hv1⟩ := hsl1.slv
          rw [List.length_map] at hv1
          refine SatL.nil (SatE.thenC ?_)
          refine SatC.seq ?_
          have hol := outP_len l i
          have hok : rokP l i n := by
            refine ⟨by omega, by omega, ?_⟩
            first
            | (right; omega)
            | (left; assumption)
            | (left; simp_all; done)
          obtain ⟨nn, rfl⟩ : ∃ q : Nat, n = (q : Int) := ⟨n.toNat, by omega⟩
          generalize hl1 : outP l i = l1 at hsl1 hv1 hol
          have hrs : rsetP l now i (nn : Int) = insP (i, now + nn) false l1 := by
            unfold rsetP
            rw [if_pos hok, hl1]; rfl
          refine SatC.region ?_
          refine SatL.pu (RunV.assign rfl) rfl ?_
          refine SatL.nil (SatE.thenC ?_)
          refine SatC.seq ?_
          refine SatC.region ?_
          refine SatL.pu (RunV.assign rfl) rfl ?_
          refine SatL.nil (SatE.thenC ?_)
          refine SatC.seq ?_
          refine SatC.seq ?_
          refine SatC.region ?_
          refine SatL.pu (RunV.assign rfl) rfl ?_
          refine SatL.nil (SatE.thenC ?_)
          refine SatC.block ?_
          refine SatC.loopK (G := Nat × List (Int × Nat) × Value × List (Nat × Obj) × Bool) (V := fun ⟨k, acc, va, Ba, laid⟩ => [(9, .int .i64 (k : Int)), (7, va), (8, .bool laid)]) (Cn := [(0, _), (1, _), (2, _), (6, _)]) (I := fun ⟨k, acc, va, Ba, laid⟩ w' => k ≤ l1.length ∧ Sl 64 2 va (acc.map pw) Ba ∧ acc ++ insP (i, now + nn) laid (l1.drop k) = insP (i, now + nn) false l1 ∧ acc.length ≤ 2 * k ∧ St w X (Ba ++ RO b now v1 B1) w') (μ := fun ⟨k, acc, va, Ba, laid⟩ => l1.length - k) (0, [], .slice none 0 0, [], false) ?_ (by repeat constructor) ?_
          · exact ⟨by omega, .nil, rfl, by simp, hS⟩
          clear hS
          rintro ⟨k, acc, va, Ba, laid⟩ w3 ⟨hk, hsa, hacc, hal, hS⟩
          refine SatC.weak (e' := [(0, _), (1, _), (2, _), (6, _), (7, _), (8, _), (9, _)]) (by repeat constructor) ?_
          refine SatC.seq ?_
          refine SatC.seq ?_
          refine SatC.region ?_
          refine SatL.pu (RunV.move rfl) rfl ?_
          refine SatL.pu (RunV.move rfl) rfl ?_
          first | refine SatL.pu (RunV.nil_ptr rfl) rfl ?_ | refine SatL.pu (RunV.nil_func rfl) rfl ?_ | refine SatL.pu (RunV.nil_yield rfl) rfl ?_
          first | refine SatL.pu (RunV.fieldAddrL rfl rfl rfl) rfl ?_ | refine SatL.pu (RunV.fieldAddr rfl rfl rfl) rfl ?_
          refine SatL.pu (RunV.load1 hS rfl rfl (by repeat constructor) rfl) rfl ?_
          first | refine SatL.pu (RunV.lenR (by assumption) rfl rfl) rfl ?_ | refine SatL.pu (RunV.lenS rfl rfl) rfl ?_
          refine SatL.pu (RunV.lss rfl rfl) rfl ?_
          refine SatL.nil (SatE.thenC ?_)
          refine SatC.cond rfl (fun h5 => ?_) (fun h5 => ?_)
          · (try simp only [cx, ne_eq] at h5)
            try (exfalso; (first | omega | exact h5 trivial | contradiction | (first | omega | (simp at h5; done))); done)
            all_goals
            refine SatC.skip (SatE.thenC ?_)
            refine SatC.seq ?_
            refine SatC.block ?_
            refine SatC.seq ?_
            refine SatC.seq ?_
            obtain ⟨y, hy⟩ := get_some l1 k (by omega)
            rw [List.drop_eq_getElem_cons (by omega : k < l1.length), show l1[k] = y from by rw [List.getElem?_eq_getElem (by omega)] at hy; exact Option.some.inj hy] at hacc
            refine SatC.region ?_
            refine SatL.pu (RunV.move rfl) rfl ?_
            refine SatL.pu (RunV.not rfl) rfl ?_
            refine SatL.pu (RunV.move rfl) rfl ?_
            refine SatL.guard rfl rfl rfl (fun h6 => ?_) (fun h6 => ?_)
            · (try simp only [cx, ne_eq] at h6)
              try (exfalso; (first | omega | exact h6 trivial | contradiction | (first | omega | (simp at h6; done))); done)
              all_goals
              refine SatL.pu (RunV.move rfl) rfl ?_
              refine SatL.guard_y rfl rfl ?_
              first | refine SatL.pu (RunV.nil_ptr rfl) rfl ?_ | refine SatL.pu (RunV.nil_func rfl) rfl ?_ | refine SatL.pu (RunV.nil_yield rfl) rfl ?_
              refine SatL.guard_y rfl rfl ?_
              first | refine SatL.pu (RunV.fieldAddrL rfl rfl rfl) rfl ?_ | refine SatL.pu (RunV.fieldAddr rfl rfl rfl) rfl ?_
              refine SatL.guard_y rfl rfl ?_
              refine SatL.pu (RunV.load1 hS rfl rfl (by repeat constructor) rfl) rfl ?_
              refine SatL.guard_y rfl rfl ?_
              refine SatL.pu (RunV.move rfl) rfl ?_
              refine SatL.guard_y rfl rfl ?_
              first | refine SatL.pu (RunV.indexR (by assumption) rfl rfl rfl (by omega) (by omega) rfl) rfl ?_ | refine SatL.pu (RunV.indexS rfl rfl rfl (by omega) (by omega) rfl) rfl ?_
              refine SatL.guard_y rfl rfl ?_
              first | refine SatL.pu (RunV.fieldAddrL rfl rfl rfl) rfl ?_ | refine SatL.pu (RunV.fieldAddr rfl rfl rfl) rfl ?_
              refine SatL.guard_y rfl rfl ?_
              refine SatL.pu (RunV.loadR1g k 0 (Sl.rd hsl1 hS (by repeat constructor)) rfl rfl (by omega) (map_get hy) rfl) rfl ?_
              refine SatL.guard_y rfl rfl ?_
              refine SatL.pu (RunV.move rfl) rfl ?_
              refine SatL.guard_y rfl rfl ?_
              refine SatL.pu (RunV.gtr rfl rfl) rfl ?_
              refine SatL.pu (RunV.pick_t rfl rfl) rfl ?_
              refine SatL.nil (SatE.thenC ?_)
              refine SatC.weak (e' := [(0, _), (1, _), (2, _), (6, _), (7, _), (8, _), (9, _), (55, _)]) (by repeat constructor) ?_
              refine SatC.cond rfl (fun h7 => ?_) (fun h7 => ?_)
              · (try simp only [cx, ne_eq] at h7)
                try (exfalso; (first | omega | exact h7 trivial | contradiction | (first | omega | (simp at h7; done))); done)
                all_goals
                refine SatC.seq ?_
                refine SatC.region ?_
                refine SatL.pu (RunV.move rfl) rfl ?_
                refine SatL.pu (RunV.move rfl) rfl ?_
                refine SatL.pu (RunV.move rfl) rfl ?_
                first | refine SatL.pu (RunV.nil_ptr rfl) rfl ?_ | refine SatL.pu (RunV.nil_func rfl) rfl ?_ | refine SatL.pu (RunV.nil_yield rfl) rfl ?_
                first | refine SatL.pu (RunV.fieldAddrL rfl rfl rfl) rfl ?_ | refine SatL.pu (RunV.fieldAddr rfl rfl rfl) rfl ?_
                refine SatL.pu (RunV.load1 hS rfl rfl (by repeat constructor) rfl) rfl ?_
                refine SatL.pu (RunV.move rfl) rfl ?_
                refine SatL.pu (RunV.cast (v' := .int .i64 ((now + nn : Nat) : Int)) (RunV.add rfl rfl (wrapI64 (by omega))) rfl) rfl ?_
                refine SatL.pu (RunV.build rfl (by simp [go_sem]; try rfl)) rfl ?_
                refine SatL.op rfl (OpW.buildSlice1 hS rfl rfl rfl rfl rfl (by repeat constructor) rfl rfl rfl ?_)
                clear hS
                intro b65 w4 _ hS
                refine SatL.op rfl (OpW.append1 hsa hS (by repeat constructor) rfl rfl (by repeat constructor) rfl rfl rfl rfl rfl rfl rfl rfl (by rw [List.length_map]; omega) rfl ?_)
                clear hS
                intro v66 B66 w5 hsl66 hS
                refine SatL.pu (RunV.assign rfl) rfl ?_
                refine SatL.nil (SatE.thenC ?_)
                refine SatC.weak (e' := [(0, _), (1, _), (2, _), (6, _), (7, _), (8, _), (9, _)]) (by repeat constructor) ?_
                refine SatC.region ?_
                refine SatL.pu (RunV.assign rfl) rfl ?_
                refine SatL.nil (SatE.thenC ?_)
                refine SatC.region ?_
                refine SatL.pu (RunV.move rfl) rfl ?_
                refine SatL.pu (RunV.move rfl) rfl ?_
                first | refine SatL.pu (RunV.nil_ptr rfl) rfl ?_ | refine SatL.pu (RunV.nil_func rfl) rfl ?_ | refine SatL.pu (RunV.nil_yield rfl) rfl ?_
                first | refine SatL.pu (RunV.fieldAddrL rfl rfl rfl) rfl ?_ | refine SatL.pu (RunV.fieldAddr rfl rfl rfl) rfl ?_
                refine SatL.pu (RunV.load1 hS rfl rfl (by repeat constructor) rfl) rfl ?_
                refine SatL.pu (RunV.move rfl) rfl ?_
                first | refine SatL.pu (RunV.indexR (by assumption) rfl rfl rfl (by omega) (by omega) rfl) rfl ?_ | refine SatL.pu (RunV.indexS rfl rfl rfl (by omega) (by omega) rfl) rfl ?_
                refine SatL.pu (RunV.loadRNz (Sl.rd hsl1 hS (by repeat constructor)) rfl rfl (map_get hy)) rfl ?_
                refine SatL.op rfl (OpW.buildSlice1 hS rfl rfl rfl rfl rfl (by repeat constructor) rfl rfl rfl ?_)
                clear hS
                intro b75 w6 _ hS
                refine SatL.op rfl (OpW.append1 hsl66 hS (by repeat constructor) rfl rfl (by repeat constructor) rfl rfl rfl rfl rfl rfl rfl rfl (by simp only [List.length_append, List.length_map, List.length_cons, List.length_nil]; omega) rfl ?_)
                clear hS
                intro v76 B76 w7 hsl76 hS
                refine SatL.pu (RunV.assign rfl) rfl ?_
                refine SatL.nil (SatE.blk_normal (SatE.thenC ?_))
                refine SatC.region ?_
                refine SatL.pu (RunV.move rfl) rfl ?_
                refine SatL.pu (RunV.add rfl rfl (by first | exact wrapI64 (by omega) | rfl)) rfl ?_
                refine SatL.pu (RunV.assign rfl) rfl ?_
                refine SatL.nil ?_
                first
                | (refine SatE.again (k + 1, acc ++ [(i, now + nn)] ++ [y], v76, B76, true) ⟨by omega, by rw [List.map_append, List.map_append]; exact hsl76, ?_, by simp only [List.length_append, List.length_cons, List.length_nil]; omega, hS.sel (by repeat constructor)⟩ (by dsimp only; omega) (by repeat constructor)
                   have el : laid = false := by assumption
                   subst el
                   rw [insP_gt (by assumption)] at hacc; simpa using hacc)
                | (refine SatE.again (k + 1, acc ++ [y], v76, B76, laid) ⟨by omega, by rw [List.map_append]; exact hsl76, ?_, by simp only [List.length_append, List.length_cons, List.length_nil]; omega, hS.sel (by repeat constructor)⟩ (by dsimp only; omega) (by repeat constructor)
                   rw [insP_lt (by first | exact .inl (by assumption) | exact .inr (by dsimp only; omega))] at hacc; simpa using hacc)
              · (try simp only [cx, ne_eq] at h7)
                try (exfalso; (first | omega | exact h7 trivial | contradiction | (first | omega | (simp at h7; done))); done)
                all_goals
                refine SatC.skip (SatE.thenC ?_)
                refine SatC.region ?_
                refine SatL.pu (RunV.move rfl) rfl ?_
                refine SatL.pu (RunV.move rfl) rfl ?_
                first | refine SatL.pu (RunV.nil_ptr rfl) rfl ?_ | refine SatL.pu (RunV.nil_func rfl) rfl ?_ | refine SatL.pu (RunV.nil_yield rfl) rfl ?_
                first | refine SatL.pu (RunV.fieldAddrL rfl rfl rfl) rfl ?_ | refine SatL.pu (RunV.fieldAddr rfl rfl rfl) rfl ?_
                refine SatL.pu (RunV.load1 hS rfl rfl (by repeat constructor) rfl) rfl ?_
                refine SatL.pu (RunV.move rfl) rfl ?_
                first | refine SatL.pu (RunV.indexR (by assumption) rfl rfl rfl (by omega) (by omega) rfl) rfl ?_ | refine SatL.pu (RunV.indexS rfl rfl rfl (by omega) (by omega) rfl) rfl ?_
                refine SatL.pu (RunV.loadRNz (Sl.rd hsl1 hS (by repeat constructor)) rfl rfl (map_get hy)) rfl ?_
                refine SatL.op rfl (OpW.buildSlice1 hS rfl rfl rfl rfl rfl (by repeat constructor) rfl rfl rfl ?_)
                clear hS
                intro b75 w4 _ hS
                refine SatL.op rfl (OpW.append1 hsa hS (by repeat constructor) rfl rfl (by repeat constructor) rfl rfl rfl rfl rfl rfl rfl rfl (by simp only [List.length_append, List.length_map, List.length_cons, List.length_nil]; omega) rfl ?_)
                clear hS
                intro v76 B76 w5 hsl76 hS
                refine SatL.pu (RunV.assign rfl) rfl ?_
                refine SatL.nil (SatE.blk_normal (SatE.thenC ?_))
                refine SatC.region ?_
                refine SatL.pu (RunV.move rfl) rfl ?_
                refine SatL.pu (RunV.add rfl rfl (by first | exact wrapI64 (by omega) | rfl)) rfl ?_
                refine SatL.pu (RunV.assign rfl) rfl ?_
                refine SatL.nil ?_
                first
                | (refine SatE.again (k + 1, acc ++ [(i, now + nn)] ++ [y], v76, B76, true) ⟨by omega, by rw [List.map_append, List.map_append]; exact hsl76, ?_, by simp only [List.length_append, List.length_cons, List.length_nil]; omega, hS.sel (by repeat constructor)⟩ (by dsimp only; omega) (by repeat constructor)
                   have el : laid = false := by assumption
                   subst el
                   rw [insP_gt (by assumption)] at hacc; simpa using hacc)
                | (refine SatE.again (k + 1, acc ++ [y], v76, B76, laid) ⟨by omega, by rw [List.map_append]; exact hsl76, ?_, by simp only [List.length_append, List.length_cons, List.length_nil]; omega, hS.sel (by repeat constructor)⟩ (by dsimp only; omega) (by repeat constructor)
                   rw [insP_lt (by first | exact .inl (by assumption) | exact .inr (by dsimp only; omega))] at hacc; simpa using hacc)
            · (try simp only [cx, ne_eq] at h6)
              try (exfalso; (first | omega | exact h6 trivial | contradiction | (first | omega | (simp at h6; done))); done)
              all_goals
              refine SatL.guard_n rfl rfl rfl rfl ?_
              refine SatL.guard_n rfl rfl rfl rfl ?_
              refine SatL.guard_n rfl rfl rfl rfl ?_
              refine SatL.guard_n rfl rfl rfl rfl ?_
              refine SatL.guard_n rfl rfl rfl rfl ?_
              refine SatL.guard_n rfl rfl rfl rfl ?_
              refine SatL.guard_n rfl rfl rfl rfl ?_
              refine SatL.guard_n rfl rfl rfl rfl ?_
              refine SatL.guard_n rfl rfl rfl rfl ?_
              refine SatL.pu (RunV.pick_f rfl rfl) rfl ?_
              refine SatL.nil (SatE.thenC ?_)
              refine SatC.weak (e' := [(0, _), (1, _), (2, _), (6, _), (7, _), (8, _), (9, _), (55, _)]) (by repeat constructor) ?_
              refine SatC.cond_f rfl ?_
              refine SatC.skip (SatE.thenC ?_)
              refine SatC.region ?_
              refine SatL.pu (RunV.move rfl) rfl ?_
              refine SatL.pu (RunV.move rfl) rfl ?_
              first | refine SatL.pu (RunV.nil_ptr rfl) rfl ?_ | refine SatL.pu (RunV.nil_func rfl) rfl ?_ | refine SatL.pu (RunV.nil_yield rfl) rfl ?_
              first | refine SatL.pu (RunV.fieldAddrL rfl rfl rfl) rfl ?_ | refine SatL.pu (RunV.fieldAddr rfl rfl rfl) rfl ?_
              refine SatL.pu (RunV.load1 hS rfl rfl (by repeat constructor) rfl) rfl ?_
              refine SatL.pu (RunV.move rfl) rfl ?_
              first | refine SatL.pu (RunV.indexR (by assumption) rfl rfl rfl (by omega) (by omega) rfl) rfl ?_ | refine SatL.pu (RunV.indexS rfl rfl rfl (by omega) (by omega) rfl) rfl ?_
              refine SatL.pu (RunV.loadRNz (Sl.rd hsl1 hS (by repeat constructor)) rfl rfl (map_get hy)) rfl ?_
              refine SatL.op rfl (OpW.buildSlice1 hS rfl rfl rfl rfl rfl (by repeat constructor) rfl rfl rfl ?_)
              clear hS
              intro b75 w4 _ hS
              refine SatL.op rfl (OpW.append1 hsa hS (by repeat constructor) rfl rfl (by repeat constructor) rfl rfl rfl rfl rfl rfl rfl rfl (by simp only [List.length_append, List.length_map, List.length_cons, List.length_nil]; omega) rfl ?_)
              clear hS
              intro v76 B76 w5 hsl76 hS
              refine SatL.pu (RunV.assign rfl) rfl ?_
              refine SatL.nil (SatE.blk_normal (SatE.thenC ?_))
              refine SatC.region ?_
              refine SatL.pu (RunV.move rfl) rfl ?_
              refine SatL.pu (RunV.add rfl rfl (by first | exact wrapI64 (by omega) | rfl)) rfl ?_
              refine SatL.pu (RunV.assign rfl) rfl ?_
              refine SatL.nil ?_
              first
              | (refine SatE.again (k + 1, acc ++ [(i, now + nn)] ++ [y], v76, B76, true) ⟨by omega, by rw [List.map_append, List.map_append]; exact hsl76, ?_, by simp only [List.length_append, List.length_cons, List.length_nil]; omega, hS.sel (by repeat constructor)⟩ (by dsimp only; omega) (by repeat constructor)
                 have el : laid = false := by assumption
                 subst el
                 rw [insP_gt (by assumption)] at hacc; simpa using hacc)
              | (refine SatE.again (k + 1, acc ++ [y], v76, B76, laid) ⟨by omega, by rw [List.map_append]; exact hsl76, ?_, by simp only [List.length_append, List.length_cons, List.length_nil]; omega, hS.sel (by repeat constructor)⟩ (by dsimp only; omega) (by repeat constructor)
                 rw [insP_lt (by first | exact .inl (by assumption) | exact .inr (by dsimp only; omega))] at hacc; simpa using hacc)
          · (try simp only [cx, ne_eq] at h5)
            try (exfalso; (first | omega | exact h5 trivial | contradiction | (first | omega | (simp at h5; done))); done)
            all_goals
            refine SatC.exit (SatE.then_exit (SatE.then_exit (SatE.blk_exit (SatE.thenC ?_))))
            refine SatC.merge (G := Value × List (Nat × Obj)) (V := fun ⟨vz, Bz⟩ => [(7, vz)]) (Cn := [(0, _), (6, _)]) (I := fun ⟨vz, Bz⟩ w' => Sl 64 2 vz ((insP (i, now + nn) false l1).map pw) Bz ∧ St w X (Bz ++ RO b now v1 B1) w') (by repeat constructor) ?_ ?_
            · skip
              refine SatC.seq ?_
              rw [List.drop_of_length_le (by omega)] at hacc
              refine SatC.region ?_
              refine SatL.pu (RunV.move rfl) rfl ?_
              refine SatL.pu (RunV.not rfl) rfl ?_
              refine SatL.nil (SatE.thenC ?_)
              refine SatC.cond rfl (fun h6 => ?_) (fun h6 => ?_)
              · (try simp only [cx, ne_eq] at h6)
                try (exfalso; (first | omega | exact h6 trivial | contradiction | (first | omega | (simp at h6; done))); done)
                all_goals
                refine SatC.region ?_
                refine SatL.pu (RunV.move rfl) rfl ?_
                refine SatL.pu (RunV.move rfl) rfl ?_
                refine SatL.pu (RunV.move rfl) rfl ?_
                first | refine SatL.pu (RunV.nil_ptr rfl) rfl ?_ | refine SatL.pu (RunV.nil_func rfl) rfl ?_ | refine SatL.pu (RunV.nil_yield rfl) rfl ?_
                first | refine SatL.pu (RunV.fieldAddrL rfl rfl rfl) rfl ?_ | refine SatL.pu (RunV.fieldAddr rfl rfl rfl) rfl ?_
                refine SatL.pu (RunV.load1 hS rfl rfl (by repeat constructor) rfl) rfl ?_
                refine SatL.pu (RunV.move rfl) rfl ?_
                refine SatL.pu (RunV.cast (v' := .int .i64 ((now + nn : Nat) : Int)) (RunV.add rfl rfl (wrapI64 (by omega))) rfl) rfl ?_
                refine SatL.pu (RunV.build rfl (by simp [go_sem]; try rfl)) rfl ?_
                refine SatL.op rfl (OpW.buildSlice1 hS rfl rfl rfl rfl rfl (by repeat constructor) rfl rfl rfl ?_)
                clear hS
                intro b88 w4 _ hS
                refine SatL.op rfl (OpW.append1 hsa hS (by repeat constructor) rfl rfl (by repeat constructor) rfl rfl rfl rfl rfl rfl rfl rfl (by simp only [List.length_append, List.length_map, List.length_cons, List.length_nil]; omega) rfl ?_)
                clear hS
                intro v76 B76 w5 hsl76 hS
                refine SatL.pu (RunV.assign rfl) rfl ?_
                refine SatL.nil ?_
                refine SatE.met ((v76, B76)) ?_ (by repeat constructor)
                refine ⟨?_, hS.sel (by repeat constructor)⟩
                rw [← hacc, show laid = false from by assumption, show insP (i, now + nn) false [] = [(i, now + nn)] from rfl, List.map_append]
                exact hsl76
              · (try simp only [cx, ne_eq] at h6)
                try (exfalso; (first | omega | exact h6 trivial | contradiction | (first | omega | (simp at h6; done))); done)
                all_goals
                refine SatC.skip ?_
                refine SatE.met ((va, Ba)) ?_ (by repeat constructor)
                refine ⟨?_, hS.sel (by repeat constructor)⟩
                rw [← hacc, show laid = true from by assumption, show insP (i, now + nn) true [] = [] from rfl, List.append_nil]
                exact hsa
            · clear hS
              rintro ⟨vz, Bz⟩ w64 ⟨hsz, hS⟩
              refine SatC.weak (e' := [(0, _), (6, _), (7, _)]) (by repeat constructor) ?_
              refine SatC.seq ?_
              refine SatC.region ?_
              refine SatL.pu (RunV.move rfl) rfl ?_
              refine SatL.pu (RunV.move rfl) rfl ?_
              first | refine SatL.pu (RunV.nil_ptr rfl) rfl ?_ | refine SatL.pu (RunV.nil_func rfl) rfl ?_ | refine SatL.pu (RunV.nil_yield rfl) rfl ?_
              first | refine SatL.pu (RunV.fieldAddrL rfl rfl rfl) rfl ?_ | refine SatL.pu (RunV.fieldAddr rfl rfl rfl) rfl ?_
              refine SatL.op rfl (OpW.storeAt (T := 39) (cs := [.int .i64 (now : Int), v1]) (cs' := [.int .i64 (now : Int), vz]) hS rfl rfl (by show _ < 2; decide) rfl (by repeat constructor) rfl hsz.one ?_)
              clear hS
              intro w65 hS
              refine SatL.nil (SatE.thenC ?_)
              refine SatC.seq ?_
              refine SatC.region ?_
              refine SatL.pu (RunV.assign rfl) rfl ?_
              refine SatL.nil (SatE.thenC ?_)
              refine SatC.ret ?_
              refine SatE.ret1 rfl rfl ?_
              first
              | exact ⟨by rw [decide_eq_true hok], vz, Bz, by rw [hrs]; exact hsz, hS.sel (by repeat constructor)⟩
              | (have hno : ¬ rokP l i n := by (rintro ⟨h1, h2, h3⟩; (first | omega | (rcases h3 with h3 | h3 <;> first | omega | (simp_all; done))))
                 exact ⟨by rw [decide_eq_false hno], v, B, by unfold rsetP; rw [if_neg hno]; exact hsl, hS.sel (by repeat constructor)⟩)
      · (try simp only [cx, ne_eq] at h3)
        try (exfalso; (first | omega | exact h3 trivial | contradiction | (first | omega | (simp at h3; done))); done)
        all_goals
        refine SatL.guard_n rfl rfl rfl rfl ?_
        refine SatL.guard_n rfl rfl rfl rfl ?_
        refine SatL.guard_n rfl rfl rfl rfl ?_
        refine SatL.guard_n rfl rfl rfl rfl ?_
        refine SatL.guard_n rfl rfl rfl rfl ?_
        refine SatL.guard_y rfl rfl ?_
        refine SatL.pu (RunV.pick_f rfl rfl) rfl ?_
        refine SatL.pu (RunV.pick_f rfl rfl) rfl ?_
        refine SatL.nil (SatE.thenC ?_)
        refine SatC.weak (e' := [(0, _), (1, _), (2, _), (6, _), (29, _)]) (by repeat constructor) ?_
        refine SatC.cond_f rfl ?_
        refine SatC.skip (SatE.thenC ?_)
        refine SatC.seq ?_
        refine SatC.region ?_
        refine SatL.pu (RunV.move rfl) rfl ?_
        refine SatL.pu (RunV.move rfl) rfl ?_
        refine SatL.op rfl (OpW.enter rfl rfl rfl (rfl) (rstop_any i hsl hl (hS.ownT (A := RO b now v B) (by repeat constructor))) ?_)
        rintro r2 w2 ⟨rfl, v1, B1, hsl1, h⟩
        replace hS := hS.callT (A := RO b now v B) (by repeat constructor) h
        rw [List.append_nil] at hS
        obtain ⟨vc1, hv1⟩ := hsl1.slv
        rw [List.length_map] at hv1
        refine SatL.nil (SatE.thenC ?_)
        refine SatC.seq ?_
        have hol := outP_len l i
        have hok : rokP l i n := by
          refine ⟨by omega, by omega, ?_⟩
          first
          | (right; omega)
          | (left; assumption)
          | (left; simp_all; done)
        obtain ⟨nn, rfl⟩ : ∃ q : Nat, n = (q : Int) := ⟨n.toNat, by omega⟩
        generalize hl1 : outP l i = l1 at hsl1 hv1 hol
        have hrs : rsetP l now i (nn : Int) = insP (i, now + nn) false l1 := by
          unfold rsetP
          rw [if_pos hok, hl1]; rfl
        refine SatC.region ?_
        refine SatL.pu (RunV.assign rfl) rfl ?_
        refine SatL.nil (SatE.thenC ?_)
        refine SatC.seq ?_
        refine SatC.region ?_
        refine SatL.pu (RunV.assign rfl) rfl ?_
        refine SatL.nil (SatE.thenC ?_)
        refine SatC.seq ?_
        refine SatC.seq ?_
        refine SatC.region ?_
        refine SatL.pu (RunV.assign rfl) rfl ?_
        refine SatL.nil (SatE.thenC ?_)
        refine SatC.block ?_
        refine SatC.loopK (G := Nat × List (Int × Nat) × Value × List (Nat × Obj) × Bool) (V := fun ⟨k, acc, va, Ba, laid⟩ => [(9, .int .i64 (k : Int)), (7, va), (8, .bool laid)]) (Cn := [(0, _), (1, _), (2, _), (6, _)]) (I := fun ⟨k, acc, va, Ba, laid⟩ w' => k ≤ l1.length ∧ Sl 64 2 va (acc.map pw) Ba ∧ acc ++ insP (i, now + nn) laid (l1.drop k) = insP (i, now + nn) false l1 ∧ acc.length ≤ 2 * k ∧ St w X (Ba ++ RO b now v1 B1) w') (μ := fun ⟨k, acc, va, Ba, laid⟩ => l1.length - k) (0, [], .slice none 0 0, [], false) ?_ (by repeat constructor) ?_
        · exact ⟨by omega, .nil, rfl, by simp, hS⟩
        clear hS
        rintro ⟨k, acc, va, Ba, laid⟩ w3 ⟨hk, hsa, hacc, hal, hS⟩
        refine SatC.weak (e' := [(0, _), (1, _), (2, _), (6, _), (7, _), (8, _), (9, _)]) (by repeat constructor) ?_
        refine SatC.seq ?_
        refine SatC.seq ?_
        refine SatC.region ?_
        refine SatL.pu (RunV.move rfl) rfl ?_
        refine SatL.pu (RunV.move rfl) rfl ?_
        first | refine SatL.pu (RunV.nil_ptr rfl) rfl ?_ | refine SatL.pu (RunV.nil_func rfl) rfl ?_ | refine SatL.pu (RunV.nil_yield rfl) rfl ?_
        first | refine SatL.pu (RunV.fieldAddrL rfl rfl rfl) rfl ?_ | refine SatL.pu (RunV.fieldAddr rfl rfl rfl) rfl ?_
        refine SatL.pu (RunV.load1 hS rfl rfl (by repeat constructor) rfl) rfl ?_
        first | refine SatL.pu (RunV.lenR (by assumption) rfl rfl) rfl ?_ | refine SatL.pu (RunV.lenS rfl rfl) rfl ?_
        refine SatL.pu (RunV.lss rfl rfl) rfl ?_
        refine SatL.nil (SatE.thenC ?_)
        refine SatC.cond rfl (fun h4 => ?_) (fun h4 => ?_)
        · (try simp only [cx, ne_eq] at h4)
          try (exfalso; (first | omega | exact h4 trivial | contradiction | (first | omega | (simp at h4; done))); done)
          all_goals
          refine SatC.skip (SatE.thenC ?_)
          refine SatC.seq ?_
          refine SatC.block ?_
          refine SatC.seq ?_
          refine SatC.seq ?_
          obtain ⟨y, hy⟩ := get_some l1 k (by omega)
          rw [List.drop_eq_getElem_cons (by omega : k < l1.length), show l1[k] = y from by rw [List.getElem?_eq_getElem (by omega)] at hy; exact Option.some.inj hy] at hacc
          refine SatC.region ?_
          refine SatL.pu (RunV.move rfl) rfl ?_
          refine SatL.pu (RunV.not rfl) rfl ?_
          refine SatL.pu (RunV.move rfl) rfl ?_
          refine SatL.guard rfl rfl rfl (fun h5 => ?_) (fun h5 => ?_)
          · (try simp only [cx, ne_eq] at h5)
            try (exfalso; (first | omega | exact h5 trivial | contradiction | (first | omega | (simp at h5; done))); done)
            all_goals
            refine SatL.pu (RunV.move rfl) rfl ?_
            refine SatL.guard_y rfl rfl ?_
            first | refine SatL.pu (RunV.nil_ptr rfl) rfl ?_ | refine SatL.pu (RunV.nil_func rfl) rfl ?_ | refine SatL.pu (RunV.nil_yield rfl) rfl ?_
            refine SatL.guard_y rfl rfl ?_
            first | refine SatL.pu (RunV.fieldAddrL rfl rfl rfl) rfl ?_ | refine SatL.pu (RunV.fieldAddr rfl rfl rfl) rfl ?_
            refine SatL.guard_y rfl rfl ?_
            refine SatL.pu (RunV.load1 hS rfl rfl (by repeat constructor) rfl) rfl ?_
            refine SatL.guard_y rfl rfl ?_
            refine SatL.pu (RunV.move rfl) rfl ?_
            refine SatL.guard_y rfl rfl ?_
            first | refine SatL.pu (RunV.indexR (by assumption) rfl rfl rfl (by omega) (by omega) rfl) rfl ?_ | refine SatL.pu (RunV.indexS rfl rfl rfl (by omega) (by omega) rfl) rfl ?_
            refine SatL.guard_y rfl rfl ?_
            first | refine SatL.pu (RunV.fieldAddrL rfl rfl rfl) rfl ?_ | refine SatL.pu (RunV.fieldAddr rfl rfl rfl) rfl ?_
            refine SatL.guard_y rfl rfl ?_
            refine SatL.pu (RunV.loadR1g k 0 (Sl.rd hsl1 hS (by repeat constructor)) rfl rfl (by omega) (map_get hy) rfl) rfl ?_
            refine SatL.guard_y rfl rfl ?_
            refine SatL.pu (RunV.move rfl) rfl ?_
            refine SatL.guard_y rfl rfl ?_
            refine SatL.pu (RunV.gtr rfl rfl) rfl ?_
            refine SatL.pu (RunV.pick_t rfl rfl) rfl ?_
            refine SatL.nil (SatE.thenC ?_)
            refine SatC.weak (e' := [(0, _), (1, _), (2, _), (6, _), (7, _), (8, _), (9, _), (55, _)]) (by repeat constructor) ?_
            refine SatC.cond rfl (fun h6 => ?_) (fun h6 => ?_)
            · (try simp only [cx, ne_eq] at h6)
              try (exfalso; (first | omega | exact h6 trivial | contradiction | (first | omega | (simp at h6; done))); done)
              all_goals
              refine SatC.seq ?_
              refine SatC.region ?_
              refine SatL.pu (RunV.move rfl) rfl ?_
              refine SatL.pu (RunV.move rfl) rfl ?_
              refine SatL.pu (RunV.move rfl) rfl ?_
              first | refine SatL.pu (RunV.nil_ptr rfl) rfl ?_ | refine SatL.pu (RunV.nil_func rfl) rfl ?_ | refine SatL.pu (RunV.nil_yield rfl) rfl ?_
              first | refine SatL.pu (RunV.fieldAddrL rfl rfl rfl) rfl ?_ | refine SatL.pu (RunV.fieldAddr rfl rfl rfl) rfl ?_
              refine SatL.pu (RunV.load1 hS rfl rfl (by repeat constructor) rfl) rfl ?_
              refine SatL.pu (RunV.move rfl) rfl ?_
              refine SatL.pu (RunV.cast (v' := .int .i64 ((now + nn : Nat) : Int)) (RunV.add rfl rfl (wrapI64 (by omega))) rfl) rfl ?_
              refine SatL.pu (RunV.build rfl (by simp [go_sem]; try rfl)) rfl ?_
              refine SatL.op rfl (OpW.buildSlice1 hS rfl rfl rfl rfl rfl (by repeat constructor) rfl rfl rfl ?_)
              clear hS
              intro b65 w4 _ hS
              refine SatL.op rfl (OpW.append1 hsa hS (by repeat constructor) rfl rfl (by repeat constructor) rfl rfl rfl rfl rfl rfl rfl rfl (by rw [List.length_map]; omega) rfl ?_)
              clear hS
              intro v66 B66 w5 hsl66 hS
              refine SatL.pu (RunV.assign rfl) rfl ?_
              refine SatL.nil (SatE.thenC ?_)
              refine SatC.weak (e' := [(0, _), (1, _), (2, _), (6, _), (7, _), (8, _), (9, _)]) (by repeat constructor) ?_
              refine SatC.region ?_
              refine SatL.pu (RunV.assign rfl) rfl ?_
              refine SatL.nil (SatE.thenC ?_)
              refine SatC.region ?_
              refine SatL.pu (RunV.move rfl) rfl ?_
              refine SatL.pu (RunV.move rfl) rfl ?_
              first | refine SatL.pu (RunV.nil_ptr rfl) rfl ?_ | refine SatL.pu (RunV.nil_func rfl) rfl ?_ | refine SatL.pu (RunV.nil_yield rfl) rfl ?_
              first | refine SatL.pu (RunV.fieldAddrL rfl rfl rfl) rfl ?_ | refine SatL.pu (RunV.fieldAddr rfl rfl rfl) rfl ?_
              refine SatL.pu (RunV.load1 hS rfl rfl (by repeat constructor) rfl) rfl ?_
              refine SatL.pu (RunV.move rfl) rfl ?_
              first | refine SatL.pu (RunV.indexR (by assumption) rfl rfl rfl (by omega) (by omega) rfl) rfl ?_ | refine SatL.pu (RunV.indexS rfl rfl rfl (by omega) (by omega) rfl) rfl ?_
              refine SatL.pu (RunV.loadRNz (Sl.rd hsl1 hS (by repeat constructor)) rfl rfl (map_get hy)) rfl ?_
              refine SatL.op rfl (OpW.buildSlice1 hS rfl rfl rfl rfl rfl (by repeat constructor) rfl rfl rfl ?_)
              clear hS
              intro b75 w6 _ hS
              refine SatL.op rfl (OpW.append1 hsl66 hS (by repeat constructor) rfl rfl (by repeat constructor) rfl rfl rfl rfl rfl rfl rfl rfl (by simp only [List.length_append, List.length_map, List.length_cons, List.length_nil]; omega) rfl ?_)
              clear hS
              intro v76 B76 w7 hsl76 hS
              refine SatL.pu (RunV.assign rfl) rfl ?_
              refine SatL.nil (SatE.blk_normal (SatE.thenC ?_))
              refine SatC.region ?_
              refine SatL.pu (RunV.move rfl) rfl ?_
              refine SatL.pu (RunV.add rfl rfl (by first | exact wrapI64 (by omega) | rfl)) rfl ?_
              refine SatL.pu (RunV.assign rfl) rfl ?_
              refine SatL.nil ?_
              first
              | (refine SatE.again (k + 1, acc ++ [(i, now + nn)] ++ [y], v76, B76, true) ⟨by omega, by rw [List.map_append, List.map_append]; exact hsl76, ?_, by simp only [List.length_append, List.length_cons, List.length_nil]; omega, hS.sel (by repeat constructor)⟩ (by dsimp only; omega) (by repeat constructor)
                 have el : laid = false := by assumption
                 subst el
                 rw [insP_gt (by assumption)] at hacc; simpa using hacc)
              | (refine SatE.again (k + 1, acc ++ [y], v76, B76, laid) ⟨by omega, by rw [List.map_append]; exact hsl76, ?_, by simp only [List.length_append, List.length_cons, List.length_nil]; omega, hS.sel (by repeat constructor)⟩ (by dsimp only; omega) (by repeat constructor)
                 rw [insP_lt (by first | exact .inl (by assumption) | exact .inr (by dsimp only; omega))] at hacc; simpa using hacc)
            · (try simp only [cx, ne_eq] at h6)
              try (exfalso; (first | omega | exact h6 trivial | contradiction | (first | omega | (simp at h6; done))); done)
              all_goals
              refine SatC.skip (SatE.thenC ?_)
              refine SatC.region ?_
              refine SatL.pu (RunV.move rfl) rfl ?_
              refine SatL.pu (RunV.move rfl) rfl ?_
              first | refine SatL.pu (RunV.nil_ptr rfl) rfl ?_ | refine SatL.pu (RunV.nil_func rfl) rfl ?_ | refine SatL.pu (RunV.nil_yield rfl) rfl ?_
              first | refine SatL.pu (RunV.fieldAddrL rfl rfl rfl) rfl ?_ | refine SatL.pu (RunV.fieldAddr rfl rfl rfl) rfl ?_
              refine SatL.pu (RunV.load1 hS rfl rfl (by repeat constructor) rfl) rfl ?_
              refine SatL.pu (RunV.move rfl) rfl ?_
              first | refine SatL.pu (RunV.indexR (by assumption) rfl rfl rfl (by omega) (by omega) rfl) rfl ?_ | refine SatL.pu (RunV.indexS rfl rfl rfl (by omega) (by omega) rfl) rfl ?_
              refine SatL.pu (RunV.loadRNz (Sl.rd hsl1 hS (by repeat constructor)) rfl rfl (map_get hy)) rfl ?_
              refine SatL.op rfl (OpW.buildSlice1 hS rfl rfl rfl rfl rfl (by repeat constructor) rfl rfl rfl ?_)
              clear hS
              intro b75 w4 _ hS
              refine SatL.op rfl (OpW.append1 hsa hS (by repeat constructor) rfl rfl (by repeat constructor) rfl rfl rfl rfl rfl rfl rfl rfl (by simp only [List.length_append, List.length_map, List.length_cons, List.length_nil]; omega) rfl ?_)
              clear hS
              intro v76 B76 w5 hsl76 hS
              refine SatL.pu (RunV.assign rfl) rfl ?_
              refine SatL.nil (SatE.blk_normal (SatE.thenC ?_))
              refine SatC.region ?_
              refine SatL.pu (RunV.move rfl) rfl ?_
              refine SatL.pu (RunV.add rfl rfl (by first | exact wrapI64 (by omega) | rfl)) rfl ?_
              refine SatL.pu (RunV.assign rfl) rfl ?_
              refine SatL.nil ?_
              first
              | (refine SatE.again (k + 1, acc ++ [(i, now + nn)] ++ [y], v76, B76, true) ⟨by omega, by rw [List.map_append, List.map_append]; exact hsl76, ?_, by simp only [List.length_append, List.length_cons, List.length_nil]; omega, hS.sel (by repeat constructor)⟩ (by dsimp only; omega) (by repeat constructor)
                 have el : laid = false := by assumption
                 subst el
                 rw [insP_gt (by assumption)] at hacc; simpa using hacc)
              | (refine SatE.again (k + 1, acc ++ [y], v76, B76, laid) ⟨by omega, by rw [List.map_append]; exact hsl76, ?_, by simp only [List.length_append, List.length_cons, List.length_nil]; omega, hS.sel (by repeat constructor)⟩ (by dsimp only; omega) (by repeat constructor)
                 rw [insP_lt (by first | exact .inl (by assumption) | exact .inr (by dsimp only; omega))] at hacc; simpa using hacc)
          · (try simp only [cx, ne_eq] at h5)
            try (exfalso; (first | omega | exact h5 trivial | contradiction | (first | omega | (simp at h5; done))); done)
            all_goals
            refine SatL.guard_n rfl rfl rfl rfl ?_
            refine SatL.guard_n rfl rfl rfl rfl ?_
            refine SatL.guard_n rfl rfl rfl rfl ?_
            refine SatL.guard_n rfl rfl rfl rfl ?_
            refine SatL.guard_n rfl rfl rfl rfl ?_
            refine SatL.guard_n rfl rfl rfl rfl ?_
            refine SatL.guard_n rfl rfl rfl rfl ?_
            refine SatL.guard_n rfl rfl rfl rfl ?_
            refine SatL.guard_n rfl rfl rfl rfl ?_
            refine SatL.pu (RunV.pick_f rfl rfl) rfl ?_
            refine SatL.nil (SatE.thenC ?_)
            refine SatC.weak (e' := [(0, _), (1, _), (2, _), (6, _), (7, _), (8, _), (9, _), (55, _)]) (by repeat constructor) ?_
            refine SatC.cond_f rfl ?_
            refine SatC.skip (SatE.thenC ?_)
            refine SatC.region ?_
            refine SatL.pu (RunV.move rfl) rfl ?_
            refine SatL.pu (RunV.move rfl) rfl ?_
            first | refine SatL.pu (RunV.nil_ptr rfl) rfl ?_ | refine SatL.pu (RunV.nil_func rfl) rfl ?_ | refine SatL.pu (RunV.nil_yield rfl) rfl ?_
            first | refine SatL.pu (RunV.fieldAddrL rfl rfl rfl) rfl ?_ | refine SatL.pu (RunV.fieldAddr rfl rfl rfl) rfl ?_
            refine SatL.pu (RunV.load1 hS rfl rfl (by repeat constructor) rfl) rfl ?_
            refine SatL.pu (RunV.move rfl) rfl ?_
            first | refine SatL.pu (RunV.indexR (by assumption) rfl rfl rfl (by omega) (by omega) rfl) rfl ?_ | refine SatL.pu (RunV.indexS rfl rfl rfl (by omega) (by omega) rfl) rfl ?_
            refine SatL.pu (RunV.loadRNz (Sl.rd hsl1 hS (by repeat constructor)) rfl rfl (map_get hy)) rfl ?_
            refine SatL.op rfl (OpW.buildSlice1 hS rfl rfl rfl rfl rfl (by repeat constructor) rfl rfl rfl ?_)
            clear hS
            intro b75 w4 _ hS
            refine SatL.op rfl (OpW.append1 hsa hS (by repeat constructor) rfl rfl (by repeat constructor) rfl rfl rfl rfl rfl rfl rfl rfl (by simp only [List.length_append, List.length_map, List.length_cons, List.length_nil]; omega) rfl ?_)
            clear hS
            intro v76 B76 w5 hsl76 hS
            refine SatL.pu (RunV.assign rfl) rfl ?_
            refine SatL.nil (SatE.blk_normal (SatE.thenC ?_))
            refine SatC.region ?_
            refine SatL.pu (RunV.move rfl) rfl ?_
            refine SatL.pu (RunV.add rfl rfl (by first | exact wrapI64 (by omega) | rfl)) rfl ?_
            refine SatL.pu (RunV.assign rfl) rfl ?_
            refine SatL.nil ?_
            first
            | (refine SatE.again (k + 1, acc ++ [(i, now + nn)] ++ [y], v76, B76, true) ⟨by omega, by rw [List.map_append, List.map_append]; exact hsl76, ?_, by simp only [List.length_append, List.length_cons, List.length_nil]; omega, hS.sel (by repeat constructor)⟩ (by dsimp only; omega) (by repeat constructor)
               have el : laid = false := by assumption
               subst el
               rw [insP_gt (by assumption)] at hacc; simpa using hacc)
            | (refine SatE.again (k + 1, acc ++ [y], v76, B76, laid) ⟨by omega, by rw [List.map_append]; exact hsl76, ?_, by simp only [List.length_append, List.length_cons, List.length_nil]; omega, hS.sel (by repeat constructor)⟩ (by dsimp only; omega) (by repeat constructor)
               rw [insP_lt (by first | exact .inl (by assumption) | exact .inr (by dsimp only; omega))] at hacc; simpa using hacc)
        · (try simp only [cx, ne_eq] at h4)
          try (exfalso; (first | omega | exact h4 trivial | contradiction | (first | omega | (simp at h4; done))); done)
          all_goals
          refine SatC.exit (SatE.then_exit (SatE.then_exit (SatE.blk_exit (SatE.thenC ?_))))
          refine SatC.merge (G := Value × List (Nat × Obj)) (V := fun ⟨vz, Bz⟩ => [(7, vz)]) (Cn := [(0, _), (6, _)]) (I := fun ⟨vz, Bz⟩ w' => Sl 64 2 vz ((insP (i, now + nn) false l1).map pw) Bz ∧ St w X (Bz ++ RO b now v1 B1) w') (by repeat constructor) ?_ ?_
          · skip
            refine SatC.seq ?_
            rw [List.drop_of_length_le (by omega)] at hacc
            refine SatC.region ?_
            refine SatL.pu (RunV.move rfl) rfl ?_
            refine SatL.pu (RunV.not rfl) rfl ?_
            refine SatL.nil (SatE.thenC ?_)
            refine SatC.cond rfl (fun h5 => ?_) (fun h5 => ?_)
            · (try simp only [cx, ne_eq] at h5)
              try (exfalso; (first | omega | exact h5 trivial | contradiction | (first | omega | (simp at h5; done))); done)
              all_goals
              refine SatC.region ?_
              refine SatL.pu (RunV.move rfl) rfl ?_
              refine SatL.pu (RunV.move rfl) rfl ?_
              refine SatL.pu (RunV.move rfl) rfl ?_
              first | refine SatL.pu (RunV.nil_ptr rfl) rfl ?_ | refine SatL.pu (RunV.nil_func rfl) rfl ?_ | refine SatL.pu (RunV.nil_yield rfl) rfl ?_
              first | refine SatL.pu (RunV.fieldAddrL rfl rfl rfl) rfl ?_ | refine SatL.pu (RunV.fieldAddr rfl rfl rfl) rfl ?_
              refine SatL.pu (RunV.load1 hS rfl rfl (by repeat constructor) rfl) rfl ?_
              refine SatL.pu (RunV.move rfl) rfl ?_
              refine SatL.pu (RunV.cast (v' := .int .i64 ((now + nn : Nat) : Int)) (RunV.add rfl rfl (wrapI64 (by omega))) rfl) rfl ?_
              refine SatL.pu (RunV.build rfl (by simp [go_sem]; try rfl)) rfl ?_
              refine SatL.op rfl (OpW.buildSlice1 hS rfl rfl rfl rfl rfl (by repeat constructor) rfl rfl rfl ?_)
              clear hS
              intro b88 w4 _ hS
              refine SatL.op rfl (OpW.append1 hsa hS (by repeat constructor) rfl rfl (by repeat constructor) rfl rfl rfl rfl rfl rfl rfl rfl (by simp only [List.length_append, List.length_map, List.length_cons, List.length_nil]; omega) rfl ?_)
              clear hS
              intro v76 B76 w5 hsl76 hS
              refine SatL.pu (RunV.assign rfl) rfl ?_
              refine SatL.nil ?_
              refine SatE.met ((v76, B76)) ?_ (by repeat constructor)
              refine ⟨?_, hS.sel (by repeat constructor)⟩
              rw [← hacc, show laid = false from by assumption, show insP (i, now + nn) false [] = [(i, now + nn)] from rfl, List.map_append]
              exact hsl76
            · (try simp only [cx, ne_eq] at h5)
              try (exfalso; (first | omega | exact h5 trivial | contradiction | (first | omega | (simp at h5; done))); done)
              all_goals
              refine SatC.skip ?_
              refine SatE.met ((va, Ba)) ?_ (by repeat constructor)
              refine ⟨?_, hS.sel (by repeat constructor)⟩
              rw [← hacc, show laid = true from by assumption, show insP (i, now + nn) true [] = [] from rfl, List.append_nil]
              exact hsa
          · clear hS
            rintro ⟨vz, Bz⟩ w64 ⟨hsz, hS⟩
            refine SatC.weak (e' := [(0, _), (6, _), (7, _)]) (by repeat constructor) ?_
            refine SatC.seq ?_
            refine SatC.region ?_
            refine SatL.pu (RunV.move rfl) rfl ?_
            refine SatL.pu (RunV.move rfl) rfl ?_
            first | refine SatL.pu (RunV.nil_ptr rfl) rfl ?_ | refine SatL.pu (RunV.nil_func rfl) rfl ?_ | refine SatL.pu (RunV.nil_yield rfl) rfl ?_
            first | refine SatL.pu (RunV.fieldAddrL rfl rfl rfl) rfl ?_ | refine SatL.pu (RunV.fieldAddr rfl rfl rfl) rfl ?_
            refine SatL.op rfl (OpW.storeAt (T := 39) (cs := [.int .i64 (now : Int), v1]) (cs' := [.int .i64 (now : Int), vz]) hS rfl rfl (by show _ < 2; decide) rfl (by repeat constructor) rfl hsz.one ?_)
            clear hS
            intro w65 hS
            refine SatL.nil (SatE.thenC ?_)
            refine SatC.seq ?_
            refine SatC.region ?_
            refine SatL.pu (RunV.assign rfl) rfl ?_
            refine SatL.nil (SatE.thenC ?_)
            refine SatC.ret ?_
            refine SatE.ret1 rfl rfl ?_
            first
            | exact ⟨by rw [decide_eq_true hok], vz, Bz, by rw [hrs]; exact hsz, hS.sel (by repeat constructor)⟩
            | (have hno : ¬ rokP l i n := by (rintro ⟨h1, h2, h3⟩; (first | omega | (rcases h3 with h3 | h3 <;> first | omega | (simp_all; done))))
               exact ⟨by rw [decide_eq_false hno], v, B, by unfold rsetP; rw [if_neg hno]; exact hsl, hS.sel (by repeat constructor)⟩)
    · (try simp only [cx, ne_eq] at h2)
      try (exfalso; (first | omega | exact h2 trivial | contradiction | (first | omega | (simp at h2; done))); done)
      all_goals
      refine SatL.guard_n rfl rfl rfl rfl ?_
      refine SatL.guard_n rfl rfl rfl rfl ?_
      refine SatL.guard_n rfl rfl rfl rfl ?_
      refine SatL.guard_n rfl rfl rfl rfl ?_
      refine SatL.guard_u rfl rfl rfl ?_
      refine SatL.guard_u rfl rfl rfl ?_
      refine SatL.guard_u rfl rfl rfl ?_
      refine SatL.guard_u rfl rfl rfl ?_
      refine SatL.guard_u rfl rfl rfl ?_
      refine SatL.guard_u rfl rfl rfl ?_
      refine SatL.guard_n rfl rfl rfl rfl ?_
      refine SatL.pu (RunV.pick_t rfl rfl) rfl ?_
      refine SatL.nil (SatE.thenC ?_)
      refine SatC.weak (e' := [(0, _), (1, _), (2, _), (6, _), (29, _)]) (by repeat constructor) ?_
      refine SatC.cond_t rfl ?_
      refine SatC.seq ?_
      refine SatC.region ?_
      refine SatL.pu (RunV.assign rfl) rfl ?_
      refine SatL.nil (SatE.thenC ?_)
      refine SatC.ret (SatE.then_ret ?_)
      refine SatE.ret1 rfl rfl ?_
      first
      | exact ⟨by rw [decide_eq_true hok], vz, Bz, by rw [hrs]; exact hsz, hS.sel (by repeat constructor)⟩
      | (have hno : ¬ rokP l i n := by (rintro ⟨h1, h2, h3⟩; (first | omega | (rcases h3 with h3 | h3 <;> first | omega | (simp_all; done))))
         exact ⟨by rw [decide_eq_false hno], v, B, by unfold rsetP; rw [if_neg hno]; exact hsl, hS.sel (by repeat constructor)⟩)
  · (try simp only [cx, ne_eq] at h1)
    try (exfalso; (first | omega | exact h1 trivial | contradiction | (first | omega | (simp at h1; done))); done)
    all_goals
    refine SatL.guard_n rfl rfl rfl rfl ?_
    refine SatL.pu (RunV.pick_t rfl rfl) rfl ?_
    refine SatL.pu (RunV.move rfl) rfl ?_
    refine SatL.guard_n rfl rfl rfl rfl ?_
    refine SatL.guard_n rfl rfl rfl rfl ?_
    refine SatL.guard_n rfl rfl rfl rfl ?_
    refine SatL.guard_n rfl rfl rfl rfl ?_
    refine SatL.guard_n rfl rfl rfl rfl ?_
    refine SatL.guard_u rfl rfl rfl ?_
    refine SatL.guard_u rfl rfl rfl ?_
    refine SatL.guard_u rfl rfl rfl ?_
    refine SatL.guard_u rfl rfl rfl ?_
    refine SatL.guard_u rfl rfl rfl ?_
    refine SatL.guard_u rfl rfl rfl ?_
    refine SatL.guard_n rfl rfl rfl rfl ?_
    refine SatL.pu (RunV.pick_t rfl rfl) rfl ?_
    refine SatL.nil (SatE.thenC ?_)
    refine SatC.weak (e' := [(0, _), (1, _), (2, _), (6, _), (29, _)]) (by repeat constructor) ?_
    refine SatC.cond_t rfl ?_
    refine SatC.seq ?_
    refine SatC.region ?_
    refine SatL.pu (RunV.assign rfl) rfl ?_
    refine SatL.nil (SatE.thenC ?_)
    refine SatC.ret (SatE.then_ret ?_)
    refine SatE.ret1 rfl rfl ?_
    first
    | exact ⟨by rw [decide_eq_true hok], vz, Bz, by rw [hrs]; exact hsz, hS.sel (by repeat constructor)⟩
    | (have hno : ¬ rokP l i n := by (rintro ⟨h1, h2, h3⟩; (first | omega | (rcases h3 with h3 | h3 <;> first | omega | (simp_all; done))))
       exact ⟨by rw [decide_eq_false hno], v, B, by unfold rsetP; rw [if_neg hno]; exact hsl, hS.sel (by repeat constructor)⟩)
end
end Go.Proofs.Ytabladeenemfoaa
