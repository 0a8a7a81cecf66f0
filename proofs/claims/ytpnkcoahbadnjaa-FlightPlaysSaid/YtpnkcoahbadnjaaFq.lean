/- The document's flight: taking out, copying, losing. -/
import Derived.Test.YtpnkcoahbadnjaaFr
import Derived.Test.YtpnkcoahbadnjaaK27
set_option linter.unusedSimpArgs false
set_option linter.unusedVariables false
set_option maxRecDepth 100000
set_option maxHeartbeats 4000000
namespace Go.Proofs.Ytpnkcoahbadnjaa
open Go.RowKit
theorem erase_ne {l : List Fl} {j k : Nat} {y : Fl} (hy : l[j]? = some y) (h : j ≠ k) : (l.take (j + 1)).eraseIdx k = (l.take j).eraseIdx k ++ [y] := by
  have hj : j < l.length := (List.getElem?_eq_some_iff.1 hy).1
  have hlt : (l.take j).length = j := by rw [List.length_take]; omega
  rw [List.take_add_one, hy]
  simp only [Option.toList_some]
  by_cases hk : k < j
  · rw [List.eraseIdx_append_of_lt_length (by omega)]
  · rw [List.eraseIdx_append_of_length_le (by omega), hlt, List.eraseIdx_of_length_le (l := l.take j) (by omega), List.eraseIdx_of_length_le (by simp; omega)]
theorem erase_eq {l : List Fl} {j : Nat} : (l.take (j + 1)).eraseIdx j = (l.take j).eraseIdx j := by
  by_cases hj : j < l.length
  · have hlt : (l.take j).length = j := by rw [List.length_take]; omega
    rw [List.take_add_one, List.getElem?_eq_getElem hj]
    simp only [Option.toList_some]
    rw [List.eraseIdx_append_of_length_le (by omega), hlt, Nat.sub_self, List.eraseIdx_of_length_le (l := l.take j) (by omega)]
    simp
  · rw [List.take_of_length_le (by omega), List.take_of_length_le (by omega)]
section
variable {b : Nat} {v : Value} {most given : Int} {B : List (Nat × Obj)} {l : List Fl} {w : World}
theorem rout_nil (k : Int) (he : l = []) (hl : l.length ≤ 100000) (hsl : Sl 32 4 v (l.map fr) B) (hown : Own w (RO b v most given B)) :
    Ret Try.prog 29 #[.pointer (some ⟨b, 0, none⟩), .int .i64 k] w fun u w' => u = .tuple #[.agg (fr zf).toArray, .bool false] ∧ St w ((RO b v most given B).map Prod.fst) (RO b v most given B) w' := by
  have hS := St.init hown
  generalize hX : (RO b v most given B).map Prod.fst = X at hS ⊢
  refine Ret.enter Try.func29 Try.ntmps29 rfl rfl ?_
  simp only [argEnv, Nat.reduceAdd]
  refine SatC.seq ?_
  refine SatC.region ?_
  refine SatL.op rfl (OpW.alloc hS rfl rfl (by repeat constructor) ?_)
  clear hS
  intro b4 w1 _ hS
  refine SatL.pu (RunV.assign rfl) rfl ?_
  refine SatL.nil (SatE.thenC ?_)
  refine SatC.seq ?_
  refine SatC.region ?_
  refine SatL.pu (RunV.move rfl) rfl ?_
  refine SatL.pu (RunV.move rfl) rfl ?_
  refine SatL.op rfl (OpW.enter rfl rfl rfl (rfl) (rpick_any k hl hsl (hS.ownT (A := RO b v most given B) (by repeat constructor))) ?_)
  rintro r2 w2 ⟨rfl, h⟩
  replace hS := St.callN hS h
  rw [if_pos he]
  refine SatL.pu (RunV.assign rfl) rfl ?_
  refine SatL.nil (SatE.thenC ?_)
  refine SatC.seq ?_
  refine SatC.seq ?_
  refine SatC.region ?_
  refine SatL.pu (RunV.move rfl) rfl ?_
  refine SatL.pu (RunV.lss rfl rfl) rfl ?_
  refine SatL.nil (SatE.thenC ?_)
  refine SatC.cond rfl (fun h1 => ?_) (fun h1 => ?_)
  · (try simp only [cx, ne_eq] at h1)
    try (exfalso; (first | omega | exact h1 trivial | contradiction | (simp at h1; done)); done)
    all_goals
    refine SatC.seq ?_
    refine SatC.region ?_
    refine SatL.pu (RunV.build rfl (by simp [go_sem]; try rfl)) rfl ?_
    refine SatL.op rfl (OpW.store hS rfl rfl (by repeat constructor) (by repeat constructor) (by repeat constructor) rfl rfl ?_)
    clear hS
    intro w3 hS
    refine SatL.pu (RunV.assign rfl) rfl ?_
    refine SatL.nil (SatE.thenC ?_)
    refine SatC.ret (SatE.then_ret ?_)
    refine SatE.retG2 hS rfl (.cellN rfl rfl (by repeat constructor) (by repeat constructor)) (.tmp rfl) ?_
    exact ⟨rfl, hS.sel (by repeat constructor)⟩
  · (try simp only [cx, ne_eq] at h1)
    try (exfalso; (first | omega | exact h1 trivial | contradiction | (simp at h1; done)); done)
    all_goals
    refine SatC.skip (SatE.thenC ?_)
    refine SatC.seq ?_
    refine SatC.region ?_
    refine SatL.pu (RunV.assign rfl) rfl ?_
    refine SatL.nil (SatE.thenC ?_)
    refine SatC.seq ?_
    refine SatC.seq ?_
    refine SatC.region ?_
    refine SatL.pu (RunV.assign rfl) rfl ?_
    refine SatL.nil (SatE.thenC ?_)
    refine SatC.block ?_
    -- LOOP 1: turn [7, 8], stay [0, 4, 5, 6]
    -- STOP loop 1
    trace_state
    sorry
theorem rout_one (k : Int) (x : Fl) (he : ¬ l = []) (hx : outX l k = some x) (hp : pickF l.length k = ((pk l k : Nat) : Int)) (hl : l.length ≤ 100000) (hvb : VB l) (hsl : Sl 32 4 v (l.map fr) B) (hown : Own w (RO b v most given B)) :
    Ret Try.prog 29 #[.pointer (some ⟨b, 0, none⟩), .int .i64 k] w fun u w' => u = .tuple #[.agg (fr x).toArray, .bool true] ∧ ∃ v' B', Sl 32 4 v' ((outL l k).map fr) B' ∧ St w ((RO b v most given B).map Prod.fst) (RO b v' most given B') w' := by
  have hS := St.init hown
  obtain ⟨_, _, _, hxv⟩ := hvb x (List.mem_of_getElem? hx)
  have hx1 := slv_one hxv
  have hk : pk l k < l.length := (List.getElem?_eq_some_iff.1 hx).1
  have hy : l[((pk l k : Nat) : Int).toNat]? = some x := by rw [Int.toNat_natCast]; exact hx
  obtain ⟨c0, hv0⟩ := hsl.slv
  simp only [List.length_map] at hv0
  generalize hX : (RO b v most given B).map Prod.fst = X at hS ⊢
  refine Ret.enter Try.func29 Try.ntmps29 rfl rfl ?_
  simp only [argEnv, Nat.reduceAdd]
  refine SatC.seq ?_
  refine SatC.region ?_
  refine SatL.op rfl (OpW.alloc hS rfl rfl (by repeat constructor) ?_)
  clear hS
  intro b4 w1 _ hS
  refine SatL.pu (RunV.assign rfl) rfl ?_
  refine SatL.nil (SatE.thenC ?_)
  refine SatC.seq ?_
  refine SatC.region ?_
  refine SatL.pu (RunV.move rfl) rfl ?_
  refine SatL.pu (RunV.move rfl) rfl ?_
  refine SatL.op rfl (OpW.enter rfl rfl rfl (rfl) (rpick_any k hl hsl (hS.ownT (A := RO b v most given B) (by repeat constructor))) ?_)
  rintro r2 w2 ⟨rfl, h⟩
  replace hS := St.callN hS h
  rw [if_neg he, hp]
  refine SatL.pu (RunV.assign rfl) rfl ?_
  refine SatL.nil (SatE.thenC ?_)
  refine SatC.seq ?_
  refine SatC.seq ?_
  refine SatC.region ?_
  refine SatL.pu (RunV.move rfl) rfl ?_
  refine SatL.pu (RunV.lss rfl rfl) rfl ?_
  refine SatL.nil (SatE.thenC ?_)
  refine SatC.cond rfl (fun h1 => ?_) (fun h1 => ?_)
  · (try simp only [cx, ne_eq] at h1)
    try (exfalso; (first | omega | exact h1 trivial | contradiction | (simp at h1; done)); done)
    all_goals
    refine SatC.seq ?_
    refine SatC.region ?_
    refine SatL.pu (RunV.build rfl (by simp [go_sem]; try rfl)) rfl ?_
    refine SatL.op rfl (OpW.store hS rfl rfl (by repeat constructor) (by repeat constructor) (by repeat constructor) rfl (by simp only [List.all_cons, List.all_nil, hx1, Bool.and_true]; rfl) ?_)
    clear hS
    intro w3 hS
    refine SatL.pu (RunV.assign rfl) rfl ?_
    refine SatL.nil (SatE.thenC ?_)
    refine SatC.ret (SatE.then_ret ?_)
    refine SatE.retG2 hS rfl (.cellN rfl rfl (by repeat constructor) (by repeat constructor)) (.tmp rfl) ?_
    exact ⟨rfl, v2, B2, hsl2, hS.sel (by repeat constructor)⟩
  · (try simp only [cx, ne_eq] at h1)
    try (exfalso; (first | omega | exact h1 trivial | contradiction | (simp at h1; done)); done)
    all_goals
    refine SatC.skip (SatE.thenC ?_)
    refine SatC.seq ?_
    refine SatC.region ?_
    refine SatL.pu (RunV.assign rfl) rfl ?_
    refine SatL.nil (SatE.thenC ?_)
    refine SatC.seq ?_
    refine SatC.seq ?_
    refine SatC.region ?_
    refine SatL.pu (RunV.assign rfl) rfl ?_
    refine SatL.nil (SatE.thenC ?_)
    refine SatC.block ?_
    refine SatC.loopK (G := Nat × Value × List (Nat × Obj)) (V := fun ⟨i, v2, B2⟩ => [(8, .int .i64 (i : Int)), (7, v2)]) (Cn := [(0, _), (4, _), (5, _), (6, _)]) (I := fun ⟨i, v2, B2⟩ w' => i ≤ l.length ∧ Sl 32 4 v2 (((l.take i).eraseIdx (pk l k)).map fr) B2 ∧ St w X (B2 ++ (b4, C 32 [.int .i64 0, .int .i64 0, .int .i64 0, .slice none 0 0]) :: RO b v most given B) w') (μ := fun ⟨i, v2, B2⟩ => l.length - i) (0, .slice none 0 0, []) ?_ (by repeat constructor) ?_
    · exact ⟨Nat.zero_le _, .nil, hS.sel (by repeat constructor)⟩
    clear hS
    rintro ⟨i, v2, B2⟩ w3 ⟨hi, hsl2, hS⟩
    refine SatC.weak (e' := [(0, _), (4, _), (5, _), (6, _), (7, _), (8, _)]) (by repeat constructor) ?_
    refine SatC.seq ?_
    refine SatC.seq ?_
    refine SatC.region ?_
    refine SatL.pu (RunV.move rfl) rfl ?_
    refine SatL.pu (RunV.move rfl) rfl ?_
    first | refine SatL.pu (RunV.nil_ptr rfl) rfl ?_ | refine SatL.pu (RunV.nil_func rfl) rfl ?_ | refine SatL.pu (RunV.nil_yield rfl) rfl ?_
    first | refine SatL.pu (RunV.fieldAddrL rfl rfl rfl) rfl ?_ | refine SatL.pu (RunV.fieldAddr rfl rfl rfl) rfl ?_
    refine SatL.pu (RunV.load1 hS rfl rfl (by repeat constructor) rfl) rfl ?_
    first | refine SatL.pu (RunV.lenR (by assumption) rfl rfl) rfl ?_ | refine SatL.pu (RunV.lenS rfl rfl) rfl ?_
    refine SatL.pu (RunV.lss rfl rfl) rfl ?_
    refine SatL.nil (SatE.thenC ?_)
    refine SatC.cond rfl (fun h2 => ?_) (fun h2 => ?_)
    · (try simp only [cx, ne_eq] at h2)
      try (exfalso; (first | omega | exact h2 trivial | contradiction | (simp at h2; done)); done)
      all_goals
      refine SatC.skip (SatE.thenC ?_)
      refine SatC.seq ?_
      refine SatC.block ?_
      refine SatC.seq ?_
      obtain ⟨y, hyi⟩ := get_some l i (by omega)
      obtain ⟨_, _, _, hyv⟩ := hvb y (List.mem_of_getElem? hyi)
      have hy1 := slv_one hyv
      have hlt : ((l.take i).eraseIdx (pk l k)).length ≤ i := Nat.le_trans (List.eraseIdx_sublist ..).length_le (by rw [List.length_take]; omega)
      refine SatC.region ?_
      refine SatL.pu (RunV.move rfl) rfl ?_
      refine SatL.pu (RunV.move rfl) rfl ?_
      refine SatL.pu (RunV.neq rfl rfl) rfl ?_
      refine SatL.nil (SatE.thenC ?_)
      refine SatC.cond rfl (fun h3 => ?_) (fun h3 => ?_)
      · (try simp only [cx, ne_eq] at h3)
        try (exfalso; (first | omega | exact h3 trivial | contradiction | (simp at h3; done)); done)
        all_goals
        refine SatC.region ?_
        refine SatL.pu (RunV.move rfl) rfl ?_
        refine SatL.pu (RunV.move rfl) rfl ?_
        first | refine SatL.pu (RunV.nil_ptr rfl) rfl ?_ | refine SatL.pu (RunV.nil_func rfl) rfl ?_ | refine SatL.pu (RunV.nil_yield rfl) rfl ?_
        first | refine SatL.pu (RunV.fieldAddrL rfl rfl rfl) rfl ?_ | refine SatL.pu (RunV.fieldAddr rfl rfl rfl) rfl ?_
        refine SatL.pu (RunV.load1 hS rfl rfl (by repeat constructor) rfl) rfl ?_
        refine SatL.pu (RunV.move rfl) rfl ?_
        first | refine SatL.pu (RunV.indexR (by assumption) rfl rfl rfl (by omega) (by omega) rfl) rfl ?_ | refine SatL.pu (RunV.indexS rfl rfl rfl (by omega) (by omega) rfl) rfl ?_
        first | refine SatL.pu (RunV.loadRNz (RdC.st (by assumption) hS List.not_mem_nil) rfl rfl (by first | assumption | exact map_get (by assumption))) rfl ?_ | refine SatL.pu (RunV.loadRNz (Sl.rd (by assumption) hS (by repeat constructor)) rfl rfl (by first | assumption | exact map_get (by assumption))) rfl ?_
        refine SatL.op rfl (OpW.buildSlice1 hS rfl rfl rfl rfl rfl (by repeat constructor) rfl rfl rfl ?_)
        clear hS
        intro b36 w4 _ hS
        refine SatL.op rfl (OpW.append1 hsl2 hS (by repeat constructor) rfl rfl (by repeat constructor) rfl rfl rfl rfl rfl rfl rfl (by simp only [List.all_cons, List.all_nil, hy1, Bool.and_true]; rfl) (by rw [List.length_map]; omega) rfl ?_)
        clear hS
        intro v37 B37 w5 hsl37 hS
        refine SatL.pu (RunV.assign rfl) rfl ?_
        refine SatL.nil (SatE.blk_normal (SatE.thenC ?_))
        refine SatC.weak (e' := [(0, _), (4, _), (5, _), (6, _), (7, _), (8, _)]) (by repeat constructor) ?_
        refine SatC.region ?_
        refine SatL.pu (RunV.move rfl) rfl ?_
        refine SatL.pu (RunV.add rfl rfl (by first | exact wrapI64 (by omega) | rfl)) rfl ?_
        refine SatL.pu (RunV.assign rfl) rfl ?_
        refine SatL.nil ?_
        first
        | exact SatE.again (i + 1, v37, B37) ⟨by omega, by rw [erase_ne hyi (by omega), List.map_append]; exact hsl37, hS.sel (by repeat constructor)⟩ (by dsimp only; omega) (by repeat constructor)
        | (have e : i = pk l k := by omega
           subst e
           exact SatE.again (pk l k + 1, v2, B2) ⟨by omega, by rw [erase_eq]; exact hsl2, hS.sel (by repeat constructor)⟩ (by dsimp only; omega) (by repeat constructor))
      · (try simp only [cx, ne_eq] at h3)
        try (exfalso; (first | omega | exact h3 trivial | contradiction | (simp at h3; done)); done)
        all_goals
        refine SatC.skip (SatE.blk_normal (SatE.thenC ?_))
        refine SatC.region ?_
        refine SatL.pu (RunV.move rfl) rfl ?_
        refine SatL.pu (RunV.add rfl rfl (by first | exact wrapI64 (by omega) | rfl)) rfl ?_
        refine SatL.pu (RunV.assign rfl) rfl ?_
        refine SatL.nil ?_
        first
        | exact SatE.again (i + 1, v37, B37) ⟨by omega, by rw [erase_ne hyi (by omega), List.map_append]; exact hsl37, hS.sel (by repeat constructor)⟩ (by dsimp only; omega) (by repeat constructor)
        | (have e : i = pk l k := by omega
           subst e
           exact SatE.again (pk l k + 1, v2, B2) ⟨by omega, by rw [erase_eq]; exact hsl2, hS.sel (by repeat constructor)⟩ (by dsimp only; omega) (by repeat constructor))
    · (try simp only [cx, ne_eq] at h2)
      try (exfalso; (first | omega | exact h2 trivial | contradiction | (simp at h2; done)); done)
      all_goals
      refine SatC.exit (SatE.then_exit (SatE.then_exit (SatE.blk_exit (SatE.thenC ?_))))
      refine SatC.seq ?_
      rw [List.take_of_length_le (by omega)] at hsl2
      refine SatC.region ?_
      refine SatL.pu (RunV.move rfl) rfl ?_
      first | refine SatL.pu (RunV.nil_ptr rfl) rfl ?_ | refine SatL.pu (RunV.nil_func rfl) rfl ?_ | refine SatL.pu (RunV.nil_yield rfl) rfl ?_
      first | refine SatL.pu (RunV.fieldAddrL rfl rfl rfl) rfl ?_ | refine SatL.pu (RunV.fieldAddr rfl rfl rfl) rfl ?_
      refine SatL.pu (RunV.load1 hS rfl rfl (by repeat constructor) rfl) rfl ?_
      refine SatL.pu (RunV.move rfl) rfl ?_
      first | refine SatL.pu (RunV.indexR (by assumption) rfl rfl rfl (by omega) (by omega) rfl) rfl ?_ | refine SatL.pu (RunV.indexS rfl rfl rfl (by omega) (by omega) rfl) rfl ?_
      first | refine SatL.pu (RunV.loadRNz (RdC.st (by assumption) hS List.not_mem_nil) rfl rfl (by first | assumption | exact map_get (by assumption))) rfl ?_ | refine SatL.pu (RunV.loadRNz (Sl.rd (by assumption) hS (by repeat constructor)) rfl rfl (by first | assumption | exact map_get (by assumption))) rfl ?_
      refine SatL.op rfl (OpW.alloc hS rfl rfl (by repeat constructor) ?_)
      clear hS
      intro b9 w4 _ hS
      refine SatL.op rfl (OpW.store hS rfl rfl (by repeat constructor) (by repeat constructor) (by repeat constructor) rfl (by simp only [List.all_cons, List.all_nil, hx1, Bool.and_true]; rfl) ?_)
      clear hS
      intro w5 hS
      refine SatL.nil (SatE.thenC ?_)
      refine SatC.seq ?_
      refine SatC.weak (e' := [(0, _), (4, _), (5, _), (7, _), (9, _)]) (by repeat constructor) ?_
      refine SatC.region ?_
      refine SatL.pu (RunV.move rfl) rfl ?_
      refine SatL.pu (RunV.move rfl) rfl ?_
      first | refine SatL.pu (RunV.nil_ptr rfl) rfl ?_ | refine SatL.pu (RunV.nil_func rfl) rfl ?_ | refine SatL.pu (RunV.nil_yield rfl) rfl ?_
      first | refine SatL.pu (RunV.fieldAddrL rfl rfl rfl) rfl ?_ | refine SatL.pu (RunV.fieldAddr rfl rfl rfl) rfl ?_
      refine SatL.op rfl (OpW.storeSv hS rfl rfl (by assumption) (by repeat constructor) (by repeat constructor) rfl ?_)
      clear hS
      intro w6 hS
      refine SatL.nil (SatE.thenC ?_)
      refine SatC.seq ?_
      refine SatC.region ?_
      refine SatL.pu (RunV.loadN hS rfl rfl (by repeat constructor) (by repeat constructor)) rfl ?_
      refine SatL.op rfl (OpW.store hS rfl rfl (by repeat constructor) (by repeat constructor) (by repeat constructor) rfl (by simp only [List.all_cons, List.all_nil, hx1, Bool.and_true]; rfl) ?_)
      clear hS
      intro w7 hS
      refine SatL.pu (RunV.assign rfl) rfl ?_
      refine SatL.nil (SatE.thenC ?_)
      refine SatC.ret ?_
      refine SatE.retG2 hS rfl (.cellN rfl rfl (by repeat constructor) (by repeat constructor)) (.tmp rfl) ?_
      exact ⟨rfl, v2, B2, hsl2, hS.sel (by repeat constructor)⟩
theorem rout_any (k : Int) (hl : l.length ≤ 100000) (hvb : VB l) (hsl : Sl 32 4 v (l.map fr) B) (hown : Own w (RO b v most given B)) :
    Ret Try.prog 29 #[.pointer (some ⟨b, 0, none⟩), .int .i64 k] w fun u w' => u = .tuple #[.agg #[.int .i64 (outP l k).id, .int .i64 (outP l k).f, .int .i64 (outP l k).t, (outP l k).v], .bool (outX l k).isSome] ∧ ∃ v' B', Sl 32 4 v' ((outL l k).map fr) B' ∧ St w ((RO b v most given B).map Prod.fst) (RO b v' most given B') w' := by
  by_cases he : l = []
  · refine (rout_nil k he hl hsl hown).mono ?_
    rintro u w' ⟨rfl, h⟩
    obtain ⟨e1, e2, e3⟩ := out_empty he k
    rw [e1, e2, e3]
    exact ⟨rfl, v, B, hsl, h⟩
  · obtain ⟨x, hx, hp⟩ := out_some (k := k) he
    refine (rout_one k x he hx hp hl hvb hsl hown).mono ?_
    rintro u w' ⟨rfl, h⟩
    have e : outP l k = x := by unfold outP; rw [hx]; rfl
    rw [hx, e]
    exact ⟨rfl, h⟩
open Classical in
theorem rcopy_any (k : Int) (hg : 0 ≤ given ∧ given ≤ 1000000) (hl : l.length ≤ 100000) (hvb : VB l) (hbl : ∀ x ∈ l, x.b.length ≤ 1400) (hsl : Sl 32 4 v (l.map fr) B) (hown : Own w (RO b v most given B)) :
    Ret Try.prog 30 #[.pointer (some ⟨b, 0, none⟩), .int .i64 k] w fun u w' => u = .tuple #[.int .i64 (cpI most given l k), .bool (cpB most l k)] ∧ ∃ v' B', Sl 32 4 v' ((cpL most given l k (outP l k).v).map fr) B' ∧ St w ((RO b v most given B).map Prod.fst) (RO b v' most (cpG most given l k) B') w' := by
  have hS := St.init hown
  obtain ⟨c0, hv0⟩ := hsl.slv
  simp only [List.length_map] at hv0
  by_cases he : l = []
  · generalize hX : (RO b v most given B).map Prod.fst = X at hS ⊢
    refine Ret.enter Try.func30 Try.ntmps30 rfl rfl ?_
    simp only [argEnv, Nat.reduceAdd]
    refine SatC.seq ?_
    refine SatC.region ?_
    refine SatL.pu (RunV.assign rfl) rfl ?_
    refine SatL.pu (RunV.assign rfl) rfl ?_
    refine SatL.nil (SatE.thenC ?_)
    refine SatC.seq ?_
    refine SatC.region ?_
    refine SatL.pu (RunV.move rfl) rfl ?_
    refine SatL.pu (RunV.move rfl) rfl ?_
    refine SatL.op rfl (OpW.enter rfl rfl rfl (rfl) (rpick_any k hl hsl (hS.ownT (A := RO b v most given B) (by repeat constructor))) ?_)
    rintro r1 w1 ⟨rfl, h⟩
    replace hS := St.callN hS h
    rw [if_pos he]
    refine SatL.pu (RunV.assign rfl) rfl ?_
    refine SatL.nil (SatE.thenC ?_)
    refine SatC.seq ?_
    refine SatC.seq ?_
    refine SatC.region ?_
    refine SatL.pu (RunV.move rfl) rfl ?_
    refine SatL.pu (RunV.lss rfl rfl) rfl ?_
    refine SatL.nil (SatE.thenC ?_)
    refine SatC.cond rfl (fun h1 => ?_) (fun h1 => ?_)
    · (try simp only [cx, ne_eq] at h1)
      try (exfalso; (first | omega | exact h1 trivial | contradiction | (simp at h1; done)); done)
      all_goals
      refine SatC.seq ?_
      refine SatC.region ?_
      refine SatL.pu (RunV.assign rfl) rfl ?_
      refine SatL.pu (RunV.assign rfl) rfl ?_
      refine SatL.nil (SatE.thenC ?_)
      refine SatC.ret (SatE.then_ret ?_)
      refine SatE.ret2 rfl rfl rfl ?_
      rw [show cpI most given l k = 0 from if_pos he, show cpB most l k = false from if_pos he, show cpL most given l k (outP l k).v = l from if_pos he, show cpG most given l k = given from if_pos he]
      exact ⟨rfl, v, B, hsl, hS.sel (by repeat constructor)⟩
    · (try simp only [cx, ne_eq] at h1)
      try (exfalso; (first | omega | exact h1 trivial | contradiction | (simp at h1; done)); done)
      all_goals
      refine SatC.skip (SatE.thenC ?_)
      refine SatC.seq ?_
      refine SatC.region ?_
      refine SatL.pu (RunV.move rfl) rfl ?_
      refine SatL.pu (RunV.move rfl) rfl ?_
      first | refine SatL.pu (RunV.nil_ptr rfl) rfl ?_ | refine SatL.pu (RunV.nil_func rfl) rfl ?_ | refine SatL.pu (RunV.nil_yield rfl) rfl ?_
      first | refine SatL.pu (RunV.fieldAddrL rfl rfl rfl) rfl ?_ | refine SatL.pu (RunV.fieldAddr rfl rfl rfl) rfl ?_
      refine SatL.pu (RunV.load1 hS rfl rfl (by repeat constructor) rfl) rfl ?_
      refine SatL.pu (RunV.move rfl) rfl ?_
      first | refine SatL.pu (RunV.indexR (by assumption) rfl rfl rfl (by omega) (by omega) rfl) rfl ?_ | refine SatL.pu (RunV.indexS rfl rfl rfl (by omega) (by omega) rfl) rfl ?_
      first | refine SatL.pu (RunV.fieldAddrL rfl rfl rfl) rfl ?_ | refine SatL.pu (RunV.fieldAddr rfl rfl rfl) rfl ?_
      first | refine SatL.pu (RunV.loadRNf (RdC.st (by assumption) hS List.not_mem_nil) rfl rfl (by first | assumption | exact map_get (by assumption)) (by repeat constructor)) rfl ?_ | refine SatL.pu (RunV.loadRNf (Sl.rd (by assumption) hS (by repeat constructor)) rfl rfl (by first | assumption | exact map_get (by assumption)) (by repeat constructor)) rfl ?_
      -- STOP -- CALL 28
      trace_state
      sorry
  · obtain ⟨x, hx, hp⟩ := out_some (k := k) he
    have e : outP l k = x := by unfold outP; rw [hx]; rfl
    have hxm := List.mem_of_getElem? hx
    obtain ⟨xb, xo, xc, hxv⟩ := hvb x hxm
    have hxl := hbl x hxm
    have hk : pk l k < l.length := (List.getElem?_eq_some_iff.1 hx).1
    have hy : l[((pk l k : Nat) : Int).toNat]? = some x := by rw [Int.toNat_natCast]; exact hx
    rw [show cpI most given l k = sendI most given l x.b from by unfold cpI; rw [if_neg he, e], show cpB most l k = !decide (full most l x.b) from by unfold cpB; rw [if_neg he, e], show cpL most given l k (outP l k).v = sendL most given l x.f x.t x.v x.b from by unfold cpL; rw [if_neg he, e], show cpG most given l k = sendG most given l x.b from by unfold cpG; rw [if_neg he, e]]
    generalize hX : (RO b v most given B).map Prod.fst = X at hS ⊢
    refine Ret.enter Try.func30 Try.ntmps30 rfl rfl ?_
    simp only [argEnv, Nat.reduceAdd]
    refine SatC.seq ?_
    refine SatC.region ?_
    refine SatL.pu (RunV.assign rfl) rfl ?_
    refine SatL.pu (RunV.assign rfl) rfl ?_
    refine SatL.nil (SatE.thenC ?_)
    refine SatC.seq ?_
    refine SatC.region ?_
    refine SatL.pu (RunV.move rfl) rfl ?_
    refine SatL.pu (RunV.move rfl) rfl ?_
    refine SatL.op rfl (OpW.enter rfl rfl rfl (rfl) (rpick_any k hl hsl (hS.ownT (A := RO b v most given B) (by repeat constructor))) ?_)
    rintro r1 w1 ⟨rfl, h⟩
    replace hS := St.callN hS h
    rw [if_neg he, hp]
    refine SatL.pu (RunV.assign rfl) rfl ?_
    refine SatL.nil (SatE.thenC ?_)
    refine SatC.seq ?_
    refine SatC.seq ?_
    refine SatC.region ?_
    refine SatL.pu (RunV.move rfl) rfl ?_
    refine SatL.pu (RunV.lss rfl rfl) rfl ?_
    refine SatL.nil (SatE.thenC ?_)
    refine SatC.cond rfl (fun h1 => ?_) (fun h1 => ?_)
    · (try simp only [cx, ne_eq] at h1)
      try (exfalso; (first | omega | exact h1 trivial | contradiction | (simp at h1; done)); done)
      all_goals
      refine SatC.seq ?_
      refine SatC.region ?_
      refine SatL.pu (RunV.assign rfl) rfl ?_
      refine SatL.pu (RunV.assign rfl) rfl ?_
      refine SatL.nil (SatE.thenC ?_)
      refine SatC.ret (SatE.then_ret ?_)
      refine SatE.ret2 rfl rfl rfl ?_
      exact ⟨rfl, v2, B2, hsl2, hS.sel (by repeat constructor)⟩
    · (try simp only [cx, ne_eq] at h1)
      try (exfalso; (first | omega | exact h1 trivial | contradiction | (simp at h1; done)); done)
      all_goals
      refine SatC.skip (SatE.thenC ?_)
      refine SatC.seq ?_
      refine SatC.region ?_
      refine SatL.pu (RunV.move rfl) rfl ?_
      refine SatL.pu (RunV.move rfl) rfl ?_
      first | refine SatL.pu (RunV.nil_ptr rfl) rfl ?_ | refine SatL.pu (RunV.nil_func rfl) rfl ?_ | refine SatL.pu (RunV.nil_yield rfl) rfl ?_
      first | refine SatL.pu (RunV.fieldAddrL rfl rfl rfl) rfl ?_ | refine SatL.pu (RunV.fieldAddr rfl rfl rfl) rfl ?_
      refine SatL.pu (RunV.load1 hS rfl rfl (by repeat constructor) rfl) rfl ?_
      refine SatL.pu (RunV.move rfl) rfl ?_
      first | refine SatL.pu (RunV.indexR (by assumption) rfl rfl rfl (by omega) (by omega) rfl) rfl ?_ | refine SatL.pu (RunV.indexS rfl rfl rfl (by omega) (by omega) rfl) rfl ?_
      first | refine SatL.pu (RunV.fieldAddrL rfl rfl rfl) rfl ?_ | refine SatL.pu (RunV.fieldAddr rfl rfl rfl) rfl ?_
      first | refine SatL.pu (RunV.loadRNf (RdC.st (by assumption) hS List.not_mem_nil) rfl rfl (by first | assumption | exact map_get (by assumption)) (by repeat constructor)) rfl ?_ | refine SatL.pu (RunV.loadRNf (Sl.rd (by assumption) hS (by repeat constructor)) rfl rfl (by first | assumption | exact map_get (by assumption)) (by repeat constructor)) rfl ?_
      refine SatL.op rfl (OpW.enter rfl rfl rfl (rfl) (rsend_any x.f x.t x.v x.b hxv (by omega) hg hl hsl (hS.ownT (A := RO b v most given B) (by repeat constructor))) ?_)
      rintro r2 w2 ⟨rfl, v2, B2, hsl2, h⟩
      replace hS := hS.callT (A := RO b v most given B) (by repeat constructor) h
      simp only [List.append_assoc, List.cons_append, List.nil_append, List.append_nil] at hS
      refine SatL.pu (RunV.extract rfl rfl) rfl ?_
      refine SatL.pu (RunV.extract rfl rfl) rfl ?_
      refine SatL.pu (RunV.assign rfl) rfl ?_
      refine SatL.pu (RunV.assign rfl) rfl ?_
      refine SatL.nil (SatE.thenC ?_)
      refine SatC.ret ?_
      refine SatE.ret2 rfl rfl rfl ?_
      exact ⟨rfl, v2, B2, hsl2, hS.sel (by repeat constructor)⟩
theorem rlose_any (to : Int) (hl : l.length ≤ 100000) (hvb : VB l) (hsl : Sl 32 4 v (l.map fr) B) (hown : Own w (RO b v most given B)) :
    Ret Try.prog 31 #[.pointer (some ⟨b, 0, none⟩), .int .i64 to] w fun u w' => u = .int .i64 ((l.length : Int) - (keepL to l).length) ∧ ∃ v' B', Sl 32 4 v' ((keepL to l).map fr) B' ∧ St w ((RO b v most given B).map Prod.fst) (RO b v' most given B') w' := by
  have hS := St.init hown
  obtain ⟨c0, hv0⟩ := hsl.slv
  simp only [List.length_map] at hv0
  have hkl : (keepL to l).length ≤ l.length := List.length_filter_le ..
  generalize hX : (RO b v most given B).map Prod.fst = X at hS ⊢
  refine Ret.enter Try.func31 Try.ntmps31 rfl rfl ?_
  simp only [argEnv, Nat.reduceAdd]
  refine SatC.seq ?_
  refine SatC.region ?_
  refine SatL.pu (RunV.assign rfl) rfl ?_
  refine SatL.nil (SatE.thenC ?_)
  refine SatC.seq ?_
  refine SatC.region ?_
  refine SatL.pu (RunV.assign rfl) rfl ?_
  refine SatL.nil (SatE.thenC ?_)
  refine SatC.seq ?_
  refine SatC.region ?_
  refine SatL.pu (RunV.assign rfl) rfl ?_
  refine SatL.nil (SatE.thenC ?_)
  refine SatC.seq ?_
  refine SatC.seq ?_
  refine SatC.region ?_
  refine SatL.pu (RunV.assign rfl) rfl ?_
  refine SatL.nil (SatE.thenC ?_)
  refine SatC.block ?_
  refine SatC.loopK (G := Nat × Value × List (Nat × Obj)) (V := fun ⟨i, v2, B2⟩ => [(7, .int .i64 (i : Int)), (5, v2), (6, .int .i64 ((i : Int) - (keepL to (l.take i)).length))]) (Cn := [(0, _), (1, _), (4, _)]) (I := fun ⟨i, v2, B2⟩ w' => i ≤ l.length ∧ Sl 32 4 v2 ((keepL to (l.take i)).map fr) B2 ∧ St w X (B2 ++ RO b v most given B) w') (μ := fun ⟨i, v2, B2⟩ => l.length - i) (0, .slice none 0 0, []) ?_ (by repeat constructor) ?_
  · exact ⟨Nat.zero_le _, .nil, hS.sel (by repeat constructor)⟩
  clear hS
  rintro ⟨i, v2, B2⟩ w1 ⟨hi, hsl2, hS⟩
  refine SatC.weak (e' := [(0, _), (1, _), (4, _), (5, _), (6, _), (7, _)]) (by repeat constructor) ?_
  refine SatC.seq ?_
  refine SatC.seq ?_
  refine SatC.region ?_
  refine SatL.pu (RunV.move rfl) rfl ?_
  refine SatL.pu (RunV.move rfl) rfl ?_
  first | refine SatL.pu (RunV.nil_ptr rfl) rfl ?_ | refine SatL.pu (RunV.nil_func rfl) rfl ?_ | refine SatL.pu (RunV.nil_yield rfl) rfl ?_
  first | refine SatL.pu (RunV.fieldAddrL rfl rfl rfl) rfl ?_ | refine SatL.pu (RunV.fieldAddr rfl rfl rfl) rfl ?_
  refine SatL.pu (RunV.load1 hS rfl rfl (by repeat constructor) rfl) rfl ?_
  first | refine SatL.pu (RunV.lenR (by assumption) rfl rfl) rfl ?_ | refine SatL.pu (RunV.lenS rfl rfl) rfl ?_
  refine SatL.pu (RunV.lss rfl rfl) rfl ?_
  refine SatL.nil (SatE.thenC ?_)
  refine SatC.cond rfl (fun h1 => ?_) (fun h1 => ?_)
  · (try simp only [cx, ne_eq] at h1)
    try (exfalso; (first | omega | exact h1 trivial | contradiction | (simp at h1; done)); done)
    all_goals
    refine SatC.skip (SatE.thenC ?_)
    refine SatC.seq ?_
    refine SatC.block ?_
    refine SatC.seq ?_
    obtain ⟨y, hy⟩ := get_some l i (by omega)
    obtain ⟨_, _, _, hyv⟩ := hvb y (List.mem_of_getElem? hy)
    have hy1 := slv_one hyv
    have hlt : (keepL to (l.take i)).length ≤ i := Nat.le_trans (List.length_filter_le ..) (by rw [List.length_take]; omega)
    have htk : l.take (i + 1) = l.take i ++ [y] := by rw [List.take_add_one, hy]; rfl
    have hkn : keepL to (l.take (i + 1)) = keepL to (l.take i) ++ (if y.t = to then [] else [y]) := by rw [htk]; unfold keepL; rw [List.filter_append]; congr 1; by_cases h : y.t = to <;> simp [h]
    refine SatC.region ?_
    refine SatL.pu (RunV.move rfl) rfl ?_
    first | refine SatL.pu (RunV.nil_ptr rfl) rfl ?_ | refine SatL.pu (RunV.nil_func rfl) rfl ?_ | refine SatL.pu (RunV.nil_yield rfl) rfl ?_
    first | refine SatL.pu (RunV.fieldAddrL rfl rfl rfl) rfl ?_ | refine SatL.pu (RunV.fieldAddr rfl rfl rfl) rfl ?_
    refine SatL.pu (RunV.load1 hS rfl rfl (by repeat constructor) rfl) rfl ?_
    refine SatL.pu (RunV.move rfl) rfl ?_
    first | refine SatL.pu (RunV.indexR (by assumption) rfl rfl rfl (by omega) (by omega) rfl) rfl ?_ | refine SatL.pu (RunV.indexS rfl rfl rfl (by omega) (by omega) rfl) rfl ?_
    first | refine SatL.pu (RunV.fieldAddrL rfl rfl rfl) rfl ?_ | refine SatL.pu (RunV.fieldAddr rfl rfl rfl) rfl ?_
    first | refine SatL.pu (RunV.fieldAddrL rfl rfl rfl) rfl ?_ | refine SatL.pu (RunV.fieldAddr rfl rfl rfl) rfl ?_
    refine SatL.pu (RunV.loadR1g i 2 (Sl.rd hsl hS (by repeat constructor)) rfl rfl (by omega) (map_get hy) rfl) rfl ?_
    refine SatL.pu (RunV.move rfl) rfl ?_
    refine SatL.pu (RunV.eql rfl rfl) rfl ?_
    refine SatL.nil (SatE.thenC ?_)
    refine SatC.weak (e' := [(0, _), (1, _), (4, _), (5, _), (6, _), (7, _), (27, _)]) (by repeat constructor) ?_
    refine SatC.cond rfl (fun h2 => ?_) (fun h2 => ?_)
    · (try simp only [cx, ne_eq] at h2)
      try (exfalso; (first | omega | exact h2 trivial | contradiction | (simp at h2; done)); done)
      all_goals
      refine SatC.region ?_
      refine SatL.pu (RunV.move rfl) rfl ?_
      refine SatL.pu (RunV.add rfl rfl (by first | exact wrapI64 (by omega) | rfl)) rfl ?_
      refine SatL.pu (RunV.assign rfl) rfl ?_
      refine SatL.nil (SatE.blk_normal (SatE.thenC ?_))
      refine SatC.region ?_
      refine SatL.pu (RunV.move rfl) rfl ?_
      refine SatL.pu (RunV.add rfl rfl (by first | exact wrapI64 (by omega) | rfl)) rfl ?_
      refine SatL.pu (RunV.assign rfl) rfl ?_
      refine SatL.nil ?_
      first
      | (rw [if_neg (by assumption)] at hkn
         have hkl2 := congrArg List.length hkn
         rw [List.length_append] at hkl2
         simp only [List.length_cons, List.length_nil] at hkl2
         refine SatE.again (i + 1, v39, B39) ⟨by omega, by rw [hkn, List.map_append]; exact hsl39, hS.sel (by repeat constructor)⟩ (by dsimp only; omega) ?_
         dsimp only
         rw [show (((i + 1 : Nat) : Int)) - ((keepL to (l.take (i + 1))).length : Int) = (i : Int) - (keepL to (l.take i)).length from by omega]
         repeat constructor)
      | (rw [if_pos (by assumption), List.append_nil] at hkn
         have hkl2 := congrArg List.length hkn
         refine SatE.again (i + 1, v2, B2) ⟨by omega, by rw [hkn]; exact hsl2, hS.sel (by repeat constructor)⟩ (by dsimp only; omega) ?_
         dsimp only
         rw [show (((i + 1 : Nat) : Int)) - ((keepL to (l.take (i + 1))).length : Int) = (i : Int) - (keepL to (l.take i)).length + 1 from by omega]
         repeat constructor)
    · (try simp only [cx, ne_eq] at h2)
      try (exfalso; (first | omega | exact h2 trivial | contradiction | (simp at h2; done)); done)
      all_goals
      refine SatC.region ?_
      refine SatL.pu (RunV.move rfl) rfl ?_
      refine SatL.pu (RunV.move rfl) rfl ?_
      first | refine SatL.pu (RunV.nil_ptr rfl) rfl ?_ | refine SatL.pu (RunV.nil_func rfl) rfl ?_ | refine SatL.pu (RunV.nil_yield rfl) rfl ?_
      first | refine SatL.pu (RunV.fieldAddrL rfl rfl rfl) rfl ?_ | refine SatL.pu (RunV.fieldAddr rfl rfl rfl) rfl ?_
      refine SatL.pu (RunV.load1 hS rfl rfl (by repeat constructor) rfl) rfl ?_
      refine SatL.pu (RunV.move rfl) rfl ?_
      first | refine SatL.pu (RunV.indexR (by assumption) rfl rfl rfl (by omega) (by omega) rfl) rfl ?_ | refine SatL.pu (RunV.indexS rfl rfl rfl (by omega) (by omega) rfl) rfl ?_
      first | refine SatL.pu (RunV.loadRNz (RdC.st (by assumption) hS List.not_mem_nil) rfl rfl (by first | assumption | exact map_get (by assumption))) rfl ?_ | refine SatL.pu (RunV.loadRNz (Sl.rd (by assumption) hS (by repeat constructor)) rfl rfl (by first | assumption | exact map_get (by assumption))) rfl ?_
      refine SatL.op rfl (OpW.buildSlice1 hS rfl rfl rfl rfl rfl (by repeat constructor) rfl rfl rfl ?_)
      clear hS
      intro b38 w2 _ hS
      refine SatL.op rfl (OpW.append1 hsl2 hS (by repeat constructor) rfl rfl (by repeat constructor) rfl rfl rfl rfl rfl rfl rfl (by simp only [List.all_cons, List.all_nil, hy1, Bool.and_true]; rfl) (by rw [List.length_map]; omega) rfl ?_)
      clear hS
      intro v39 B39 w3 hsl39 hS
      refine SatL.pu (RunV.assign rfl) rfl ?_
      refine SatL.nil (SatE.blk_normal (SatE.thenC ?_))
      refine SatC.region ?_
      refine SatL.pu (RunV.move rfl) rfl ?_
      refine SatL.pu (RunV.add rfl rfl (by first | exact wrapI64 (by omega) | rfl)) rfl ?_
      refine SatL.pu (RunV.assign rfl) rfl ?_
      refine SatL.nil ?_
      first
      | (rw [if_neg (by assumption)] at hkn
         have hkl2 := congrArg List.length hkn
         rw [List.length_append] at hkl2
         simp only [List.length_cons, List.length_nil] at hkl2
         refine SatE.again (i + 1, v39, B39) ⟨by omega, by rw [hkn, List.map_append]; exact hsl39, hS.sel (by repeat constructor)⟩ (by dsimp only; omega) ?_
         dsimp only
         rw [show (((i + 1 : Nat) : Int)) - ((keepL to (l.take (i + 1))).length : Int) = (i : Int) - (keepL to (l.take i)).length from by omega]
         repeat constructor)
      | (rw [if_pos (by assumption), List.append_nil] at hkn
         have hkl2 := congrArg List.length hkn
         refine SatE.again (i + 1, v2, B2) ⟨by omega, by rw [hkn]; exact hsl2, hS.sel (by repeat constructor)⟩ (by dsimp only; omega) ?_
         dsimp only
         rw [show (((i + 1 : Nat) : Int)) - ((keepL to (l.take (i + 1))).length : Int) = (i : Int) - (keepL to (l.take i)).length + 1 from by omega]
         repeat constructor)
  · (try simp only [cx, ne_eq] at h1)
    try (exfalso; (first | omega | exact h1 trivial | contradiction | (simp at h1; done)); done)
    all_goals
    refine SatC.exit (SatE.then_exit (SatE.then_exit (SatE.blk_exit (SatE.thenC ?_))))
    refine SatC.seq ?_
    rw [List.take_of_length_le (by omega)] at hsl2
    have hi2 : i = l.length := by omega
    subst hi2
    rw [List.take_length]
    refine SatC.region ?_
    refine SatL.pu (RunV.move rfl) rfl ?_
    refine SatL.pu (RunV.move rfl) rfl ?_
    first | refine SatL.pu (RunV.nil_ptr rfl) rfl ?_ | refine SatL.pu (RunV.nil_func rfl) rfl ?_ | refine SatL.pu (RunV.nil_yield rfl) rfl ?_
    first | refine SatL.pu (RunV.fieldAddrL rfl rfl rfl) rfl ?_ | refine SatL.pu (RunV.fieldAddr rfl rfl rfl) rfl ?_
    refine SatL.op rfl (OpW.storeSv hS rfl rfl (by assumption) (by repeat constructor) (by repeat constructor) rfl ?_)
    clear hS
    intro w2 hS
    refine SatL.nil (SatE.thenC ?_)
    refine SatC.seq ?_
    refine SatC.weak (e' := [(4, _), (6, _)]) (by repeat constructor) ?_
    refine SatC.region ?_
    refine SatL.pu (RunV.move rfl) rfl ?_
    refine SatL.pu (RunV.assign rfl) rfl ?_
    refine SatL.nil (SatE.thenC ?_)
    refine SatC.ret ?_
    refine SatE.ret1 rfl rfl ?_
    exact ⟨rfl, v2, B2, hsl2, hS.sel (by repeat constructor)⟩
end
end Go.Proofs.Ytpnkcoahbadnjaa
