/- Left, Ids, Next, Now. -/
import Derived.Test.YtabladeenemfoaaWf
set_option linter.unusedSimpArgs false
set_option linter.unusedVariables false
set_option maxRecDepth 100000
set_option maxHeartbeats 4000000
namespace Go.Proofs.Ytabladeenemfoaa
open Go.RowKit
def lft (W : Wl) (id : Int) : Int := if (tget W.ts id).isSome = true then ((tof W.ts id).due : Int) - W.now else 0
def idsW (W : Wl) : List Int := W.ts.map (·.id)
theorem le_total' : ∀ a b : Int, (decide (a ≤ b) || decide (b ≤ a)) = true := by intro a b; simp; omega
theorem le_trans' : ∀ a b c : Int, decide (a ≤ b) = true → decide (b ≤ c) = true → decide (a ≤ c) = true := by intro a b c; simp; omega
theorem srt_perm {l l' : List Int} (h : l.Perm l') : srt l = srt l' := by
  unfold srt
  have h1 := List.pairwise_mergeSort le_trans' le_total' l
  have h2 := List.pairwise_mergeSort le_trans' le_total' l'
  refine List.Perm.eq_of_pairwise (le := fun a b : Int => decide (a ≤ b) = true) ?_ h1 h2 ?_
  · intro a b _ _ h h'
    simp at h h'
    omega
  · exact (List.mergeSort_perm ..).trans (h.trans (List.mergeSort_perm ..).symm)
theorem srt_len (l : List Int) : (srt l).length = l.length := List.length_mergeSort ..
theorem erase_perm {α : Type} {l : List α} {i : Nat} {x : α} (h : l[i]? = some x) : l.Perm (x :: l.eraseIdx i) := by
  induction l generalizing i with
  | nil => simp at h
  | cons y l ih =>
    cases i with
    | zero =>
      simp only [List.getElem?_cons_zero, Option.some.injEq] at h
      subst h
      exact .refl _
    | succ i =>
      rw [List.eraseIdx_cons_succ]
      exact ((ih (by simpa using h)).cons y).trans (.swap ..)
def nstep (W : Wl) (q : Int × Bool) (id : Int) : Int × Bool := if (tget W.ts id).isSome = true ∧ (q.2 = false ∨ lft W id < q.1) then (lft W id, true) else q
def aNext (W : Wl) : Int × Bool := (srt (idsW W)).foldl (nstep W) (0, false)
theorem nstep_y {W : Wl} {e : Int} {a : Bool} {y : Int} (h : (tget W.ts y).isSome = true) (h2 : a = false ∨ lft W y < e) : nstep W (e, a) y = (lft W y, true) := if_pos ⟨h, h2⟩
theorem nstep_n {W : Wl} {e : Int} {a : Bool} {y : Int} (h2 : ¬ ((tget W.ts y).isSome = true ∧ (a = false ∨ lft W y < e))) : nstep W (e, a) y = (e, a) := if_neg h2
section
variable {b m : Nat} {W : Wl} {L : List (Nat × Obj)} {w : World}
theorem left_d (id : Int) (hn : W.now ≤ 1000000000) (hdue : DueB 1100000000 W.ts) (h : Whl b m W L) (hown : Own w L) :
    Ret Try.prog 19 #[.pointer (some ⟨b, 0, none⟩), .int .i64 id] w fun u w' => u = .tuple #[.int .i64 (lft W id), .bool (tget W.ts id).isSome] ∧ St w [] [] w' := by
  obtain ⟨now, ts, ls⟩ := W
  obtain ⟨hlen, hf1, mo, hs, hmp, hls, hsl, rfl⟩ := h
  dsimp only at *
  have hS := St.init hown
  have htd := tof_due hdue id
  generalize hX : (WO b m mo now hs).map Prod.fst = X at hS
  have hro : ∀ {L w'}, St w X (L ++ WO b m mo now hs) w' → St w [] L w' := fun h => St.roL hown (by rw [hX]; exact h.perm List.perm_append_comm) .here
  simp only [WO, hbl] at hS hro
  generalize hD : List.flatMap (fun x : Pl => x.B) hs = D at hS hro
  unfold lft
  dsimp only
  refine Ret.enter Try.func19 Try.ntmps19 rfl rfl ?_
  simp only [argEnv, Nat.reduceAdd]
  refine SatC.seq ?_
  refine SatC.region ?_
  refine SatL.pu (RunV.assign rfl) rfl ?_
  refine SatL.pu (RunV.assign rfl) rfl ?_
  refine SatL.nil (SatE.thenC ?_)
  refine SatC.seq ?_
  refine SatC.seq ?_
  refine SatC.region ?_
  refine SatL.pu (RunV.move rfl) rfl ?_
  refine SatL.op rfl (OpW.enter rfl rfl rfl (rfl) (wnone_any (hS.ownT (A := [(b, C 48 (wcs now m hs))]) (by repeat constructor))) ?_)
  rintro r1 w1 ⟨rfl, h⟩
  replace hS := St.callN hS h
  refine SatL.nil (SatE.thenC ?_)
  refine SatC.cond rfl (fun h1 => ?_) (fun h1 => ?_)
  · (try simp only [cx, ne_eq] at h1)
    try (exfalso; (first | omega | exact h1 trivial | contradiction | (first | omega | (simp at h1; done))); done)
    all_goals
    refine SatC.seq ?_
    refine SatC.region ?_
    refine SatL.pu (RunV.assign rfl) rfl ?_
    refine SatL.pu (RunV.assign rfl) rfl ?_
    refine SatL.nil (SatE.thenC ?_)
    refine SatC.ret (SatE.then_ret ?_)
    refine SatE.ret2 rfl rfl rfl ?_
    rcases hq : (tget ts id).isSome with _ | _
    · first
      | (exfalso; simp_all; done)
      | exact ⟨rfl, hro (L := []) (hS.sel (by repeat constructor))⟩
    · first
      | (exfalso; simp_all; done)
      | exact ⟨rfl, hro (L := []) (hS.sel (by repeat constructor))⟩
  · (try simp only [cx, ne_eq] at h1)
    try (exfalso; (first | omega | exact h1 trivial | contradiction | (first | omega | (simp at h1; done))); done)
    all_goals
    refine SatC.skip (SatE.thenC ?_)
    refine SatC.seq ?_
    refine SatC.region ?_
    refine SatL.pu (RunV.move rfl) rfl ?_
    first | refine SatL.pu (RunV.nil_ptr rfl) rfl ?_ | refine SatL.pu (RunV.nil_func rfl) rfl ?_ | refine SatL.pu (RunV.nil_yield rfl) rfl ?_
    first | refine SatL.pu (RunV.fieldAddrL rfl rfl rfl) rfl ?_ | refine SatL.pu (RunV.fieldAddr rfl rfl rfl) rfl ?_
    refine SatL.pu (RunV.load1 hS rfl rfl (by repeat constructor) rfl) rfl ?_
    refine SatL.pu (RunV.move rfl) rfl ?_
    refine SatL.pu (RunV.cast (RunV.lookup2 (keyInt rfl) hS rfl rfl rfl rfl (by repeat constructor) hmp.is) (look2 _ _)) rfl ?_
    refine SatL.pu (RunV.move rfl) rfl ?_
    refine SatL.pu (RunV.extract rfl rfl) rfl ?_
    refine SatL.pu (RunV.extract rfl rfl) rfl ?_
    refine SatL.op rfl (OpW.alloc hS rfl rfl (by repeat constructor) ?_)
    clear hS
    intro b6 w2 _ hS
    refine SatL.op rfl (OpW.store hS rfl rfl (by repeat constructor) (by repeat constructor) (by repeat constructor) rfl rfl ?_)
    clear hS
    intro w3 hS
    refine SatL.pu (RunV.assign rfl) rfl ?_
    refine SatL.nil (SatE.thenC ?_)
    refine SatC.seq ?_
    refine SatC.seq ?_
    refine SatC.weak (e' := [(0, _), (4, _), (5, _), (6, _), (7, _)]) (by repeat constructor) ?_
    refine SatC.region ?_
    refine SatL.pu (RunV.move rfl) rfl ?_
    refine SatL.pu (RunV.not rfl) rfl ?_
    refine SatL.nil (SatE.thenC ?_)
    refine SatC.cond rfl (fun h2 => ?_) (fun h2 => ?_)
    · (try simp only [cx, ne_eq] at h2)
      try (exfalso; (first | omega | exact h2 trivial | contradiction | (first | omega | (simp at h2; done))); done)
      all_goals
      refine SatC.seq ?_
      refine SatC.region ?_
      refine SatL.pu (RunV.assign rfl) rfl ?_
      refine SatL.pu (RunV.assign rfl) rfl ?_
      refine SatL.nil (SatE.thenC ?_)
      refine SatC.ret (SatE.then_ret ?_)
      refine SatE.ret2 rfl rfl rfl ?_
      rcases hq : (tget ts id).isSome with _ | _
      · first
        | (exfalso; simp_all; done)
        | exact ⟨rfl, hro (L := []) (hS.sel (by repeat constructor))⟩
      · first
        | (exfalso; simp_all; done)
        | exact ⟨rfl, hro (L := []) (hS.sel (by repeat constructor))⟩
    · (try simp only [cx, ne_eq] at h2)
      try (exfalso; (first | omega | exact h2 trivial | contradiction | (first | omega | (simp at h2; done))); done)
      all_goals
      refine SatC.skip (SatE.thenC ?_)
      refine SatC.seq ?_
      refine SatC.drawnT 9 hS (hS) (by kernel_rfl) ?_
      clear hS
      intro w4 hh hS hD
      first | refine SatD.tk 0 rfl hD (fun _ hw => RunV.fieldAddrL rfl rfl rfl) ?_ | refine SatD.tk 0 rfl hD (fun _ hw => RunV.fieldAddr rfl rfl rfl) ?_
      refine SatD.tk 1 rfl hD (fun _ hw => RunV.load1 hw rfl rfl (by repeat constructor) rfl) ?_
      refine SatD.tk 2 rfl hD (fun _ hw => RunV.move rfl) ?_
      first | refine SatD.tk 3 rfl hD (fun _ hw => RunV.nil_ptr rfl) ?_ | refine SatD.tk 3 rfl hD (fun _ hw => RunV.nil_func rfl) ?_ | refine SatD.tk 3 rfl hD (fun _ hw => RunV.nil_yield rfl) ?_
      first | refine SatD.tk 4 rfl hD (fun _ hw => RunV.fieldAddrL rfl rfl rfl) ?_ | refine SatD.tk 4 rfl hD (fun _ hw => RunV.fieldAddr rfl rfl rfl) ?_
      refine SatD.tk 5 rfl hD (fun _ hw => RunV.load1 hw rfl rfl (by repeat constructor) rfl) ?_
      refine SatD.tk 6 rfl hD (fun _ hw => RunV.sub rfl rfl (by first | exact wrapI64 (by omega) | rfl)) ?_
      refine SatD.tk 7 rfl hD (fun _ hw => RunV.assign rfl) ?_
      refine SatD.tk 8 rfl hD (fun _ hw => RunV.assign rfl) ?_
      refine SatD.done 0 (by kernel_rfl) (SatE.thenC ?_)
      clear hD
      refine SatC.ret ?_
      refine SatE.ret2 rfl rfl rfl ?_
      rcases hq : (tget ts id).isSome with _ | _
      · first
        | (exfalso; simp_all; done)
        | exact ⟨rfl, hro (L := []) (hS.sel (by repeat constructor))⟩
      · first
        | (exfalso; simp_all; done)
        | exact ⟨rfl, hro (L := []) (hS.sel (by repeat constructor))⟩
theorem now_d (hn : W.now ≤ 1000000000) (h : Whl b m W L) (hown : Own w L) :
    Ret Try.prog 21 #[.pointer (some ⟨b, 0, none⟩)] w fun u w' => u = .int .i64 (W.now : Int) ∧ St w [] [] w' := by
  obtain ⟨now, ts, ls⟩ := W
  obtain ⟨hlen, hf1, mo, hs, hmp, hls, hsl, rfl⟩ := h
  dsimp only at *
  have hS := St.init hown
  generalize hX : (WO b m mo now hs).map Prod.fst = X at hS
  have hro : ∀ {L w'}, St w X (L ++ WO b m mo now hs) w' → St w [] L w' := fun h => St.roL hown (by rw [hX]; exact h.perm List.perm_append_comm) .here
  simp only [WO, hbl] at hS hro
  generalize hD : List.flatMap (fun x : Pl => x.B) hs = D at hS hro
  refine Ret.enter Try.func21 Try.ntmps21 rfl rfl ?_
  simp only [argEnv, Nat.reduceAdd]
  refine SatC.seq ?_
  refine SatC.region ?_
  refine SatL.pu (RunV.assign rfl) rfl ?_
  refine SatL.nil (SatE.thenC ?_)
  refine SatC.seq ?_
  refine SatC.seq ?_
  refine SatC.region ?_
  refine SatL.pu (RunV.move rfl) rfl ?_
  refine SatL.op rfl (OpW.enter rfl rfl rfl (rfl) (wnone_any (hS.ownT (A := [(b, C 48 (wcs now m hs))]) (by repeat constructor))) ?_)
  rintro r1 w1 ⟨rfl, h⟩
  replace hS := St.callN hS h
  refine SatL.nil (SatE.thenC ?_)
  refine SatC.cond rfl (fun h1 => ?_) (fun h1 => ?_)
  · (try simp only [cx, ne_eq] at h1)
    try (exfalso; (first | omega | exact h1 trivial | contradiction | (first | omega | (simp at h1; done))); done)
    all_goals
    refine SatC.seq ?_
    refine SatC.region ?_
    refine SatL.pu (RunV.assign rfl) rfl ?_
    refine SatL.nil (SatE.thenC ?_)
    refine SatC.ret (SatE.then_ret ?_)
    refine SatE.ret1 rfl rfl ?_
    exact ⟨rfl, hro (L := []) (hS.sel (by repeat constructor))⟩
  · (try simp only [cx, ne_eq] at h1)
    try (exfalso; (first | omega | exact h1 trivial | contradiction | (first | omega | (simp at h1; done))); done)
    all_goals
    refine SatC.skip (SatE.thenC ?_)
    refine SatC.seq ?_
    refine SatC.region ?_
    refine SatL.pu (RunV.move rfl) rfl ?_
    first | refine SatL.pu (RunV.nil_ptr rfl) rfl ?_ | refine SatL.pu (RunV.nil_func rfl) rfl ?_ | refine SatL.pu (RunV.nil_yield rfl) rfl ?_
    first | refine SatL.pu (RunV.fieldAddrL rfl rfl rfl) rfl ?_ | refine SatL.pu (RunV.fieldAddr rfl rfl rfl) rfl ?_
    refine SatL.pu (RunV.load1 hS rfl rfl (by repeat constructor) rfl) rfl ?_
    refine SatL.pu (RunV.assign rfl) rfl ?_
    refine SatL.nil (SatE.thenC ?_)
    refine SatC.ret ?_
    refine SatE.ret1 rfl rfl ?_
    exact ⟨rfl, hro (L := []) (hS.sel (by repeat constructor))⟩
theorem ids_d (hfew : W.ts.length ≤ 1000) (h : Whl b m W L) (hown : Own w L) :
    Ret Try.prog 12 #[.pointer (some ⟨b, 0, none⟩)] w fun u w' => ∃ AB, Sl 3 1 u ((srt (idsW W)).map ri) AB ∧ St w [] AB w' := by
  obtain ⟨now, ts, ls⟩ := W
  obtain ⟨hlen, hf1, mo, hs, hmp, hls, hsl, rfl⟩ := h
  dsimp only at *
  have hS := St.init hown
  generalize hX : (WO b m mo now hs).map Prod.fst = X at hS
  have hro : ∀ {L w'}, St w X (L ++ WO b m mo now hs) w' → St w [] L w' := fun h => St.roL hown (by rw [hX]; exact h.perm List.perm_append_comm) .here
  simp only [WO, hbl] at hS hro
  generalize hD : List.flatMap (fun x : Pl => x.B) hs = D at hS hro
  unfold idsW
  dsimp only
  have hkv : (ts.map tkv).map Prod.fst = ts.map (·.id) := by rw [List.map_map]; rfl
  refine Ret.enter Try.func12 Try.ntmps12 rfl rfl ?_
  simp only [argEnv, Nat.reduceAdd]
  refine SatC.seq ?_
  refine SatC.region ?_
  refine SatL.pu (RunV.assign rfl) rfl ?_
  refine SatL.nil (SatE.thenC ?_)
  refine SatC.seq ?_
  refine SatC.seq ?_
  refine SatC.region ?_
  refine SatL.pu (RunV.move rfl) rfl ?_
  refine SatL.op rfl (OpW.enter rfl rfl rfl (rfl) (wnone_any (hS.ownT (A := [(b, C 48 (wcs now m hs))]) (by repeat constructor))) ?_)
  rintro r1 w1 ⟨rfl, h⟩
  replace hS := St.callN hS h
  refine SatL.nil (SatE.thenC ?_)
  refine SatC.cond rfl (fun h1 => ?_) (fun h1 => ?_)
  · (try simp only [cx, ne_eq] at h1)
    try (exfalso; (first | omega | exact h1 trivial | contradiction | (first | omega | (simp at h1; done))); done)
    all_goals
    refine SatC.seq ?_
    refine SatC.region ?_
    refine SatL.pu (RunV.assign rfl) rfl ?_
    refine SatL.nil (SatE.thenC ?_)
    refine SatC.ret (SatE.then_ret ?_)
    refine SatE.ret1 rfl rfl ?_
    exact ⟨B5, by rw [← srt_perm hpm]; exact hsl5, hro (hS.sel (by repeat constructor))⟩
  · (try simp only [cx, ne_eq] at h1)
    try (exfalso; (first | omega | exact h1 trivial | contradiction | (first | omega | (simp at h1; done))); done)
    all_goals
    refine SatC.skip (SatE.thenC ?_)
    refine SatC.seq ?_
    refine SatC.region ?_
    refine SatL.pu (RunV.assign rfl) rfl ?_
    refine SatL.nil (SatE.thenC ?_)
    refine SatC.seq ?_
    refine SatC.seq ?_
    refine SatC.region ?_
    refine SatL.pu (RunV.move rfl) rfl ?_
    first | refine SatL.pu (RunV.nil_ptr rfl) rfl ?_ | refine SatL.pu (RunV.nil_func rfl) rfl ?_ | refine SatL.pu (RunV.nil_yield rfl) rfl ?_
    first | refine SatL.pu (RunV.fieldAddrL rfl rfl rfl) rfl ?_ | refine SatL.pu (RunV.fieldAddr rfl rfl rfl) rfl ?_
    refine SatL.pu (RunV.load1 hS rfl rfl (by repeat constructor) rfl) rfl ?_
    refine SatL.op rfl (OpW.rangeM hS rfl rfl (by repeat constructor) hmp rfl ?_)
    clear hS
    intro b11 ro11 w2 _ hit hS
    refine SatL.nil (SatE.thenC ?_)
    refine SatC.block ?_
    refine SatC.loopK (G := List (Int × Value) × List Int × Value × List (Nat × Obj) × Obj × Option (Int × Value)) (V := fun ⟨left, acc, av, AB, ro, cur⟩ => [(3, av)]) (Cn := [(2, _), (11, _)]) (I := fun ⟨left, acc, av, AB, ro, cur⟩ w' => It encI m ro mo left cur ∧ (acc ++ left.map Prod.fst).Perm (ts.map (·.id)) ∧ Sl 3 1 av (acc.map ri) AB ∧ St w X (AB ++ ((b11, ro) :: (b, C 48 (wcs now m hs)) :: (m, mo) :: D)) w') (μ := fun ⟨left, acc, av, AB, ro, cur⟩ => left.length) (ts.map tkv, [], .slice none 0 0, [], ro11, none) ?_ (by repeat constructor) ?_
    · exact ⟨hit, by rw [hkv, List.nil_append], .nil, hS⟩
    clear hS
    rintro ⟨left, acc, av, AB, ro, cur⟩ w3 ⟨hit, hpm, hsa, hS⟩
    refine SatC.weak (e' := [(2, _), (3, _), (11, _)]) (by repeat constructor) ?_
    refine SatC.seq ?_
    refine SatC.region ?_
    refine SatL.op rfl (OpW.nextM hS rfl (by repeat constructor) hit _ (fun ro' => by repeat constructor) rfl ?_ ?_)
    · skip
      intro hnil
      refine SatL.pu (RunV.extract rfl rfl) rfl ?_
      refine SatL.nil (SatE.thenC ?_)
      refine SatC.seq ?_
      refine SatC.cond_f rfl ?_
      refine SatC.exit (SatE.then_exit (SatE.then_exit (SatE.blk_exit (SatE.thenC ?_))))
      refine SatC.seq ?_
      subst hnil
      rw [List.map_nil, List.append_nil] at hpm
      have hal : acc.length = ts.length := by have := hpm.length_eq; simpa using this
      refine SatC.region ?_
      refine SatL.pu (RunV.move rfl) rfl ?_
      refine SatL.op rfl (OpW.enter rfl rfl rfl (rfl) (sort_any acc hsa (hS.ownT (A := AB) (by repeat constructor)) (by omega)) ?_)
      rintro r5 w5 ⟨rfl, B5, hsl5, h⟩
      replace hS := hS.callT (A := AB) (by repeat constructor) h
      refine SatL.nil (SatE.thenC ?_)
      refine SatC.seq ?_
      refine SatC.region ?_
      refine SatL.pu (RunV.move rfl) rfl ?_
      refine SatL.pu (RunV.assign rfl) rfl ?_
      refine SatL.nil (SatE.thenC ?_)
      refine SatC.ret ?_
      refine SatE.ret1 rfl rfl ?_
      exact ⟨B5, by rw [← srt_perm hpm]; exact hsl5, hro (hS.sel (by repeat constructor))⟩
    · skip
      clear hS
      intro i12 p12 ro12 w4 hget hit2 hS
      refine SatL.pu (RunV.extract rfl rfl) rfl ?_
      refine SatL.nil (SatE.thenC ?_)
      refine SatC.seq ?_
      refine SatC.cond_t rfl ?_
      refine SatC.skip (SatE.thenC ?_)
      refine SatC.block ?_
      refine SatC.seq ?_
      have hll : acc.length + left.length = ts.length := by have := hpm.length_eq; simpa using this
      have hpl := (erase_perm hget).length_eq
      rw [List.length_cons] at hpl
      refine SatC.region ?_
      refine SatL.pu (RunV.entryM hS rfl (by repeat constructor) (by repeat constructor) hit2) rfl ?_
      refine SatL.pu (RunV.extract rfl rfl) rfl ?_
      refine SatL.pu (RunV.assign rfl) rfl ?_
      refine SatL.nil (SatE.thenC ?_)
      refine SatC.region ?_
      refine SatL.pu (RunV.move rfl) rfl ?_
      refine SatL.pu (RunV.move rfl) rfl ?_
      refine SatL.op rfl (OpW.buildSlice1 hS rfl rfl rfl rfl rfl (by repeat constructor) rfl rfl rfl ?_)
      clear hS
      intro b18 w5 _ hS
      refine SatL.op rfl (OpW.append1 hsa hS (by repeat constructor) rfl rfl (by repeat constructor) rfl rfl rfl rfl rfl rfl rfl rfl (by rw [List.length_map]; omega) rfl ?_)
      clear hS
      intro v19 B19 w6 hsl19 hS
      refine SatL.pu (RunV.assign rfl) rfl ?_
      refine SatL.nil (SatE.blk_normal ?_)
      refine SatE.again ((left.eraseIdx i12, acc ++ [p12.1], v19, B19, ro12, some p12)) ?_ (by first | omega | (dsimp only; omega)) (by repeat constructor)
      refine ⟨hit2, ?_, by rw [List.map_append]; exact hsl19, hS.sel (by repeat constructor)⟩
      refine List.Perm.trans ?_ hpm
      rw [List.append_assoc]
      refine List.Perm.append_left acc ?_
      exact ((erase_perm hget).map Prod.fst).symm
theorem next_d (hn : W.now ≤ 1000000000) (hdue : DueB 1100000000 W.ts) (hfew : W.ts.length ≤ 1000) (h : Whl b m W L) (hown : Own w L) :
    Ret Try.prog 20 #[.pointer (some ⟨b, 0, none⟩)] w fun u w' => u = .tuple #[.int .i64 (aNext W).1, .bool (aNext W).2] ∧ St w [] [] w' := by
  have hS := St.init hown
  generalize hX : L.map Prod.fst = X at hS
  have hro : ∀ {L' w'}, St w X (L' ++ L) w' → St w [] L' w' := fun h => St.roL hown (by rw [hX]; exact h.perm List.perm_append_comm) .here
  unfold aNext
  have hil : (srt (idsW W)).length = W.ts.length := by rw [srt_len]; unfold idsW; rw [List.length_map]
  generalize hys : srt (idsW W) = ys at hil ⊢
  generalize hR : ys.foldl (nstep W) (0, false) = R
  refine Ret.enter Try.func20 Try.ntmps20 rfl rfl ?_
  simp only [argEnv, Nat.reduceAdd]
  refine SatC.seq ?_
  refine SatC.region ?_
  refine SatL.pu (RunV.assign rfl) rfl ?_
  refine SatL.pu (RunV.assign rfl) rfl ?_
  refine SatL.nil (SatE.thenC ?_)
  refine SatC.seq ?_
  refine SatC.region ?_
  refine SatL.pu (RunV.assign rfl) rfl ?_
  refine SatL.pu (RunV.assign rfl) rfl ?_
  refine SatL.nil (SatE.thenC ?_)
  refine SatC.seq ?_
  refine SatC.seq ?_
  refine SatC.region ?_
  refine SatL.pu (RunV.move rfl) rfl ?_
  refine SatL.op rfl (OpW.enter rfl rfl rfl (rfl) (ids_d hfew h (hS.ownT (A := L) (.whole .all))) ?_)
  rintro r1 w1 ⟨AB, hsl, h2⟩
  replace hS := hS.callT (A := []) .nil h2
  rw [hys] at hsl
  obtain ⟨vc, hv⟩ := hsl.slv
  rw [List.length_map] at hv
  first | refine SatL.pu (RunV.lenR (by assumption) rfl rfl) rfl ?_ | refine SatL.pu (RunV.lenS rfl rfl) rfl ?_
  refine SatL.pu (RunV.move rfl) rfl ?_
  refine SatL.nil (SatE.thenC ?_)
  refine SatC.block ?_
  refine SatC.loopK (G := Nat × Int × Bool) (V := fun ⟨i, e, a⟩ => [(13, .int .i64 (i : Int)), (4, .int .i64 e), (5, .bool a)]) (Cn := [(0, _), (2, _), (3, _), (11, _), (12, _)]) (I := fun ⟨i, e, a⟩ w' => i ≤ ys.length ∧ (ys.drop i).foldl (nstep W) (e, a) = R ∧ St w X (AB ++ L) w') (μ := fun ⟨i, e, a⟩ => ys.length - i) (0, 0, false) ?_ (by repeat constructor) ?_
  · exact ⟨Nat.zero_le _, hR, hS⟩
  clear hS
  rintro ⟨i, e, a⟩ w2 ⟨hi, hf, hS⟩
  refine SatC.weak (e' := [(0, _), (2, _), (3, _), (4, _), (5, _), (11, _), (12, _), (13, _)]) (by repeat constructor) ?_
  refine SatC.seq ?_
  refine SatC.region ?_
  refine SatL.pu (RunV.lss rfl rfl) rfl ?_
  refine SatL.nil (SatE.thenC ?_)
  refine SatC.seq ?_
  refine SatC.cond rfl (fun h1 => ?_) (fun h1 => ?_)
  · (try simp only [cx, ne_eq] at h1)
    try (exfalso; (first | omega | exact h1 trivial | contradiction | (first | omega | (simp at h1; done))); done)
    all_goals
    refine SatC.skip (SatE.thenC ?_)
    refine SatC.seq ?_
    refine SatC.block ?_
    refine SatC.seq ?_
    obtain ⟨y, hy⟩ : ∃ y, ys[i]? = some y := ⟨_, List.getElem?_eq_getElem (by omega)⟩
    rw [List.drop_eq_getElem_cons (by omega : i < ys.length), List.foldl_cons, show ys[i] = y from by rw [List.getElem?_eq_getElem (by omega)] at hy; exact Option.some.inj hy] at hf
    refine SatC.region ?_
    first | refine SatL.pu (RunV.indexR (by assumption) rfl rfl rfl (by omega) (by omega) rfl) rfl ?_ | refine SatL.pu (RunV.indexS rfl rfl rfl (by omega) (by omega) rfl) rfl ?_
    refine SatL.pu (RunV.loadR1g i 0 (Sl.rd hsl hS (by repeat constructor)) rfl rfl (by omega) (map_get hy) rfl) rfl ?_
    refine SatL.pu (RunV.assign rfl) rfl ?_
    refine SatL.nil (SatE.thenC ?_)
    refine SatC.seq ?_
    refine SatC.region ?_
    refine SatL.pu (RunV.move rfl) rfl ?_
    refine SatL.pu (RunV.move rfl) rfl ?_
    refine SatL.op rfl (OpW.enter rfl rfl rfl (rfl) (left_d y hn hdue h (hS.ownT (A := L) (by repeat constructor))) ?_)
    rintro r3 w3 ⟨rfl, h⟩
    replace hS := St.callN hS h
    refine SatL.pu (RunV.move rfl) rfl ?_
    refine SatL.pu (RunV.extract rfl rfl) rfl ?_
    refine SatL.pu (RunV.extract rfl rfl) rfl ?_
    refine SatL.pu (RunV.assign rfl) rfl ?_
    refine SatL.pu (RunV.assign rfl) rfl ?_
    refine SatL.nil (SatE.thenC ?_)
    refine SatC.seq ?_
    refine SatC.region ?_
    refine SatL.pu (RunV.move rfl) rfl ?_
    refine SatL.pu (RunV.move rfl) rfl ?_
    refine SatL.guard rfl rfl rfl (fun h2 => ?_) (fun h2 => ?_)
    · (try simp only [cx, ne_eq] at h2)
      try (exfalso; (first | omega | exact h2 trivial | contradiction | (first | omega | (simp at h2; done))); done)
      all_goals
      refine SatL.pu (RunV.move rfl) rfl ?_
      refine SatL.guard_y rfl rfl ?_
      refine SatL.pu (RunV.not rfl) rfl ?_
      refine SatL.guard_y rfl rfl ?_
      refine SatL.pu (RunV.move rfl) rfl ?_
      refine SatL.guard rfl rfl rfl (fun h3 => ?_) (fun h3 => ?_)
      · (try simp only [cx, ne_eq] at h3)
        try (exfalso; (first | omega | exact h3 trivial | contradiction | (first | omega | (simp at h3; done))); done)
        all_goals
        refine SatL.pu (RunV.move rfl) rfl ?_
        refine SatL.guard_y rfl rfl ?_
        refine SatL.pu (RunV.move rfl) rfl ?_
        refine SatL.guard_y rfl rfl ?_
        refine SatL.pu (RunV.lss rfl rfl) rfl ?_
        refine SatL.guard_y rfl rfl ?_
        refine SatL.pu (RunV.pick_f rfl rfl) rfl ?_
        refine SatL.pu (RunV.pick_t rfl rfl) rfl ?_
        refine SatL.nil (SatE.thenC ?_)
        refine SatC.weak (e' := [(0, _), (2, _), (3, _), (4, _), (5, _), (8, _), (11, _), (12, _), (13, _), (32, _)]) (by repeat constructor) ?_
        refine SatC.cond rfl (fun h4 => ?_) (fun h4 => ?_)
        · (try simp only [cx, ne_eq] at h4)
          try (exfalso; (first | omega | exact h4 trivial | contradiction | (first | omega | (simp at h4; done))); done)
          all_goals
          refine SatC.region ?_
          refine SatL.pu (RunV.move rfl) rfl ?_
          refine SatL.pu (RunV.assign rfl) rfl ?_
          refine SatL.pu (RunV.assign rfl) rfl ?_
          refine SatL.nil (SatE.blk_normal (SatE.thenC ?_))
          refine SatC.region ?_
          refine SatL.pu (RunV.add rfl rfl (by first | exact wrapI64 (by omega) | rfl)) rfl ?_
          refine SatL.pu (RunV.move rfl) rfl ?_
          refine SatL.nil ?_
          by_cases hd : (tget W.ts y).isSome = true ∧ (a = false ∨ lft W y < e)
          · rw [nstep_y hd.1 hd.2] at hf
            first
            | (exfalso; clear hf hS hsl hR; simp_all; done)
            | (exfalso; clear hf hS hsl hR; simp_all; omega)
            | exact SatE.again (i + 1, lft W y, true) ⟨by omega, hf, hS⟩ (by dsimp only; omega) (by repeat constructor)
          · rw [nstep_n hd] at hf
            first
            | (exfalso; clear hf hS hsl hR; simp_all; done)
            | (exfalso; clear hf hS hsl hR; simp_all; omega)
            | exact SatE.again (i + 1, e, a) ⟨by omega, hf, hS⟩ (by dsimp only; omega) (by repeat constructor)
        · (try simp only [cx, ne_eq] at h4)
          try (exfalso; (first | omega | exact h4 trivial | contradiction | (first | omega | (simp at h4; done))); done)
          all_goals
          refine SatC.skip (SatE.blk_normal (SatE.thenC ?_))
          refine SatC.region ?_
          refine SatL.pu (RunV.add rfl rfl (by first | exact wrapI64 (by omega) | rfl)) rfl ?_
          refine SatL.pu (RunV.move rfl) rfl ?_
          refine SatL.nil ?_
          by_cases hd : (tget W.ts y).isSome = true ∧ (a = false ∨ lft W y < e)
          · rw [nstep_y hd.1 hd.2] at hf
            first
            | (exfalso; clear hf hS hsl hR; simp_all; done)
            | (exfalso; clear hf hS hsl hR; simp_all; omega)
            | exact SatE.again (i + 1, lft W y, true) ⟨by omega, hf, hS⟩ (by dsimp only; omega) (by repeat constructor)
          · rw [nstep_n hd] at hf
            first
            | (exfalso; clear hf hS hsl hR; simp_all; done)
            | (exfalso; clear hf hS hsl hR; simp_all; omega)
            | exact SatE.again (i + 1, e, a) ⟨by omega, hf, hS⟩ (by dsimp only; omega) (by repeat constructor)
      · (try simp only [cx, ne_eq] at h3)
        try (exfalso; (first | omega | exact h3 trivial | contradiction | (first | omega | (simp at h3; done))); done)
        all_goals
        refine SatL.guard_n rfl rfl rfl rfl ?_
        refine SatL.guard_n rfl rfl rfl rfl ?_
        refine SatL.guard_y rfl rfl ?_
        refine SatL.pu (RunV.pick_t rfl rfl) rfl ?_
        refine SatL.pu (RunV.pick_t rfl rfl) rfl ?_
        refine SatL.nil (SatE.thenC ?_)
        refine SatC.weak (e' := [(0, _), (2, _), (3, _), (4, _), (5, _), (8, _), (11, _), (12, _), (13, _), (32, _)]) (by repeat constructor) ?_
        refine SatC.cond_t rfl ?_
        refine SatC.region ?_
        refine SatL.pu (RunV.move rfl) rfl ?_
        refine SatL.pu (RunV.assign rfl) rfl ?_
        refine SatL.pu (RunV.assign rfl) rfl ?_
        refine SatL.nil (SatE.blk_normal (SatE.thenC ?_))
        refine SatC.region ?_
        refine SatL.pu (RunV.add rfl rfl (by first | exact wrapI64 (by omega) | rfl)) rfl ?_
        refine SatL.pu (RunV.move rfl) rfl ?_
        refine SatL.nil ?_
        by_cases hd : (tget W.ts y).isSome = true ∧ (a = false ∨ lft W y < e)
        · rw [nstep_y hd.1 hd.2] at hf
          first
          | (exfalso; clear hf hS hsl hR; simp_all; done)
          | (exfalso; clear hf hS hsl hR; simp_all; omega)
          | exact SatE.again (i + 1, lft W y, true) ⟨by omega, hf, hS⟩ (by dsimp only; omega) (by repeat constructor)
        · rw [nstep_n hd] at hf
          first
          | (exfalso; clear hf hS hsl hR; simp_all; done)
          | (exfalso; clear hf hS hsl hR; simp_all; omega)
          | exact SatE.again (i + 1, e, a) ⟨by omega, hf, hS⟩ (by dsimp only; omega) (by repeat constructor)
    · (try simp only [cx, ne_eq] at h2)
      try (exfalso; (first | omega | exact h2 trivial | contradiction | (first | omega | (simp at h2; done))); done)
      all_goals
      refine SatL.guard_n rfl rfl rfl rfl ?_
      refine SatL.guard_n rfl rfl rfl rfl ?_
      refine SatL.guard_u rfl rfl rfl ?_
      refine SatL.guard_u rfl rfl rfl ?_
      refine SatL.guard_u rfl rfl rfl ?_
      refine SatL.guard_n rfl rfl rfl rfl ?_
      refine SatL.pu (RunV.pick_f rfl rfl) rfl ?_
      refine SatL.nil (SatE.thenC ?_)
      refine SatC.weak (e' := [(0, _), (2, _), (3, _), (4, _), (5, _), (8, _), (11, _), (12, _), (13, _), (32, _)]) (by repeat constructor) ?_
      refine SatC.cond_f rfl ?_
      refine SatC.skip (SatE.blk_normal (SatE.thenC ?_))
      refine SatC.region ?_
      refine SatL.pu (RunV.add rfl rfl (by first | exact wrapI64 (by omega) | rfl)) rfl ?_
      refine SatL.pu (RunV.move rfl) rfl ?_
      refine SatL.nil ?_
      by_cases hd : (tget W.ts y).isSome = true ∧ (a = false ∨ lft W y < e)
      · rw [nstep_y hd.1 hd.2] at hf
        first
        | (exfalso; clear hf hS hsl hR; simp_all; done)
        | (exfalso; clear hf hS hsl hR; simp_all; omega)
        | exact SatE.again (i + 1, lft W y, true) ⟨by omega, hf, hS⟩ (by dsimp only; omega) (by repeat constructor)
      · rw [nstep_n hd] at hf
        first
        | (exfalso; clear hf hS hsl hR; simp_all; done)
        | (exfalso; clear hf hS hsl hR; simp_all; omega)
        | exact SatE.again (i + 1, e, a) ⟨by omega, hf, hS⟩ (by dsimp only; omega) (by repeat constructor)
  · (try simp only [cx, ne_eq] at h1)
    try (exfalso; (first | omega | exact h1 trivial | contradiction | (first | omega | (simp at h1; done))); done)
    all_goals
    refine SatC.exit (SatE.then_exit (SatE.then_exit (SatE.blk_exit (SatE.thenC ?_))))
    refine SatC.seq ?_
    refine SatC.region ?_
    refine SatL.pu (RunV.move rfl) rfl ?_
    refine SatL.pu (RunV.move rfl) rfl ?_
    refine SatL.pu (RunV.assign rfl) rfl ?_
    refine SatL.pu (RunV.assign rfl) rfl ?_
    refine SatL.nil (SatE.thenC ?_)
    refine SatC.ret ?_
    refine SatE.ret2 rfl rfl rfl ?_
    rw [List.drop_of_length_le (by omega)] at hf
    exact ⟨by rw [← hf]; rfl, hro (L' := []) (hS.sel (by repeat constructor))⟩
end
end Go.Proofs.Ytabladeenemfoaa
