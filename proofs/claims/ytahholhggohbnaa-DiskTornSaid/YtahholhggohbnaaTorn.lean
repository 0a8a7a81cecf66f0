/- DiskTorn: behind a crash a file has a beginning of what it had, which has all that was synced; and all of it is synced then. -/
import Derived.Test.YtahholhggohbnaaDs
import Derived.Test.YtahholhggohbnaaK7
import Derived.Test.YtahholhggohbnaaK16
import Derived.Test.YtahholhggohbnaaK25
import Derived.Test.YtahholhggohbnaaRows
set_option linter.unusedSimpArgs false
set_option linter.unusedVariables false
set_option maxRecDepth 100000
set_option maxHeartbeats 16000000
namespace Go.Proofs.Ytahholhggohbnaa
open Go.RowKit Go.ChangeShapes Go.WideShapes Go.ChangeAt
theorem vset {p s : List Fi} {x : Fi} (y : Fi) {o : Nat} (ho : o = p.length) : ((p ++ x :: s).map (·.v)).set o y.v = (p ++ y :: s).map (·.v) := by
  subst ho
  rw [List.map_append, List.map_append, List.map_cons, List.map_cons, List.set_append_right (h := by rw [List.length_map]; exact Nat.le_refl _), List.length_map, Nat.sub_self, List.set_cons_zero]
theorem file_mem {d : Dk} (ho : d.Ok) {n : Int} (hn : 0 ≤ n ∧ n < 4) : aFile d n ∈ d.fs := by
  unfold aFile
  rw [if_pos hn]
  obtain ⟨x, hx⟩ := get_some d.fs n.toNat (by have := ho.four; omega)
  rw [hx]
  exact List.mem_of_getElem? hx
theorem crash_file {d : Dk} (ho : d.Ok) (keep : Int) {n : Int} (hn : 0 ≤ n ∧ n < 4) : aFile (aCrash d keep) n = crashF keep (aFile d n) := by
  unfold aFile
  rw [if_pos hn, if_pos hn]
  obtain ⟨x, hx⟩ := get_some d.fs n.toNat (by have := ho.four; omega)
  show (d.fs.map (crashF keep))[n.toNat]?.getD ([], 0) = _
  rw [List.getElem?_map, hx]
  rfl
theorem torn_any (v : Value) (ys : List Stp) (keep : Int) (w : World) (hr : RdRow w v 4 (ys.map sr)) (hys : ∀ y ∈ ys, StB w y) : Ret Try.prog 4 #[v, .int .i64 keep] w fun u w' => u = .bool true ∧ St w [] [] w' := by
  have hS := St.init0 w
  obtain ⟨bl, ol, cl, hvl, hmaxl, hcl, hltl⟩ := hr.open
  simp only [List.length_map] at hvl hmaxl hltl
  refine Ret.enter Try.func4 Try.ntmps4 rfl rfl ?_
  simp only [argEnv, Nat.reduceAdd]
  refine SatC.seq ?_
  refine SatC.region ?_
  refine SatL.pu (RunV.assign rfl) rfl ?_
  refine SatL.nil (SatE.thenC ?_)
  refine SatC.seq ?_
  refine SatC.region ?_
  refine SatL.op rfl (OpW.enter rfl rfl rfl (rfl) (new_d 1048576 _) ?_)
  rintro r1 w1 ⟨b, L0, rfl, hd0, h⟩
  replace hS := hS.call0 h
  refine SatL.pu (RunV.assign rfl) rfl ?_
  refine SatL.nil (SatE.thenC ?_)
  refine SatC.seq ?_
  refine SatC.region ?_
  refine SatL.op rfl (OpW.enter rfl rfl rfl (rfl) (rnew_any 1048576 _) ?_)
  rintro r2 w2 ⟨rb, fs0, fv, FB0, rfl, hr0, h⟩
  replace hS := hS.call0 h
  simp only [RO, List.append_assoc, List.cons_append, List.nil_append, List.append_nil] at hS
  refine SatL.pu (RunV.assign rfl) rfl ?_
  refine SatL.nil (SatE.thenC ?_)
  refine SatC.merge (G := Dk × List (Nat × Obj)) (V := fun ⟨d, L⟩ => []) (Cn := [(1, _), (4, _), (5, _)]) (I := fun ⟨d, L⟩ w' => Dsk b d L ∧ St w [] L w') (by repeat constructor) ?_ ?_
  · skip
    refine SatC.seq ?_
    refine SatC.region ?_
    refine SatL.pu (RunV.assign rfl) rfl ?_
    refine SatL.nil (SatE.thenC ?_)
    refine SatC.block ?_
    refine SatC.loopK (G := Nat × Dk × List (Nat × Obj) × List Rf × List (Nat × Obj) × List (Nat × Obj)) (V := fun ⟨i, d, L, fs, FB, D⟩ => [(7, .int .i64 (i : Int))]) (Cn := [(0, _), (1, _), (4, _), (5, _), (6, _)]) (I := fun ⟨i, d, L, fs, FB, D⟩ w' => i ≤ ys.length ∧ Dsk b d L ∧ RRep d fs fv FB D ∧ St w [] (L ++ RO rb d fv FB D) w') (μ := fun ⟨i, d, L, fs, FB, D⟩ => ys.length - i) (0, newD 1048576, L0, fs0, FB0, []) ?_ (by repeat constructor) ?_
    · exact ⟨Nat.zero_le _, hd0, hr0, by simp only [RO, List.append_nil]; exact hS.sel (by repeat constructor)⟩
    clear hS
    rintro ⟨i, d, L, fs, FB, D⟩ w3 ⟨hi, hd, hrr, hS⟩
    have hown := hS.toOwn
    refine SatC.weak (e' := [(0, _), (1, _), (4, _), (5, _), (6, _), (7, _)]) (by repeat constructor) ?_
    refine SatC.seq ?_
    refine SatC.seq ?_
    refine SatC.region ?_
    refine SatL.pu (RunV.move rfl) rfl ?_
    refine SatL.pu (RunV.move rfl) rfl ?_
    first | refine SatL.pu (RunV.lenR (by assumption) rfl rfl) rfl ?_ | refine SatL.pu (RunV.lenS rfl rfl) rfl ?_
    refine SatL.pu (RunV.lss rfl rfl) rfl ?_
    refine SatL.pu (RunV.move rfl) rfl ?_
    refine SatL.guard rfl rfl rfl (fun h1 => ?_) (fun h1 => ?_)
    · (try simp only [cx, ne_eq] at h1)
      try (exfalso; (first | omega | exact h1 trivial | contradiction | (simp at h1; done)); done)
      all_goals
      refine SatL.pu (RunV.move rfl) rfl ?_
      refine SatL.guard_y rfl rfl ?_
      refine SatL.pu (RunV.lss rfl rfl) rfl ?_
      refine SatL.pu (RunV.pick_t rfl rfl) rfl ?_
      refine SatL.nil (SatE.thenC ?_)
      refine SatC.cond rfl (fun h2 => ?_) (fun h2 => ?_)
      · (try simp only [cx, ne_eq] at h2)
        try (exfalso; (first | omega | exact h2 trivial | contradiction | (simp at h2; done)); done)
        all_goals
        refine SatC.skip (SatE.thenC ?_)
        refine SatC.seq ?_
        refine SatC.block ?_
        obtain ⟨y, hy⟩ := get_some ys i (by omega)
        have hyb := hys y (List.mem_of_getElem? hy)
        have hcom : ∀ {W wq}, St w [] (L ++ RO rb d fv FB D) wq → St wq ((L ++ RO rb d fv FB D).map Prod.fst) [] W → St w [] [] W := fun h1 h => (St.call (B := []) (by rw [List.append_nil]; exact h1) h).sel .nil
        refine SatC.region ?_
        refine SatL.pu (RunV.move rfl) rfl ?_
        refine SatL.pu (RunV.move rfl) rfl ?_
        refine SatL.pu (RunV.move rfl) rfl ?_
        refine SatL.pu (RunV.move rfl) rfl ?_
        first | refine SatL.pu (RunV.indexR (by assumption) rfl rfl rfl (by omega) (by omega) rfl) rfl ?_ | refine SatL.pu (RunV.indexS rfl rfl rfl (by omega) (by omega) rfl) rfl ?_
        first | refine SatL.pu (RunV.loadRNz (RdC.st (by assumption) hS List.not_mem_nil) rfl rfl (by first | assumption | exact map_get (by assumption))) rfl ?_ | refine SatL.pu (RunV.loadRNz (Sl.rd (by assumption) hS (by repeat constructor)) rfl rfl (by first | assumption | exact map_get (by assumption))) rfl ?_
        refine SatL.op rfl (OpW.enter rfl rfl rfl (rfl) (step_any y hyb.1 hd hrr (fun W' h => RdRow.st hyb.2 (hcom hS h)) hS.toOwn) ?_)
        rintro r4 w4 ⟨rfl, L2, fs2, FB2, D2, hd2, hr2, h⟩
        replace hS := (St.call (B := []) (by rw [List.append_nil]; exact hS) h)
        simp only [RO, List.append_assoc, List.cons_append, List.nil_append, List.append_nil] at hS
        refine SatL.nil (SatE.blk_normal (SatE.thenC ?_))
        refine SatC.weak (e' := [(0, _), (1, _), (4, _), (5, _), (6, _), (7, _)]) (by repeat constructor) ?_
        refine SatC.region ?_
        refine SatL.pu (RunV.move rfl) rfl ?_
        refine SatL.pu (RunV.add rfl rfl (by first | exact wrapI64 (by omega) | rfl)) rfl ?_
        refine SatL.pu (RunV.assign rfl) rfl ?_
        refine SatL.nil ?_
        refine SatE.again ((i + 1, stepD d y, L2, fs2, FB2, D2)) ?_ (by first | omega | (dsimp only; omega)) (by repeat constructor)
        exact ⟨by omega, hd2, hr2, hS.sel (by repeat constructor)⟩
      · (try simp only [cx, ne_eq] at h2)
        try (exfalso; (first | omega | exact h2 trivial | contradiction | (simp at h2; done)); done)
        all_goals
        refine SatC.exit (SatE.then_exit (SatE.then_exit (SatE.blk_exit ?_)))
        refine SatE.met ((d, L)) ?_ (by repeat constructor)
        exact ⟨hd, hS.sel (by repeat constructor)⟩
    · (try simp only [cx, ne_eq] at h1)
      try (exfalso; (first | omega | exact h1 trivial | contradiction | (simp at h1; done)); done)
      all_goals
      refine SatL.guard_n rfl rfl rfl rfl ?_
      refine SatL.pu (RunV.pick_f rfl rfl) rfl ?_
      refine SatL.nil (SatE.thenC ?_)
      refine SatC.cond_f rfl ?_
      refine SatC.exit (SatE.then_exit (SatE.then_exit (SatE.blk_exit ?_)))
      refine SatE.met ((d, L)) ?_ (by repeat constructor)
      exact ⟨hd, hS.sel (by repeat constructor)⟩
  · clear hS
    rintro ⟨d, L⟩ w63 ⟨hd, hS⟩
    refine SatC.weak (e' := [(1, _), (4, _), (5, _)]) (by repeat constructor) ?_
    refine SatC.seq ?_
    refine SatC.region ?_
    refine SatL.op rfl (OpW.alloc hS rfl rfl (by repeat constructor) ?_)
    clear hS
    intro b8 w64 _ hS
    refine SatL.nil (SatE.thenC ?_)
    refine SatC.seq ?_
    refine SatC.region ?_
    refine SatL.op rfl (OpW.alloc hS rfl rfl (by repeat constructor) ?_)
    clear hS
    intro b9 w65 _ hS
    refine SatL.nil (SatE.thenC ?_)
    refine SatC.seq ?_
    refine SatC.seq ?_
    refine SatC.region ?_
    refine SatL.pu (RunV.assign rfl) rfl ?_
    refine SatL.nil (SatE.thenC ?_)
    refine SatC.block ?_
    refine SatC.loopK (G := Nat × List Fi × List Int) (V := fun ⟨j, hs, ss⟩ => [(10, .int .i64 (j : Int))]) (Cn := [(1, _), (4, _), (5, _), (8, _), (9, _)]) (I := fun ⟨j, hs, ss⟩ w' => j ≤ 4 ∧ hs.length = 4 ∧ ss.length = 4 ∧ SlF hs ∧ (∀ k, k < j → ∃ x, hs[k]? = some x ∧ x.b = (aFile d (k : Int)).1) ∧ (∀ k, k < j → ss[k]? = some (aFile d (k : Int)).2) ∧ St w [] ((b9, C 38 (ss.map (Value.int .i64))) :: (b8, C 37 (hs.map (·.v))) :: (dbl hs ++ L)) w') (μ := fun ⟨j, hs, ss⟩ => 4 - j) (0, List.replicate 4 zfi, [0, 0, 0, 0]) ?_ (by repeat constructor) ?_
    · exact ⟨Nat.zero_le _, rfl, rfl, (fun x hx => by obtain rfl := (List.mem_replicate.1 hx).2; exact .nil), (fun k hk => by omega), (fun k hk => by omega), hS.sel (R := (b9, C 38 [.int .i64 0, .int .i64 0, .int .i64 0, .int .i64 0]) :: (b8, C 37 [.slice none 0 0, .slice none 0 0, .slice none 0 0, .slice none 0 0]) :: L) (by repeat constructor)⟩
    clear hS
    rintro ⟨j, hs, ss⟩ w66 ⟨hj, hl4, hs4, hslh, hhs, hss, hS⟩
    refine SatC.weak (e' := [(1, _), (4, _), (5, _), (8, _), (9, _), (10, _)]) (by repeat constructor) ?_
    refine SatC.seq ?_
    refine SatC.seq ?_
    refine SatC.region ?_
    refine SatL.pu (RunV.move rfl) rfl ?_
    refine SatL.pu (RunV.lss rfl rfl) rfl ?_
    refine SatL.nil (SatE.thenC ?_)
    refine SatC.cond rfl (fun h1 => ?_) (fun h1 => ?_)
    · (try simp only [cx, ne_eq] at h1)
      try (exfalso; (first | omega | exact h1 trivial | contradiction | (simp at h1; done)); done)
      all_goals
      refine SatC.skip (SatE.thenC ?_)
      refine SatC.seq ?_
      refine SatC.block ?_
      refine SatC.seq ?_
      obtain ⟨p, x, s, hhe, hp⟩ := split_at (l := hs) (n := j) (by omega)
      subst hhe
      simp only [dbl, List.flatMap_append, List.flatMap_cons, List.append_assoc, List.cons_append, List.nil_append] at hS
      generalize hDp : List.flatMap (fun x : Fi => x.B) p = Dp at hS
      generalize hDs : List.flatMap (fun x : Fi => x.B) s = Ds at hS
      refine SatC.region ?_
      refine SatL.pu (RunV.move rfl) rfl ?_
      refine SatL.pu (RunV.move rfl) rfl ?_
      refine SatL.pu (RunV.move rfl) rfl ?_
      refine SatL.op rfl (OpW.enter rfl rfl rfl (rfl) (read_d (j : Int) hd (hS.ownT (A := L) (by repeat constructor))) ?_)
      rintro r67 w67 ⟨B39, hsl39, h⟩
      replace hS := hS.call0 h
      obtain ⟨v39, rfl⟩ : ∃ v, v = r67 := ⟨_, rfl⟩
      refine SatL.pu (RunV.indexA rfl rfl rfl (by omega) (by omega) rfl) rfl ?_
      refine SatL.op rfl (OpW.storeAt (T := 37) (cs := (p ++ x :: s).map (·.v)) hS rfl rfl (by rw [List.length_map, hl4]; omega) (vset ⟨v39, (aFile d (j : Int)).1, 0, B39⟩ (by omega)) (by repeat constructor) rfl hsl39.one ?_)
      clear hS
      intro w68 hS
      refine SatL.nil (SatE.thenC ?_)
      refine SatC.region ?_
      refine SatL.pu (RunV.move rfl) rfl ?_
      refine SatL.pu (RunV.move rfl) rfl ?_
      refine SatL.pu (RunV.move rfl) rfl ?_
      refine SatL.op rfl (OpW.enter rfl rfl rfl (rfl) (synced_d (j : Int) hd (hS.ownT (A := L) (by repeat constructor))) ?_)
      rintro r69 w69 ⟨rfl, h⟩
      replace hS := St.callN hS h
      refine SatL.pu (RunV.indexA rfl rfl rfl (by omega) (by omega) rfl) rfl ?_
      refine SatL.op rfl (OpW.storeAt (T := 38) (cs := ss.map (Value.int .i64)) (cs' := (ss.set j (aFile d (j : Int)).2).map (Value.int .i64)) hS rfl rfl (by rw [List.length_map, hs4]; omega) (by rw [show 0 + (j : Int).toNat * 1 = j from by omega]; exact List.map_set.symm) (by repeat constructor) rfl rfl ?_)
      clear hS
      intro w70 hS
      refine SatL.nil (SatE.blk_normal (SatE.thenC ?_))
      refine SatC.weak (e' := [(1, _), (4, _), (5, _), (8, _), (9, _), (10, _)]) (by repeat constructor) ?_
      refine SatC.region ?_
      refine SatL.pu (RunV.move rfl) rfl ?_
      refine SatL.pu (RunV.add rfl rfl (by first | exact wrapI64 (by omega) | rfl)) rfl ?_
      refine SatL.pu (RunV.assign rfl) rfl ?_
      refine SatL.nil ?_
      refine SatE.again ((j + 1, p ++ ⟨v39, (aFile d (j : Int)).1, 0, B39⟩ :: s, ss.set j (aFile d (j : Int)).2)) ?_ (by first | omega | (dsimp only; omega)) (by repeat constructor)
      refine ⟨by omega, by simpa using hl4, by rw [List.length_set]; exact hs4, hslh.upd hsl39, fun k hk => ?_, fun k hk => ?_, ?_⟩
      · by_cases e : k = j
        · subst e
          exact ⟨_, by rw [List.getElem?_append_right (by omega), hp, Nat.sub_self]; rfl, rfl⟩
        · obtain ⟨z, hz, hzb⟩ := hhs k (by omega)
          rw [List.getElem?_append_left (by omega)] at hz
          exact ⟨z, by rw [List.getElem?_append_left (by omega)]; exact hz, hzb⟩
      · by_cases e : k = j
        · subst e
          rw [List.getElem?_set_self (by omega)]
        · rw [List.getElem?_set_ne (by omega)]
          exact hss k (by omega)
      · simp only [dbl, List.flatMap_append, List.flatMap_cons, List.append_assoc, List.cons_append, List.nil_append]
        rw [hDp, hDs]
        exact hS.sel (by repeat constructor)
    · (try simp only [cx, ne_eq] at h1)
      try (exfalso; (first | omega | exact h1 trivial | contradiction | (simp at h1; done)); done)
      all_goals
      refine SatC.exit (SatE.then_exit (SatE.then_exit (SatE.blk_exit (SatE.thenC ?_))))
      refine SatC.seq ?_
      generalize hDB : dbl hs = DB at hS
      refine SatC.region ?_
      refine SatL.pu (RunV.move rfl) rfl ?_
      refine SatL.pu (RunV.move rfl) rfl ?_
      refine SatL.op rfl (OpW.enter rfl rfl rfl (rfl) (crash_d keep hd (hS.ownT (A := L) (by repeat constructor))) ?_)
      rintro r67 w67 ⟨L3, hd3, h⟩
      replace hS := hS.callT (A := L) (by repeat constructor) h
      refine SatL.nil (SatE.thenC ?_)
      refine SatC.seq ?_
      refine SatC.seq ?_
      refine SatC.region ?_
      refine SatL.pu (RunV.assign rfl) rfl ?_
      refine SatL.nil (SatE.thenC ?_)
      refine SatC.block ?_
      refine SatC.loopK (G := Nat) (V := fun k => [(11, .int .i64 (k : Int))]) (Cn := [(5, _), (8, _), (9, _), (4, _)]) (I := fun k w' => k ≤ 4 ∧ St w [] ((b9, C 38 (ss.map (Value.int .i64))) :: (b8, C 37 (hs.map (·.v))) :: (L3 ++ DB)) w') (μ := fun k => 4 - k) 0 ?_ (by repeat constructor) ?_
      · exact ⟨Nat.zero_le _, hS.sel (by repeat constructor)⟩
      clear hS
      rintro k w68 ⟨hk, hS⟩
      refine SatC.weak (e' := [(4, _), (5, _), (8, _), (9, _), (11, _)]) (by repeat constructor) ?_
      refine SatC.seq ?_
      refine SatC.seq ?_
      refine SatC.region ?_
      refine SatL.pu (RunV.move rfl) rfl ?_
      refine SatL.pu (RunV.lss rfl rfl) rfl ?_
      refine SatL.nil (SatE.thenC ?_)
      refine SatC.cond rfl (fun h2 => ?_) (fun h2 => ?_)
      · (try simp only [cx, ne_eq] at h2)
        try (exfalso; (first | omega | exact h2 trivial | contradiction | (simp at h2; done)); done)
        all_goals
        refine SatC.skip (SatE.thenC ?_)
        refine SatC.seq ?_
        refine SatC.block ?_
        refine SatC.seq ?_
        obtain ⟨x0, hx0, hxb⟩ := hhs k (by omega)
        have hsk := hss k (by omega)
        obtain ⟨p, x, s, hhe, hp⟩ := split_at (l := hs) (n := k) (by omega)
        subst hhe
        have hxx : x = x0 := by
          rw [List.getElem?_append_right (by omega), hp, Nat.sub_self] at hx0
          simpa using hx0
        subst hxx
        have hfm := file_mem hd.ok (n := (k : Int)) (by omega)
        obtain ⟨hs0, hs1⟩ := hd.ok.sync _ hfm
        have hcf := crash_file hd.ok keep (n := (k : Int)) (by omega)
        have hlen := mem_used hfm
        have hus := hd.ok.used
        have hroom := hd.ok.room
        generalize aFile d (k : Int) = f at hxb hsk hs0 hs1 hcf hlen
        have hq0 := Int.emod_nonneg (max keep 0) (show (f.1.length : Int) - f.2 + 1 ≠ 0 by omega)
        have hq1 := Int.emod_lt_of_pos (max keep 0) (show 0 < (f.1.length : Int) - f.2 + 1 by omega)
        unfold crashF at hcf
        generalize hKe : f.2 + max keep 0 % ((f.1.length : Int) - f.2 + 1) = K at hcf
        have hK : f.2 ≤ K ∧ K ≤ f.1.length := by omega
        have hxbl : x.b.length = f.1.length := by rw [hxb]
        have hxsl := hslh x (by simp)
        obtain ⟨xc, hxv⟩ := hxsl.slv
        rw [List.length_map] at hxv
        have eDB : DB = dbl p ++ (x.B ++ dbl s) := by rw [← hDB]; simp only [dbl, List.flatMap_append, List.flatMap_cons]
        clear hDB
        generalize dbl p = Dp at eDB
        generalize dbl s = Ds at eDB
        subst eDB
        refine SatC.region ?_
        refine SatL.pu (RunV.move rfl) rfl ?_
        refine SatL.pu (RunV.move rfl) rfl ?_
        refine SatL.op rfl (OpW.enter rfl rfl rfl (rfl) (read_d (k : Int) hd3 (hS.ownT (A := L3) (by repeat constructor))) ?_)
        rintro r69 w69 ⟨B55, hsl55, h⟩
        replace hS := hS.call0 h
        rw [hcf] at hsl55
        obtain ⟨c55, hv55⟩ := hsl55.slv
        rw [List.length_map, List.length_take] at hv55
        refine SatL.pu (RunV.assign rfl) rfl ?_
        refine SatL.nil (SatE.thenC ?_)
        refine SatC.seq ?_
        refine SatC.drawnT 35 hS (hS) (by kernel_rfl) ?_
        clear hS
        intro w70 hh hS hD
        refine SatD.tk 0 rfl hD (fun _ hw => RunV.move rfl) ?_
        refine SatD.tk 1 rfl hD (fun _ hw => RunV.lenR hv55 rfl rfl) ?_
        refine SatD.tk 2 rfl hD (fun _ hw => RunV.move rfl) ?_
        refine SatD.tk 3 rfl hD (fun _ hw => RunV.indexA rfl rfl rfl (by omega) (by omega) rfl) ?_
        refine SatD.tk 4 rfl hD (fun _ hw => RunV.load1 hw rfl rfl (by repeat constructor) (show (ss.map (Value.int .i64))[0 + (k : Int).toNat * 1]? = some (.int .i64 f.2) from by rw [show 0 + (k : Int).toNat * 1 = k from by omega, List.getElem?_map, hsk]; rfl)) ?_
        refine SatD.tk 5 rfl hD (fun _ hw => RunV.lss rfl rfl) ?_
        refine SatD.tk 6 rfl hD (fun _ hw => RunV.move rfl) ?_
        refine SatD.ways 62 rfl (fun h3 => ?_) (fun h3 => ?_)
        · (try simp only [cx, ne_eq] at h3)
          try (exfalso; (first | omega | exact h3 trivial | contradiction | (simp at h3; done)); done)
          all_goals
          refine SatD.sk 7 rfl [] hD ?_
          refine SatD.sk 8 rfl [] hD ?_
          refine SatD.sk 9 rfl [] hD ?_
          refine SatD.sk 10 rfl [] hD ?_
          refine SatD.sk 11 rfl [] hD ?_
          refine SatD.sk 12 rfl [] hD ?_
          refine SatD.sk 13 rfl [] hD ?_
          refine SatD.tk 14 rfl hD (fun _ hw => RunV.pick_t rfl rfl) ?_
          refine SatD.tk 15 rfl hD (fun _ hw => RunV.move rfl) ?_
          refine SatD.sk 16 rfl [] hD ?_
          refine SatD.sk 17 rfl [] hD ?_
          refine SatD.sk 18 rfl [] hD ?_
          refine SatD.sk 19 rfl [] hD ?_
          refine SatD.sk 20 rfl [] hD ?_
          refine SatD.sk 21 rfl [] hD ?_
          refine SatD.sk 22 rfl [] hD ?_
          refine SatD.sk 23 rfl [] hD ?_
          refine SatD.sk 24 rfl [] hD ?_
          refine SatD.sk 25 rfl [] hD ?_
          refine SatD.tk 26 rfl hD (fun _ hw => RunV.pick_t rfl rfl) ?_
          refine SatD.tk 27 rfl hD (fun _ hw => RunV.move rfl) ?_
          refine SatD.sk 28 rfl [] hD ?_
          refine SatD.sk 29 rfl [] hD ?_
          refine SatD.sk 30 rfl [] hD ?_
          refine SatD.sk 31 rfl [] hD ?_
          refine SatD.sk 32 rfl [] hD ?_
          refine SatD.sk 33 rfl [] hD ?_
          refine SatD.tk 34 rfl hD (fun _ hw => RunV.pick_t rfl rfl) ?_
          refine SatD.done 0 (by kernel_rfl) (SatE.thenC ?_)
          clear hD
          refine SatC.weak (e' := [(4, _), (5, _), (8, _), (9, _), (11, _), (90, _)]) (by repeat constructor) ?_
          refine SatC.cond_t rfl ?_
          refine SatC.seq ?_
          refine SatC.region ?_
          refine SatL.pu (RunV.assign rfl) rfl ?_
          refine SatL.nil (SatE.thenC ?_)
          refine SatC.ret (SatE.blk_ret (SatE.then_ret (SatE.then_ret (SatE.blk_ret (SatE.then_ret ?_)))))
          refine SatE.ret1 rfl rfl ?_
          first
          | exact ⟨rfl, hS.sel .nil⟩
          | (exfalso; omega)
          | (exfalso; simp_all; done)
        · (try simp only [cx, ne_eq] at h3)
          try (exfalso; (first | omega | exact h3 trivial | contradiction | (simp at h3; done)); done)
          all_goals
          refine SatD.tk 7 rfl hD (fun _ hw => RunV.move rfl) ?_
          refine SatD.tk 8 rfl hD (fun _ hw => RunV.lenR hv55 rfl rfl) ?_
          refine SatD.tk 9 rfl hD (fun _ hw => RunV.move rfl) ?_
          refine SatD.tk 10 rfl hD (fun _ hw => RunV.indexA rfl rfl rfl (by omega) (by omega) rfl) ?_
          refine SatD.tk 11 rfl hD (fun _ hw => RunV.load1 hw rfl rfl (by repeat constructor) (show ((p ++ x :: s).map (·.v))[0 + (k : Int).toNat * 1]? = some x.v from by rw [show 0 + (k : Int).toNat * 1 = k from by omega, List.getElem?_map, hx0]; rfl)) ?_
          refine SatD.tk 12 rfl hD (fun _ hw => RunV.lenR hxv rfl rfl) ?_
          refine SatD.tk 13 rfl hD (fun _ hw => RunV.gtr rfl rfl) ?_
          refine SatD.tk 14 rfl hD (fun _ hw => RunV.pick_f rfl rfl) ?_
          refine SatD.tk 15 rfl hD (fun _ hw => RunV.move rfl) ?_
          refine SatD.ways 71 rfl (fun h4 => ?_) (fun h4 => ?_)
          · (try simp only [cx, ne_eq] at h4)
            try (exfalso; (first | omega | exact h4 trivial | contradiction | (simp at h4; done)); done)
            all_goals
            refine SatD.sk 16 rfl [] hD ?_
            refine SatD.sk 17 rfl [] hD ?_
            refine SatD.sk 18 rfl [] hD ?_
            refine SatD.sk 19 rfl [] hD ?_
            refine SatD.sk 20 rfl [] hD ?_
            refine SatD.sk 21 rfl [] hD ?_
            refine SatD.sk 22 rfl [] hD ?_
            refine SatD.sk 23 rfl [] hD ?_
            refine SatD.sk 24 rfl [] hD ?_
            refine SatD.sk 25 rfl [] hD ?_
            refine SatD.tk 26 rfl hD (fun _ hw => RunV.pick_t rfl rfl) ?_
            refine SatD.tk 27 rfl hD (fun _ hw => RunV.move rfl) ?_
            refine SatD.sk 28 rfl [] hD ?_
            refine SatD.sk 29 rfl [] hD ?_
            refine SatD.sk 30 rfl [] hD ?_
            refine SatD.sk 31 rfl [] hD ?_
            refine SatD.sk 32 rfl [] hD ?_
            refine SatD.sk 33 rfl [] hD ?_
            refine SatD.tk 34 rfl hD (fun _ hw => RunV.pick_t rfl rfl) ?_
            refine SatD.done 0 (by kernel_rfl) (SatE.thenC ?_)
            clear hD
            refine SatC.weak (e' := [(4, _), (5, _), (8, _), (9, _), (11, _), (90, _)]) (by repeat constructor) ?_
            refine SatC.cond_t rfl ?_
            refine SatC.seq ?_
            refine SatC.region ?_
            refine SatL.pu (RunV.assign rfl) rfl ?_
            refine SatL.nil (SatE.thenC ?_)
            refine SatC.ret (SatE.blk_ret (SatE.then_ret (SatE.then_ret (SatE.blk_ret (SatE.then_ret ?_)))))
            refine SatE.ret1 rfl rfl ?_
            first
            | exact ⟨rfl, hS.sel .nil⟩
            | (exfalso; omega)
            | (exfalso; simp_all; done)
          · (try simp only [cx, ne_eq] at h4)
            try (exfalso; (first | omega | exact h4 trivial | contradiction | (simp at h4; done)); done)
            all_goals
            refine SatD.tk 16 rfl hD (fun _ hw => RunV.move rfl) ?_
            refine SatD.tk 17 rfl hD (fun _ hw => RunV.b2s (cs := f.1.take K.toNat) hv55 (hsl55.rd hw (by repeat constructor)) (List.length_take ..) rfl rfl rfl rfl) ?_
            refine SatD.tk 18 rfl hD (fun _ hw => RunV.move rfl) ?_
            refine SatD.tk 19 rfl hD (fun _ hw => RunV.indexA rfl rfl rfl (by omega) (by omega) rfl) ?_
            refine SatD.tk 20 rfl hD (fun _ hw => RunV.load1 hw rfl rfl (by repeat constructor) (show ((p ++ x :: s).map (·.v))[0 + (k : Int).toNat * 1]? = some x.v from by rw [show 0 + (k : Int).toNat * 1 = k from by omega, List.getElem?_map, hx0]; rfl)) ?_
            refine SatD.tk 21 rfl hD (fun _ hw => RunV.move rfl) ?_
            refine SatD.tk 22 rfl hD (fun _ hw => RunV.lenR hv55 rfl rfl) ?_
            refine SatD.tk 23 rfl hD (fun _ hw => RunV.cutHv hxv rfl rfl rfl rfl (by omega) (by rw [hxb]; omega)) ?_
            refine SatD.tk 24 rfl hD (fun _ hw => RunV.b2s (cs := f.1.take K.toNat) (SlV.cutV 1 hxv (Nat.zero_le _) (by rw [hxb]; omega)) (by rw [Nat.zero_mul, Nat.add_zero, ← hxb, List.map_take]; exact (hxsl.rd hw (by repeat constructor)).take) (by rw [List.length_take]; omega) rfl rfl rfl rfl) ?_
            refine SatD.tk 25 rfl hD (fun _ hw => RunV.sneq rfl rfl) ?_
            refine SatD.tk 26 rfl hD (fun _ hw => RunV.pick_f rfl rfl) ?_
            refine SatD.tk 27 rfl hD (fun _ hw => RunV.move rfl) ?_
            refine SatD.ways 83 rfl (fun h5 => ?_) (fun h5 => ?_)
            · (try simp only [cx, ne_eq] at h5)
              try (exfalso; (first | omega | exact h5 trivial | contradiction | (simp at h5; done)); done)
              all_goals
              refine SatD.sk 28 rfl [] hD ?_
              refine SatD.sk 29 rfl [] hD ?_
              refine SatD.sk 30 rfl [] hD ?_
              refine SatD.sk 31 rfl [] hD ?_
              refine SatD.sk 32 rfl [] hD ?_
              refine SatD.sk 33 rfl [] hD ?_
              refine SatD.tk 34 rfl hD (fun _ hw => RunV.pick_t rfl rfl) ?_
              refine SatD.done 0 (by kernel_rfl) (SatE.thenC ?_)
              clear hD
              refine SatC.weak (e' := [(4, _), (5, _), (8, _), (9, _), (11, _), (90, _)]) (by repeat constructor) ?_
              refine SatC.cond_t rfl ?_
              refine SatC.seq ?_
              refine SatC.region ?_
              refine SatL.pu (RunV.assign rfl) rfl ?_
              refine SatL.nil (SatE.thenC ?_)
              refine SatC.ret (SatE.blk_ret (SatE.then_ret (SatE.then_ret (SatE.blk_ret (SatE.then_ret ?_)))))
              refine SatE.ret1 rfl rfl ?_
              first
              | exact ⟨rfl, hS.sel .nil⟩
              | (exfalso; omega)
              | (exfalso; simp_all; done)
            · (try simp only [cx, ne_eq] at h5)
              try (exfalso; (first | omega | exact h5 trivial | contradiction | (simp at h5; done)); done)
              all_goals
              refine SatD.tk 28 rfl hD (fun _ hw => RunV.move rfl) ?_
              refine SatD.tk 29 rfl hD (fun _ hw => RunV.move rfl) ?_
              refine SatD.tk 31 rfl hD (fun _ hw => RunV.move rfl) ?_
              refine SatD.tk 32 rfl hD (fun _ hw => RunV.lenR hv55 rfl rfl) ?_
              refine SatD.ef 30 rfl (OpW.enter rfl rfl rfl (rfl) (synced_d (k : Int) hd3 (hS.ownT (A := L3) (by repeat constructor))) ?_)
              rintro r71 w71 ⟨rfl, h⟩
              replace hS := St.callN hS h
              rw [hcf]
              refine keepS (hS.sel (by repeat constructor)) (fun hD => ?_)
              refine SatD.tk 33 rfl hD (fun _ hw => RunV.neq rfl rfl) ?_
              refine SatD.tk 34 rfl hD (fun _ hw => RunV.pick_f rfl rfl) ?_
              refine SatD.done 0 (by kernel_rfl) (SatE.thenC ?_)
              clear hD
              refine SatC.weak (e' := [(4, _), (5, _), (8, _), (9, _), (11, _), (90, _)]) (by repeat constructor) ?_
              refine SatC.cond rfl (fun h6 => ?_) (fun h6 => ?_)
              · (try simp only [cx, ne_eq] at h6)
                try (exfalso; (first | omega | exact h6 trivial | contradiction | (simp at h6; done)); done)
                all_goals
                refine SatC.seq ?_
                refine SatC.region ?_
                refine SatL.pu (RunV.assign rfl) rfl ?_
                refine SatL.nil (SatE.thenC ?_)
                refine SatC.ret (SatE.blk_ret (SatE.then_ret (SatE.then_ret (SatE.blk_ret (SatE.then_ret ?_)))))
                refine SatE.ret1 rfl rfl ?_
                first
                | exact ⟨rfl, hS.sel .nil⟩
                | (exfalso; omega)
                | (exfalso; simp_all; done)
              · (try simp only [cx, ne_eq] at h6)
                try (exfalso; (first | omega | exact h6 trivial | contradiction | (simp at h6; done)); done)
                all_goals
                refine SatC.skip (SatE.blk_normal (SatE.thenC ?_))
                refine SatC.region ?_
                refine SatL.pu (RunV.move rfl) rfl ?_
                refine SatL.pu (RunV.add rfl rfl (by first | exact wrapI64 (by omega) | rfl)) rfl ?_
                refine SatL.pu (RunV.assign rfl) rfl ?_
                refine SatL.nil ?_
                refine SatE.again (k + 1) ?_ (by first | omega | (dsimp only; omega)) (by repeat constructor)
                exact ⟨by omega, hS.sel (by repeat constructor)⟩
      · (try simp only [cx, ne_eq] at h2)
        try (exfalso; (first | omega | exact h2 trivial | contradiction | (simp at h2; done)); done)
        all_goals
        refine SatC.exit (SatE.then_exit (SatE.then_exit (SatE.blk_exit (SatE.thenC ?_))))
        refine SatC.seq ?_
        refine SatC.region ?_
        refine SatL.pu (RunV.move rfl) rfl ?_
        refine SatL.op rfl (OpW.enter rfl rfl rfl (rfl) (down_d hd3 (hS.ownT (A := L3) (by repeat constructor))) ?_)
        rintro r69 w69 ⟨rfl, h⟩
        replace hS := St.callN hS h
        rw [show (aCrash d keep).down = false from rfl]
        refine SatL.pu (RunV.not rfl) rfl ?_
        refine SatL.pu (RunV.move rfl) rfl ?_
        refine SatL.guard rfl rfl rfl (fun h3 => ?_) (fun h3 => ?_)
        · (try simp only [cx, ne_eq] at h3)
          try (exfalso; (first | omega | exact h3 trivial | contradiction | (simp at h3; done)); done)
          all_goals
          refine SatL.op rfl (OpW.enter rfl rfl rfl (rfl) (works_any _) ?_)
          rintro r70 w70 ⟨rfl, h⟩
          replace hS := St.callN hS h
          refine SatL.pu (RunV.pick_t rfl rfl) rfl ?_
          refine SatL.pu (RunV.assign rfl) rfl ?_
          refine SatL.nil (SatE.thenC ?_)
          refine SatC.ret ?_
          refine SatE.ret1 rfl rfl ?_
          first
          | exact ⟨rfl, hS.sel .nil⟩
          | (exfalso; omega)
          | (exfalso; simp_all; done)
        · (try simp only [cx, ne_eq] at h3)
          try (exfalso; (first | omega | exact h3 trivial | contradiction | (simp at h3; done)); done)
          all_goals
          refine SatL.pu (RunV.pick_f rfl rfl) rfl ?_
          refine SatL.pu (RunV.assign rfl) rfl ?_
          refine SatL.nil (SatE.thenC ?_)
          refine SatC.ret ?_
          refine SatE.ret1 rfl rfl ?_
          first
          | exact ⟨rfl, hS.sel .nil⟩
          | (exfalso; omega)
          | (exfalso; simp_all; done)
theorem diskTorn_lifted (os : Os) (started : os.Started) (H : Type) (enc : TypeId × Value → H) :
    ReturnsInHanded {} Try.checked os 4 .any (Rows.diskTornSpec.pre6 enc Try.prog Try.f4 Rows.diskTornRow.domain false) (Rows.diskTornSpec.post enc Try.prog Try.f4 false true false false) := by
  refine law_returns (C := Try.checked) (b := 4) (by kernel_rfl) started (by kernel_rfl) Try.func4
    (ChangeSpec.witness6 (enc := enc) (C := Try.checked) false ⟨#[], #[.slice none 0 0, .int .i64 0], []⟩ 8 (by kernel_rfl) (by kernel_rfl) (by kernel_rfl) (by kernel_rfl))
    rfl rfl (by kernel_rfl) (by kernel_rfl) (by kernel_rfl) (fun ds h => ?_) ?_
  · rw [Try.params4] at h
    match ds, h with
    | [_, _], _ => rfl
  intro W base args ds ps hval hA hsz
  rw [Try.params4] at hA hval
  obtain ⟨v0, v1, d0, d1, q0, q1, hargs, rfl, rfl, h0, h1⟩ := trodAll_two hA
  subst hargs
  obtain ⟨xs0, hr0, hx0⟩ := open_rows (l := [3, 3, 3, 22]) 6 Try.underlying23 (by kernel_rfl) (by kernel_rfl) (by decide) (hval 0 23 v0 rfl rfl) h0
  obtain ⟨a1, rfl, rfl, rfl, b1⟩ := open_int Try.underlying3 (hval 1 3 v1 rfl rfl) h1
  replace b1 := bnd_i64 b1
  obtain ⟨ys0, rfl, hy0⟩ := rows_map (enc' := sr) (q := StB W) (fun r hr => by
    obtain ⟨u0, u1, u2, u3, rfl, l0, l1, l2, l3⟩ := allLeaf_list4 hr
    obtain ⟨n0, rfl, e0⟩ := leaf_int Try.underlying3 l0
    obtain ⟨n1, rfl, e1⟩ := leaf_int Try.underlying3 l1
    obtain ⟨n2, rfl, e2⟩ := leaf_int Try.underlying3 l2
    obtain ⟨xb, hb, hxb⟩ := leaf_rows (l := [5]) 6 Try.underlying22 (by kernel_rfl) (by kernel_rfl) (by decide) l3
    obtain ⟨bs, rfl, _⟩ := rows_map (enc' := by1c) (q := fun _ => True) (fun r hr => by
      obtain ⟨u, rfl, lu⟩ := allLeaf_list1 hr
      obtain ⟨m, rfl, em⟩ := leaf_int Try.underlying5 lu
      obtain ⟨c, rfl⟩ : ∃ c : UInt8, m = (c.toNat : Int) := ⟨UInt8.ofNat m.toNat, by have := bnd_u8 em; simp; omega⟩
      exact ⟨c, rfl, trivial⟩) xb hxb
    exact ⟨⟨n0, n1, n2, u3, bs⟩, rfl, bnd_i64 e2, hb⟩) xs0 hx0
  exact law_done (torn_any _ ys0 a1 W hr0 hy0)
theorem diskTorn_holds : Rows.DiskTornSaid :=
  OpenClaim.holds_of_wide 4 Try.f4 rfl rfl rfl rfl rfl rfl rfl ⟨rfl, rfl, rfl, rfl, rfl⟩ rfl rfl rfl rfl rfl (by kernel_rfl) Try.func4 (by kernel_rfl)
    (of_decide_eq_true (by kernel_rfl)) (by unfold Func.isWrapper; first | (rw [if_pos (by decide +kernel)]; kernel_rfl) | (rw [if_neg (by decide +kernel)]; exact ⟨rfl, rfl⟩))
    (fun os started H enc _ => diskTorn_lifted os started H enc)
end Go.Proofs.Ytahholhggohbnaa
