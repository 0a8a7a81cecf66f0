/- DiskLasts: what is synced stays, whatever is appended, synced and crashed. -/
import Derived.Test.YtahholhggohbnaaDt
import Derived.Test.YtahholhggohbnaaK7
import Derived.Test.YtahholhggohbnaaK16
import Derived.Test.YtahholhggohbnaaK25
import Derived.Test.YtahholhggohbnaaRows
set_option linter.unusedSimpArgs false
set_option linter.unusedVariables false
set_option maxRecDepth 100000
set_option maxHeartbeats 16000000
namespace Go.Proofs.Ytahholhggohbnaa
open Go.RowKit Go.ChangeShapes Go.WideShapes Go.ChangeAt
/-- What is kept: the file begins so, and that much is synced. -/
def Kept (a : List UInt8) (f : Fa) : Prop := a.length ≤ f.1.length ∧ f.1.take a.length = a ∧ (a.length : Int) ≤ f.2
def KeptD (a : List UInt8) (d : Dk) : Prop := ∃ f, d.fs[2]? = some f ∧ Kept a f
theorem upd_get2 {α : Type} {g : α → α} {n i : Nat} {l : List α} {x : α} (h : l[i]? = some x) : (upd g n l)[i]? = some (if n = i then g x else x) := by
  induction l generalizing n i with
  | nil => simp at h
  | cons y l ih =>
    cases n with
    | zero =>
      cases i with
      | zero =>
        simp only [List.getElem?_cons_zero, Option.some.injEq] at h
        subst h
        simp [upd]
      | succ i =>
        simp only [List.getElem?_cons_succ] at h
        simp [upd, h]
    | succ n =>
      cases i with
      | zero =>
        simp only [List.getElem?_cons_zero, Option.some.injEq] at h
        subst h
        simp [upd]
      | succ i =>
        simp only [List.getElem?_cons_succ] at h
        simp only [upd, List.getElem?_cons_succ]
        rw [ih h]
        simp
theorem kept_append {a : List UInt8} {d : Dk} (n : Int) (bs : List UInt8) (h : KeptD a d) : KeptD a (aAppend d n bs).2 := by
  unfold aAppend
  split
  · exact h
  · split
    · exact h
    · split
      · exact h
      · obtain ⟨f, hf, h1, h2, h3⟩ := h
        refine ⟨_, upd_get2 hf, ?_⟩
        split
        · refine ⟨by show a.length ≤ (f.1 ++ bs).length; rw [List.length_append]; omega, ?_, h3⟩
          show (f.1 ++ bs).take a.length = a
          rw [List.take_append_of_le_length h1]
          exact h2
        · exact ⟨h1, h2, h3⟩
theorem kept_sync {a : List UInt8} {d : Dk} (n : Int) (h : KeptD a d) : KeptD a (aSync d n).2 := by
  unfold aSync aWrite
  split
  · exact h
  · split
    · exact h
    · split
      · exact h
      · obtain ⟨f, hf, h1, h2, h3⟩ := h
        refine ⟨_, upd_get2 hf, ?_⟩
        split
        · exact ⟨h1, h2, by show (a.length : Int) ≤ (f.1.length : Int); omega⟩
        · exact ⟨h1, h2, h3⟩
theorem kept_crash {a : List UInt8} {d : Dk} (ho : d.Ok) (keep : Int) (h : KeptD a d) : KeptD a (aCrash d keep) := by
  obtain ⟨f, hf, h1, h2, h3⟩ := h
  obtain ⟨hs0, hs1⟩ := ho.sync f (List.mem_of_getElem? hf)
  have hq0 := Int.emod_nonneg (max keep 0) (show (f.1.length : Int) - f.2 + 1 ≠ 0 by omega)
  have hq1 := Int.emod_lt_of_pos (max keep 0) (show 0 < (f.1.length : Int) - f.2 + 1 by omega)
  refine ⟨crashF keep f, by show (d.fs.map (crashF keep))[2]? = _; rw [List.getElem?_map, hf]; rfl, ?_⟩
  unfold crashF
  generalize hK : f.2 + max keep 0 % ((f.1.length : Int) - f.2 + 1) = K
  refine ⟨by show a.length ≤ (f.1.take K.toNat).length; rw [List.length_take]; omega, ?_, by show (a.length : Int) ≤ K; omega⟩
  show (f.1.take K.toNat).take a.length = a
  rw [List.take_take, show min a.length K.toNat = a.length from by omega]
  exact h2
theorem kept_step {a : List UInt8} {d : Dk} (ho : d.Ok) {y : Stp} (hk : ¬ y.k = 2 ∧ ¬ y.k = 3 ∧ ¬ y.k = 6) (h : KeptD a d) : KeptD a (stepD d y) := by
  unfold stepD
  split
  · exact kept_append _ _ h
  · split
    · exact kept_sync _ h
    · rw [if_neg hk.1, if_neg hk.2.1]
      split
      · exact h
      · split
        · exact kept_crash ho _ h
        · rw [if_neg hk.2.2]
          exact h
theorem kept_first (a : List UInt8) (ha : a.length ≤ 1000) : (aAppend (newD 1048576) 2 a).1 = 0 ∧ (aSync (aAppend (newD 1048576) 2 a).2 2).1 = 0 ∧ KeptD a (aSync (aAppend (newD 1048576) 2 a).2 2).2 := by
  have e1 : aAppend (newD 1048576) 2 a = (0, ⟨1048576, -1, false, [([], 0), ([], 0), (a, 0), ([], 0)]⟩) := by
    rw [app_yes rfl (by decide) (by show (a.length : Int) ≤ 1048576 - ((0 : Nat) : Int); omega)]
    rfl
  rw [e1]
  refine ⟨rfl, rfl, (a, (a.length : Int)), rfl, Nat.le_refl _, List.take_of_length_le (Nat.le_refl _), Int.le_refl _⟩
theorem kept_file {a : List UInt8} {d : Dk} (h : KeptD a d) : a.length ≤ (aFile d 2).1.length ∧ (aFile d 2).1.take a.length = a := by
  obtain ⟨f, hf, h1, h2, h3⟩ := h
  unfold aFile
  rw [if_pos (by decide), show (2 : Int).toNat = 2 from rfl, hf]
  exact ⟨h1, h2⟩
theorem lasts_any (v u : Value) (bs : List UInt8) (ys : List Stp) (w : World) (hb : RdRow w v 1 (bs.map by1c)) (hr : RdRow w u 4 (ys.map sr)) (hys : ∀ y ∈ ys, StB w y) : Ret Try.prog 3 #[v, u] w fun u w' => u = .bool true ∧ St w [] [] w' := by
  have hS := St.init0 w
  obtain ⟨bl, ol, cl, hvl, hmaxl, hcl, hltl⟩ := hr.open
  obtain ⟨bb, bo, bc, hbv, hbmax, hbcl, _⟩ := hb.open
  simp only [List.length_map] at hvl hmaxl hltl hbv hbmax
  refine Ret.enter Try.func3 Try.ntmps3 rfl rfl ?_
  simp only [argEnv, Nat.reduceAdd]
  refine SatC.seq ?_
  refine SatC.region ?_
  refine SatL.pu (RunV.assign rfl) rfl ?_
  refine SatL.nil (SatE.thenC ?_)
  refine SatC.seq ?_
  refine SatC.region ?_
  refine SatL.op rfl (OpW.enter rfl rfl rfl (rfl) (new_d 1048576 _) ?_)
  rintro r1 w1 ⟨b, L0, rfl, hd0, h⟩
  replace hS := hS.call0 h
  refine SatL.pu (RunV.assign rfl) rfl ?_
  refine SatL.nil (SatE.thenC ?_)
  refine SatC.seq ?_
  refine SatC.region ?_
  refine SatL.op rfl (OpW.enter rfl rfl rfl (rfl) (rnew_any 1048576 _) ?_)
  rintro r2 w2 ⟨rb, fs0, fv, FB0, rfl, hr0, h⟩
  replace hS := hS.call0 h
  simp only [RO, List.append_assoc, List.cons_append, List.nil_append, List.append_nil] at hS
  refine SatL.pu (RunV.assign rfl) rfl ?_
  refine SatL.nil (SatE.thenC ?_)
  refine SatC.merge (G := Value × List UInt8 × Nat × Nat × Nat) (V := fun ⟨av, a, n, ab, ac⟩ => [(0, av)]) (Cn := [(1, _), (4, _), (5, _), (6, _)]) (I := fun ⟨av, a, n, ab, ac⟩ w' => (a.length = n ∧ n ≤ 1000) ∧ SlV av ab bo n ac ∧ RdC w ab bo 1 (a.map by1c) ∧ St w [] (L0 ++ RO rb (newD 1048576) fv FB0 []) w') (by repeat constructor) ?_ ?_
  · skip
    refine SatC.seq ?_
    refine SatC.region ?_
    refine SatL.pu (RunV.move rfl) rfl ?_
    refine SatL.pu (RunV.lenR hbv rfl rfl) rfl ?_
    refine SatL.pu (RunV.gtr rfl rfl) rfl ?_
    refine SatL.nil (SatE.thenC ?_)
    refine SatC.cond rfl (fun h1 => ?_) (fun h1 => ?_)
    · (try simp only [cx, ne_eq] at h1)
      try (exfalso; (first | omega | exact h1 trivial | contradiction | (simp at h1; done)); done)
      all_goals
      refine SatC.region ?_
      refine SatL.pu (RunV.move rfl) rfl ?_
      refine SatL.pu (RunV.cutHv hbv rfl rfl rfl rfl (by omega) (by omega)) rfl ?_
      refine SatL.pu (RunV.assign rfl) rfl ?_
      refine SatL.nil ?_
      refine SatE.met ((cutV v 0 1000 1, bs.take 1000, 1000, bb, bc)) ?_ (by repeat constructor)
      exact ⟨⟨by rw [List.length_take]; omega, Nat.le_refl _⟩, SlV.cutV 1 hbv (Nat.zero_le 1000) (by omega), by rw [List.map_take]; exact hbcl.take, by simp only [RO, List.append_nil]; exact hS.sel (by repeat constructor)⟩
    · (try simp only [cx, ne_eq] at h1)
      try (exfalso; (first | omega | exact h1 trivial | contradiction | (simp at h1; done)); done)
      all_goals
      refine SatC.skip ?_
      refine SatE.met ((v, bs, bs.length, bb, bc)) ?_ (by repeat constructor)
      exact ⟨⟨rfl, by omega⟩, hbv, hbcl, by simp only [RO, List.append_nil]; exact hS.sel (by repeat constructor)⟩
  · clear hS
    rintro ⟨av, a, n, ab, ac⟩ w63 ⟨⟨ha, hn⟩, hav, hac, hS⟩
    obtain ⟨hk1, hk2, hk3⟩ := kept_first a (by omega)
    subst ha
    have har : RdRow w av 1 (a.map by1c) := RdRow.of hav (List.length_map _) (by rw [List.length_map]; omega) hac (by decide)
    simp only [RO, List.append_assoc, List.cons_append, List.nil_append, List.append_nil] at hS
    refine SatC.weak (e' := [(0, _), (1, _), (4, _), (5, _), (6, _)]) (by repeat constructor) ?_
    refine SatC.seq ?_
    refine SatC.seq ?_
    refine SatC.region ?_
    refine SatL.pu (RunV.move rfl) rfl ?_
    refine SatL.pu (RunV.move rfl) rfl ?_
    refine SatL.op rfl (OpW.enter rfl rfl rfl (rfl) (append_d 2 av a hd0 (fun W' h => RdRow.st har ((hS.callT (A := L0) (by repeat constructor) h).sel .nil)) (hS.ownT (A := L0) (by repeat constructor))) ?_)
    rintro r64 w64 ⟨rfl, L1, hd1, h⟩
    replace hS := hS.callT (A := L0) (by repeat constructor) h
    rw [hk1]
    refine SatL.pu (RunV.neq rfl rfl) rfl ?_
    refine SatL.pu (RunV.move rfl) rfl ?_
    refine SatL.guard rfl rfl rfl (fun h1 => ?_) (fun h1 => ?_)
    · (try simp only [cx, ne_eq] at h1)
      try (exfalso; (first | omega | exact h1 trivial | contradiction | (simp at h1; done)); done)
      all_goals
      refine SatL.pu (RunV.move rfl) rfl ?_
      refine SatL.guard_y rfl rfl ?_
      refine SatL.op rfl (OpW.enter rfl rfl rfl (rfl) (sync_d 2 hd1 (hS.ownT (A := L1) (by repeat constructor))) ?_)
      rintro r65 w65 ⟨rfl, L2, hd2, h⟩
      replace hS := hS.callT (A := L1) (by repeat constructor) h
      rw [hk2]
      refine SatL.guard_y rfl rfl ?_
      refine SatL.pu (RunV.neq rfl rfl) rfl ?_
      refine SatL.pu (RunV.pick_f rfl rfl) rfl ?_
      refine SatL.nil (SatE.thenC ?_)
      refine SatC.cond rfl (fun h2 => ?_) (fun h2 => ?_)
      · (try simp only [cx, ne_eq] at h2)
        try (exfalso; (first | omega | exact h2 trivial | contradiction | (simp at h2; done)); done)
        all_goals
        refine SatC.seq ?_
        refine SatC.weak (e' := [(4, _)]) (by repeat constructor) ?_
        refine SatC.region ?_
        refine SatL.pu (RunV.assign rfl) rfl ?_
        refine SatL.nil (SatE.thenC ?_)
        refine SatC.ret (SatE.then_ret ?_)
        refine SatE.ret1 rfl rfl ?_
        first
        | exact ⟨rfl, hS.sel .nil⟩
        | (exfalso; omega)
        | (exfalso; simp_all; done)
      · (try simp only [cx, ne_eq] at h2)
        try (exfalso; (first | omega | exact h2 trivial | contradiction | (simp at h2; done)); done)
        all_goals
        refine SatC.skip (SatE.thenC ?_)
        refine SatC.seq ?_
        refine SatC.seq ?_
        refine SatC.region ?_
        refine SatL.pu (RunV.assign rfl) rfl ?_
        refine SatL.nil (SatE.thenC ?_)
        refine SatC.block ?_
        refine SatC.loopK (G := Nat × Dk × Dk × List (Nat × Obj) × List Rf × List (Nat × Obj) × List (Nat × Obj)) (V := fun ⟨i, d, e, L, fs, FB, D⟩ => [(7, .int .i64 (i : Int))]) (Cn := [(0, _), (1, _), (4, _), (5, _), (6, _)]) (I := fun ⟨i, d, e, L, fs, FB, D⟩ w' => i ≤ ys.length ∧ KeptD a d ∧ Dsk b d L ∧ e.Ok ∧ RRep e fs fv FB D ∧ St w [] (L ++ RO rb e fv FB D) w') (μ := fun ⟨i, d, e, L, fs, FB, D⟩ => ys.length - i) (0, (aSync (aAppend (newD 1048576) 2 a).2 2).2, newD 1048576, L2, fs0, FB0, []) ?_ (by repeat constructor) ?_
        · exact ⟨Nat.zero_le _, hk3, hd2, ok_new _, hr0, by simp only [RO, List.append_nil]; exact hS.sel (by repeat constructor)⟩
        clear hS
        rintro ⟨i, d, e, L, fs, FB, D⟩ w66 ⟨hi, hkd, hd, heo, hrr, hS⟩
        refine SatC.weak (e' := [(0, _), (1, _), (4, _), (5, _), (6, _), (7, _)]) (by repeat constructor) ?_
        refine SatC.seq ?_
        refine SatC.seq ?_
        refine SatC.region ?_
        refine SatL.pu (RunV.move rfl) rfl ?_
        refine SatL.pu (RunV.move rfl) rfl ?_
        refine SatL.pu (RunV.lenR hvl rfl rfl) rfl ?_
        refine SatL.pu (RunV.lss rfl rfl) rfl ?_
        refine SatL.pu (RunV.move rfl) rfl ?_
        refine SatL.guard rfl rfl rfl (fun h3 => ?_) (fun h3 => ?_)
        · (try simp only [cx, ne_eq] at h3)
          try (exfalso; (first | omega | exact h3 trivial | contradiction | (simp at h3; done)); done)
          all_goals
          refine SatL.pu (RunV.move rfl) rfl ?_
          refine SatL.guard_y rfl rfl ?_
          refine SatL.pu (RunV.lss rfl rfl) rfl ?_
          refine SatL.pu (RunV.pick_t rfl rfl) rfl ?_
          refine SatL.nil (SatE.thenC ?_)
          refine SatC.cond rfl (fun h4 => ?_) (fun h4 => ?_)
          · (try simp only [cx, ne_eq] at h4)
            try (exfalso; (first | omega | exact h4 trivial | contradiction | (simp at h4; done)); done)
            all_goals
            refine SatC.skip (SatE.thenC ?_)
            refine SatC.seq ?_
            refine SatC.block ?_
            refine SatC.seq ?_
            obtain ⟨y, hy⟩ := get_some ys i (by omega)
            have hyb := hys y (List.mem_of_getElem? hy)
            have hcom : ∀ {W wq}, St w [] (L ++ RO rb e fv FB D) wq → St wq ((L ++ RO rb e fv FB D).map Prod.fst) [] W → St w [] [] W := fun h1 h => (St.call (B := []) (by rw [List.append_nil]; exact h1) h).sel .nil
            refine SatC.region ?_
            refine SatL.pu (RunV.move rfl) rfl ?_
            refine SatL.pu (RunV.move rfl) rfl ?_
            refine SatL.pu (RunV.indexR hvl rfl rfl rfl (by omega) (by omega) rfl) rfl ?_
            first | refine SatL.pu (RunV.fieldAddrL rfl rfl rfl) rfl ?_ | refine SatL.pu (RunV.fieldAddr rfl rfl rfl) rfl ?_
            refine SatL.pu (RunV.loadR1f (RdC.st hcl hS List.not_mem_nil) rfl rfl (map_get hy) rfl) rfl ?_
            refine SatL.pu (RunV.neq rfl rfl) rfl ?_
            refine SatL.pu (RunV.move rfl) rfl ?_
            refine SatL.guard rfl rfl rfl (fun h5 => ?_) (fun h5 => ?_)
            · (try simp only [cx, ne_eq] at h5)
              try (exfalso; (first | omega | exact h5 trivial | contradiction | (simp at h5; done)); done)
              all_goals
              refine SatL.pu (RunV.move rfl) rfl ?_
              refine SatL.guard_y rfl rfl ?_
              refine SatL.pu (RunV.move rfl) rfl ?_
              refine SatL.guard_y rfl rfl ?_
              refine SatL.pu (RunV.indexR hvl rfl rfl rfl (by omega) (by omega) rfl) rfl ?_
              refine SatL.guard_y rfl rfl ?_
              first | refine SatL.pu (RunV.fieldAddrL rfl rfl rfl) rfl ?_ | refine SatL.pu (RunV.fieldAddr rfl rfl rfl) rfl ?_
              refine SatL.guard_y rfl rfl ?_
              refine SatL.pu (RunV.loadR1f (RdC.st hcl hS List.not_mem_nil) rfl rfl (map_get hy) rfl) rfl ?_
              refine SatL.guard_y rfl rfl ?_
              refine SatL.pu (RunV.neq rfl rfl) rfl ?_
              refine SatL.pu (RunV.pick_t rfl rfl) rfl ?_
              refine SatL.pu (RunV.move rfl) rfl ?_
              refine SatL.guard rfl rfl rfl (fun h6 => ?_) (fun h6 => ?_)
              · (try simp only [cx, ne_eq] at h6)
                try (exfalso; (first | omega | exact h6 trivial | contradiction | (simp at h6; done)); done)
                all_goals
                refine SatL.pu (RunV.move rfl) rfl ?_
                refine SatL.guard_y rfl rfl ?_
                refine SatL.pu (RunV.move rfl) rfl ?_
                refine SatL.guard_y rfl rfl ?_
                refine SatL.pu (RunV.indexR hvl rfl rfl rfl (by omega) (by omega) rfl) rfl ?_
                refine SatL.guard_y rfl rfl ?_
                first | refine SatL.pu (RunV.fieldAddrL rfl rfl rfl) rfl ?_ | refine SatL.pu (RunV.fieldAddr rfl rfl rfl) rfl ?_
                refine SatL.guard_y rfl rfl ?_
                refine SatL.pu (RunV.loadR1f (RdC.st hcl hS List.not_mem_nil) rfl rfl (map_get hy) rfl) rfl ?_
                refine SatL.guard_y rfl rfl ?_
                refine SatL.pu (RunV.neq rfl rfl) rfl ?_
                refine SatL.pu (RunV.pick_t rfl rfl) rfl ?_
                refine SatL.nil (SatE.thenC ?_)
                refine SatC.weak (e' := [(0, _), (1, _), (4, _), (5, _), (6, _), (7, _), (56, _)]) (by repeat constructor) ?_
                refine SatC.cond rfl (fun h7 => ?_) (fun h7 => ?_)
                · (try simp only [cx, ne_eq] at h7)
                  try (exfalso; (first | omega | exact h7 trivial | contradiction | (simp at h7; done)); done)
                  all_goals
                  refine SatC.region ?_
                  refine SatL.pu (RunV.move rfl) rfl ?_
                  refine SatL.pu (RunV.move rfl) rfl ?_
                  refine SatL.pu (RunV.move rfl) rfl ?_
                  refine SatL.pu (RunV.move rfl) rfl ?_
                  refine SatL.pu (RunV.indexR hvl rfl rfl rfl (by omega) (by omega) rfl) rfl ?_
                  refine SatL.pu (RunV.loadRNz (RdC.st hcl hS List.not_mem_nil) rfl rfl (map_get hy)) rfl ?_
                  refine SatL.op rfl (OpW.enter rfl rfl rfl (rfl) (step2_any y hyb.1 hd heo hrr (fun W' h => RdRow.st hyb.2 (hcom hS h)) hS.toOwn) ?_)
                  rintro r67 w67 ⟨⟨q, rfl⟩, L2', fs2, FB2, D2, hd2', heo2, hr2, h⟩
                  replace hS := (St.call (B := []) (by rw [List.append_nil]; exact hS) h)
                  simp only [RO, List.append_assoc, List.cons_append, List.nil_append, List.append_nil] at hS
                  refine SatL.nil (SatE.blk_normal (SatE.thenC ?_))
                  refine SatC.region ?_
                  refine SatL.pu (RunV.move rfl) rfl ?_
                  refine SatL.pu (RunV.add rfl rfl (by first | exact wrapI64 (by omega) | rfl)) rfl ?_
                  refine SatL.pu (RunV.assign rfl) rfl ?_
                  refine SatL.nil ?_
                  first
                  | exact SatE.again (i + 1, stepD d y, stepD e y, L2', fs2, FB2, D2) ⟨by omega, kept_step hd.ok ⟨by omega, by omega, by omega⟩ hkd, hd2', heo2, hr2, hS.sel (by repeat constructor)⟩ (by dsimp only; omega) (by repeat constructor)
                  | exact SatE.again (i + 1, d, e, L, fs, FB, D) ⟨by omega, hkd, hd, heo, hrr, hS⟩ (by dsimp only; omega) (by repeat constructor)
                · (try simp only [cx, ne_eq] at h7)
                  try (exfalso; (first | omega | exact h7 trivial | contradiction | (simp at h7; done)); done)
                  all_goals
                  refine SatC.skip (SatE.blk_normal (SatE.thenC ?_))
                  refine SatC.region ?_
                  refine SatL.pu (RunV.move rfl) rfl ?_
                  refine SatL.pu (RunV.add rfl rfl (by first | exact wrapI64 (by omega) | rfl)) rfl ?_
                  refine SatL.pu (RunV.assign rfl) rfl ?_
                  refine SatL.nil ?_
                  first
                  | exact SatE.again (i + 1, stepD d y, stepD e y, L2', fs2, FB2, D2) ⟨by omega, kept_step hd.ok ⟨by omega, by omega, by omega⟩ hkd, hd2', heo2, hr2, hS.sel (by repeat constructor)⟩ (by dsimp only; omega) (by repeat constructor)
                  | exact SatE.again (i + 1, d, e, L, fs, FB, D) ⟨by omega, hkd, hd, heo, hrr, hS⟩ (by dsimp only; omega) (by repeat constructor)
              · (try simp only [cx, ne_eq] at h6)
                try (exfalso; (first | omega | exact h6 trivial | contradiction | (simp at h6; done)); done)
                all_goals
                refine SatL.guard_n rfl rfl rfl rfl ?_
                refine SatL.guard_n rfl rfl rfl rfl ?_
                refine SatL.guard_n rfl rfl rfl rfl ?_
                refine SatL.guard_n rfl rfl rfl rfl ?_
                refine SatL.guard_n rfl rfl rfl rfl ?_
                refine SatL.pu (RunV.pick_f rfl rfl) rfl ?_
                refine SatL.nil (SatE.thenC ?_)
                refine SatC.weak (e' := [(0, _), (1, _), (4, _), (5, _), (6, _), (7, _), (56, _)]) (by repeat constructor) ?_
                refine SatC.cond_f rfl ?_
                refine SatC.skip (SatE.blk_normal (SatE.thenC ?_))
                refine SatC.region ?_
                refine SatL.pu (RunV.move rfl) rfl ?_
                refine SatL.pu (RunV.add rfl rfl (by first | exact wrapI64 (by omega) | rfl)) rfl ?_
                refine SatL.pu (RunV.assign rfl) rfl ?_
                refine SatL.nil ?_
                first
                | exact SatE.again (i + 1, stepD d y, stepD e y, L2', fs2, FB2, D2) ⟨by omega, kept_step hd.ok ⟨by omega, by omega, by omega⟩ hkd, hd2', heo2, hr2, hS.sel (by repeat constructor)⟩ (by dsimp only; omega) (by repeat constructor)
                | exact SatE.again (i + 1, d, e, L, fs, FB, D) ⟨by omega, hkd, hd, heo, hrr, hS⟩ (by dsimp only; omega) (by repeat constructor)
            · (try simp only [cx, ne_eq] at h5)
              try (exfalso; (first | omega | exact h5 trivial | contradiction | (simp at h5; done)); done)
              all_goals
              refine SatL.guard_n rfl rfl rfl rfl ?_
              refine SatL.guard_n rfl rfl rfl rfl ?_
              refine SatL.guard_n rfl rfl rfl rfl ?_
              refine SatL.guard_n rfl rfl rfl rfl ?_
              refine SatL.guard_n rfl rfl rfl rfl ?_
              refine SatL.pu (RunV.pick_f rfl rfl) rfl ?_
              refine SatL.pu (RunV.move rfl) rfl ?_
              refine SatL.guard_n rfl rfl rfl rfl ?_
              refine SatL.guard_n rfl rfl rfl rfl ?_
              refine SatL.guard_n rfl rfl rfl rfl ?_
              refine SatL.guard_n rfl rfl rfl rfl ?_
              refine SatL.guard_n rfl rfl rfl rfl ?_
              refine SatL.guard_n rfl rfl rfl rfl ?_
              refine SatL.pu (RunV.pick_f rfl rfl) rfl ?_
              refine SatL.nil (SatE.thenC ?_)
              refine SatC.weak (e' := [(0, _), (1, _), (4, _), (5, _), (6, _), (7, _), (56, _)]) (by repeat constructor) ?_
              refine SatC.cond_f rfl ?_
              refine SatC.skip (SatE.blk_normal (SatE.thenC ?_))
              refine SatC.region ?_
              refine SatL.pu (RunV.move rfl) rfl ?_
              refine SatL.pu (RunV.add rfl rfl (by first | exact wrapI64 (by omega) | rfl)) rfl ?_
              refine SatL.pu (RunV.assign rfl) rfl ?_
              refine SatL.nil ?_
              first
              | exact SatE.again (i + 1, stepD d y, stepD e y, L2', fs2, FB2, D2) ⟨by omega, kept_step hd.ok ⟨by omega, by omega, by omega⟩ hkd, hd2', heo2, hr2, hS.sel (by repeat constructor)⟩ (by dsimp only; omega) (by repeat constructor)
              | exact SatE.again (i + 1, d, e, L, fs, FB, D) ⟨by omega, hkd, hd, heo, hrr, hS⟩ (by dsimp only; omega) (by repeat constructor)
          · (try simp only [cx, ne_eq] at h4)
            try (exfalso; (first | omega | exact h4 trivial | contradiction | (simp at h4; done)); done)
            all_goals
            refine SatC.exit (SatE.then_exit (SatE.then_exit (SatE.blk_exit (SatE.thenC ?_))))
            refine SatC.seq ?_
            refine SatC.region ?_
            refine SatL.pu (RunV.move rfl) rfl ?_
            refine SatL.op rfl (OpW.enter rfl rfl rfl (rfl) (read_d 2 hd (hS.ownT (A := L) (by repeat constructor))) ?_)
            rintro r67 w67 ⟨B65, hsl65, h⟩
            replace hS := hS.call0 h
            obtain ⟨c65, hv65⟩ := hsl65.slv
            rw [List.length_map] at hv65
            obtain ⟨hkl, hkt⟩ := kept_file hkd
            refine SatL.pu (RunV.assign rfl) rfl ?_
            refine SatL.nil (SatE.thenC ?_)
            refine SatC.seq ?_
            refine SatC.weak (e' := [(0, _), (4, _), (8, _)]) (by repeat constructor) ?_
            refine SatC.drawnT 19 hS (hS) (by kernel_rfl) ?_
            clear hS
            intro w68 hh hS hD
            refine SatD.tk 0 rfl hD (fun _ hw => RunV.move rfl) ?_
            refine SatD.tk 1 rfl hD (fun _ hw => RunV.lenR hv65 rfl rfl) ?_
            refine SatD.tk 2 rfl hD (fun _ hw => RunV.move rfl) ?_
            refine SatD.tk 3 rfl hD (fun _ hw => RunV.lenR hav rfl rfl) ?_
            refine SatD.tk 4 rfl hD (fun _ hw => RunV.geq rfl rfl) ?_
            refine SatD.tk 5 rfl hD (fun _ hw => RunV.move rfl) ?_
            refine SatD.ways 71 rfl (fun h5 => ?_) (fun h5 => ?_)
            · (try simp only [cx, ne_eq] at h5)
              try (exfalso; (first | omega | exact h5 trivial | contradiction | (simp at h5; done)); done)
              all_goals
              refine SatD.tk 6 rfl hD (fun _ hw => RunV.move rfl) ?_
              refine SatD.tk 7 rfl hD (fun _ hw => RunV.move rfl) ?_
              refine SatD.tk 8 rfl hD (fun _ hw => RunV.lenR hav rfl rfl) ?_
              refine SatD.tk 9 rfl hD (fun _ hw => RunV.cutHv hv65 rfl rfl rfl rfl (by omega) (by omega)) ?_
              refine SatD.tk 10 rfl hD (fun _ hw => RunV.b2s (cs := a) (SlV.cutV 1 hv65 (Nat.zero_le a.length) hkl) (by rw [Nat.zero_mul, Nat.add_zero]; have := (hsl65.rd hw (by repeat constructor)).take (h := a.length); rwa [← List.map_take, hkt] at this) rfl rfl rfl rfl rfl) ?_
              refine SatD.tk 11 rfl hD (fun _ hw => RunV.move rfl) ?_
              refine SatD.tk 12 rfl hD (fun _ hw => RunV.b2s (cs := a) hav (RdC.st hac hw List.not_mem_nil) rfl rfl rfl rfl rfl) ?_
              refine SatD.tk 13 rfl hD (fun _ hw => RunV.seql rfl rfl) ?_
              refine SatD.tk 14 rfl hD (fun _ hw => RunV.pick_t rfl rfl) ?_
              refine SatD.tk 15 rfl hD (fun _ hw => RunV.move rfl) ?_
              refine SatD.ways 81 rfl (fun h6 => ?_) (fun h6 => ?_)
              · (try simp only [cx, ne_eq] at h6)
                try (exfalso; (first | omega | exact h6 trivial | contradiction | (simp at h6; done)); done)
                all_goals
                refine SatD.ef 16 rfl (OpW.enter rfl rfl rfl (rfl) (works_any _) ?_)
                rintro r69 w69 ⟨rfl, h⟩
                replace hS := St.callN hS h
                refine keepS (hS.sel (by repeat constructor)) (fun hD => ?_)
                refine SatD.tk 17 rfl hD (fun _ hw => RunV.pick_t rfl rfl) ?_
                refine SatD.tk 18 rfl hD (fun _ hw => RunV.assign rfl) ?_
                refine SatD.done 0 (by kernel_rfl) (SatE.thenC ?_)
                clear hD
                refine SatC.ret ?_
                refine SatE.ret1 rfl rfl ?_
                first
                | exact ⟨rfl, hS.sel .nil⟩
                | (exfalso; omega)
                | (exfalso; simp_all; done)
              · (try simp only [cx, ne_eq] at h6)
                try (exfalso; (first | omega | exact h6 trivial | contradiction | (simp at h6; done)); done)
                all_goals
                refine SatD.sk 16 rfl [] hD ?_
                refine SatD.tk 17 rfl hD (fun _ hw => RunV.pick_f rfl rfl) ?_
                refine SatD.tk 18 rfl hD (fun _ hw => RunV.assign rfl) ?_
                refine SatD.done 0 (by kernel_rfl) (SatE.thenC ?_)
                clear hD
                refine SatC.ret ?_
                refine SatE.ret1 rfl rfl ?_
                first
                | exact ⟨rfl, hS.sel .nil⟩
                | (exfalso; omega)
                | (exfalso; simp_all; done)
            · (try simp only [cx, ne_eq] at h5)
              try (exfalso; (first | omega | exact h5 trivial | contradiction | (simp at h5; done)); done)
              all_goals
              refine SatD.sk 6 rfl [] hD ?_
              refine SatD.sk 7 rfl [] hD ?_
              refine SatD.sk 8 rfl [] hD ?_
              refine SatD.sk 9 rfl [] hD ?_
              refine SatD.sk 10 rfl [] hD ?_
              refine SatD.sk 11 rfl [] hD ?_
              refine SatD.sk 12 rfl [] hD ?_
              refine SatD.sk 13 rfl [] hD ?_
              refine SatD.tk 14 rfl hD (fun _ hw => RunV.pick_f rfl rfl) ?_
              refine SatD.tk 15 rfl hD (fun _ hw => RunV.move rfl) ?_
              refine SatD.sk 16 rfl [] hD ?_
              refine SatD.tk 17 rfl hD (fun _ hw => RunV.pick_f rfl rfl) ?_
              refine SatD.tk 18 rfl hD (fun _ hw => RunV.assign rfl) ?_
              refine SatD.done 0 (by kernel_rfl) (SatE.thenC ?_)
              clear hD
              refine SatC.ret ?_
              refine SatE.ret1 rfl rfl ?_
              first
              | exact ⟨rfl, hS.sel .nil⟩
              | (exfalso; omega)
              | (exfalso; simp_all; done)
        · (try simp only [cx, ne_eq] at h3)
          try (exfalso; (first | omega | exact h3 trivial | contradiction | (simp at h3; done)); done)
          all_goals
          refine SatL.guard_n rfl rfl rfl rfl ?_
          refine SatL.pu (RunV.pick_f rfl rfl) rfl ?_
          refine SatL.nil (SatE.thenC ?_)
          refine SatC.cond_f rfl ?_
          refine SatC.exit (SatE.then_exit (SatE.then_exit (SatE.blk_exit (SatE.thenC ?_))))
          refine SatC.seq ?_
          refine SatC.region ?_
          refine SatL.pu (RunV.move rfl) rfl ?_
          refine SatL.op rfl (OpW.enter rfl rfl rfl (rfl) (read_d 2 hd (hS.ownT (A := L) (by repeat constructor))) ?_)
          rintro r67 w67 ⟨B65, hsl65, h⟩
          replace hS := hS.call0 h
          obtain ⟨c65, hv65⟩ := hsl65.slv
          rw [List.length_map] at hv65
          obtain ⟨hkl, hkt⟩ := kept_file hkd
          refine SatL.pu (RunV.assign rfl) rfl ?_
          refine SatL.nil (SatE.thenC ?_)
          refine SatC.seq ?_
          refine SatC.weak (e' := [(0, _), (4, _), (8, _)]) (by repeat constructor) ?_
          refine SatC.drawnT 19 hS (hS) (by kernel_rfl) ?_
          clear hS
          intro w68 hh hS hD
          refine SatD.tk 0 rfl hD (fun _ hw => RunV.move rfl) ?_
          refine SatD.tk 1 rfl hD (fun _ hw => RunV.lenR hv65 rfl rfl) ?_
          refine SatD.tk 2 rfl hD (fun _ hw => RunV.move rfl) ?_
          refine SatD.tk 3 rfl hD (fun _ hw => RunV.lenR hav rfl rfl) ?_
          refine SatD.tk 4 rfl hD (fun _ hw => RunV.geq rfl rfl) ?_
          refine SatD.tk 5 rfl hD (fun _ hw => RunV.move rfl) ?_
          refine SatD.ways 71 rfl (fun h4 => ?_) (fun h4 => ?_)
          · (try simp only [cx, ne_eq] at h4)
            try (exfalso; (first | omega | exact h4 trivial | contradiction | (simp at h4; done)); done)
            all_goals
            refine SatD.tk 6 rfl hD (fun _ hw => RunV.move rfl) ?_
            refine SatD.tk 7 rfl hD (fun _ hw => RunV.move rfl) ?_
            refine SatD.tk 8 rfl hD (fun _ hw => RunV.lenR hav rfl rfl) ?_
            refine SatD.tk 9 rfl hD (fun _ hw => RunV.cutHv hv65 rfl rfl rfl rfl (by omega) (by omega)) ?_
            refine SatD.tk 10 rfl hD (fun _ hw => RunV.b2s (cs := a) (SlV.cutV 1 hv65 (Nat.zero_le a.length) hkl) (by rw [Nat.zero_mul, Nat.add_zero]; have := (hsl65.rd hw (by repeat constructor)).take (h := a.length); rwa [← List.map_take, hkt] at this) rfl rfl rfl rfl rfl) ?_
            refine SatD.tk 11 rfl hD (fun _ hw => RunV.move rfl) ?_
            refine SatD.tk 12 rfl hD (fun _ hw => RunV.b2s (cs := a) hav (RdC.st hac hw List.not_mem_nil) rfl rfl rfl rfl rfl) ?_
            refine SatD.tk 13 rfl hD (fun _ hw => RunV.seql rfl rfl) ?_
            refine SatD.tk 14 rfl hD (fun _ hw => RunV.pick_t rfl rfl) ?_
            refine SatD.tk 15 rfl hD (fun _ hw => RunV.move rfl) ?_
            refine SatD.ways 81 rfl (fun h5 => ?_) (fun h5 => ?_)
            · (try simp only [cx, ne_eq] at h5)
              try (exfalso; (first | omega | exact h5 trivial | contradiction | (simp at h5; done)); done)
              all_goals
              refine SatD.ef 16 rfl (OpW.enter rfl rfl rfl (rfl) (works_any _) ?_)
              rintro r69 w69 ⟨rfl, h⟩
              replace hS := St.callN hS h
              refine keepS (hS.sel (by repeat constructor)) (fun hD => ?_)
              refine SatD.tk 17 rfl hD (fun _ hw => RunV.pick_t rfl rfl) ?_
              refine SatD.tk 18 rfl hD (fun _ hw => RunV.assign rfl) ?_
              refine SatD.done 0 (by kernel_rfl) (SatE.thenC ?_)
              clear hD
              refine SatC.ret ?_
              refine SatE.ret1 rfl rfl ?_
              first
              | exact ⟨rfl, hS.sel .nil⟩
              | (exfalso; omega)
              | (exfalso; simp_all; done)
            · (try simp only [cx, ne_eq] at h5)
              try (exfalso; (first | omega | exact h5 trivial | contradiction | (simp at h5; done)); done)
              all_goals
              refine SatD.sk 16 rfl [] hD ?_
              refine SatD.tk 17 rfl hD (fun _ hw => RunV.pick_f rfl rfl) ?_
              refine SatD.tk 18 rfl hD (fun _ hw => RunV.assign rfl) ?_
              refine SatD.done 0 (by kernel_rfl) (SatE.thenC ?_)
              clear hD
              refine SatC.ret ?_
              refine SatE.ret1 rfl rfl ?_
              first
              | exact ⟨rfl, hS.sel .nil⟩
              | (exfalso; omega)
              | (exfalso; simp_all; done)
          · (try simp only [cx, ne_eq] at h4)
            try (exfalso; (first | omega | exact h4 trivial | contradiction | (simp at h4; done)); done)
            all_goals
            refine SatD.sk 6 rfl [] hD ?_
            refine SatD.sk 7 rfl [] hD ?_
            refine SatD.sk 8 rfl [] hD ?_
            refine SatD.sk 9 rfl [] hD ?_
            refine SatD.sk 10 rfl [] hD ?_
            refine SatD.sk 11 rfl [] hD ?_
            refine SatD.sk 12 rfl [] hD ?_
            refine SatD.sk 13 rfl [] hD ?_
            refine SatD.tk 14 rfl hD (fun _ hw => RunV.pick_f rfl rfl) ?_
            refine SatD.tk 15 rfl hD (fun _ hw => RunV.move rfl) ?_
            refine SatD.sk 16 rfl [] hD ?_
            refine SatD.tk 17 rfl hD (fun _ hw => RunV.pick_f rfl rfl) ?_
            refine SatD.tk 18 rfl hD (fun _ hw => RunV.assign rfl) ?_
            refine SatD.done 0 (by kernel_rfl) (SatE.thenC ?_)
            clear hD
            refine SatC.ret ?_
            refine SatE.ret1 rfl rfl ?_
            first
            | exact ⟨rfl, hS.sel .nil⟩
            | (exfalso; omega)
            | (exfalso; simp_all; done)
    · (try simp only [cx, ne_eq] at h1)
      try (exfalso; (first | omega | exact h1 trivial | contradiction | (simp at h1; done)); done)
      all_goals
      refine SatL.guard_n rfl rfl rfl rfl ?_
      refine SatL.guard_n rfl rfl rfl rfl ?_
      refine SatL.pu (RunV.pick_t rfl rfl) rfl ?_
      refine SatL.nil (SatE.thenC ?_)
      refine SatC.cond_t rfl ?_
      refine SatC.seq ?_
      refine SatC.weak (e' := [(4, _)]) (by repeat constructor) ?_
      refine SatC.region ?_
      refine SatL.pu (RunV.assign rfl) rfl ?_
      refine SatL.nil (SatE.thenC ?_)
      refine SatC.ret (SatE.then_ret ?_)
      refine SatE.ret1 rfl rfl ?_
      first
      | exact ⟨rfl, hS.sel .nil⟩
      | (exfalso; omega)
      | (exfalso; simp_all; done)
theorem diskLasts_lifted (os : Os) (started : os.Started) (H : Type) (enc : TypeId × Value → H) :
    ReturnsInHanded {} Try.checked os 3 .any (Rows.diskLastsSpec.pre6 enc Try.prog Try.f3 Rows.diskLastsRow.domain false) (Rows.diskLastsSpec.post enc Try.prog Try.f3 false true false false) := by
  refine law_returns (C := Try.checked) (b := 4) (by kernel_rfl) started (by kernel_rfl) Try.func3
    (ChangeSpec.witness6 (enc := enc) (C := Try.checked) false ⟨#[], #[.slice none 0 0, .slice none 0 0], []⟩ 8 (by kernel_rfl) (by kernel_rfl) (by kernel_rfl) (by kernel_rfl))
    rfl rfl (by kernel_rfl) (by kernel_rfl) (by kernel_rfl) (fun ds h => ?_) ?_
  · rw [Try.params3] at h
    match ds, h with
    | [_, _], _ => rfl
  intro W base args ds ps hval hA hsz
  rw [Try.params3] at hA hval
  obtain ⟨v0, v1, d0, d1, q0, q1, hargs, rfl, rfl, h0, h1⟩ := trodAll_two hA
  subst hargs
  obtain ⟨xs0, hr0, hx0⟩ := open_rows (l := [5]) 6 Try.underlying22 (by kernel_rfl) (by kernel_rfl) (by decide) (hval 0 22 v0 rfl rfl) h0
  obtain ⟨ys0, rfl, hy0⟩ := rows_map (enc' := by1c) (q := fun _ => True) (fun r hr => by
    obtain ⟨u0, rfl, l0⟩ := allLeaf_list1 hr
    obtain ⟨n0, rfl, e0⟩ := leaf_int Try.underlying5 l0
    obtain ⟨c, rfl⟩ : ∃ c : UInt8, n0 = (c.toNat : Int) := ⟨UInt8.ofNat n0.toNat, by have := bnd_u8 e0; simp; omega⟩; exact ⟨c, rfl, trivial⟩) xs0 hx0
  obtain ⟨xs1, hr1, hx1⟩ := open_rows (l := [3, 3, 3, 22]) 6 Try.underlying23 (by kernel_rfl) (by kernel_rfl) (by decide) (hval 1 23 v1 rfl rfl) h1
  obtain ⟨ys1, rfl, hy1⟩ := rows_map (enc' := sr) (q := StB W) (fun r hr => by
    obtain ⟨u0, u1, u2, u3, rfl, l0, l1, l2, l3⟩ := allLeaf_list4 hr
    obtain ⟨n0, rfl, e0⟩ := leaf_int Try.underlying3 l0
    obtain ⟨n1, rfl, e1⟩ := leaf_int Try.underlying3 l1
    obtain ⟨n2, rfl, e2⟩ := leaf_int Try.underlying3 l2
    obtain ⟨xb, hb, hxb⟩ := leaf_rows (l := [5]) 6 Try.underlying22 (by kernel_rfl) (by kernel_rfl) (by decide) l3
    obtain ⟨bs, rfl, _⟩ := rows_map (enc' := by1c) (q := fun _ => True) (fun r hr => by
      obtain ⟨u, rfl, lu⟩ := allLeaf_list1 hr
      obtain ⟨m, rfl, em⟩ := leaf_int Try.underlying5 lu
      obtain ⟨c, rfl⟩ : ∃ c : UInt8, m = (c.toNat : Int) := ⟨UInt8.ofNat m.toNat, by have := bnd_u8 em; simp; omega⟩
      exact ⟨c, rfl, trivial⟩) xb hxb
    exact ⟨⟨n0, n1, n2, u3, bs⟩, rfl, bnd_i64 e2, hb⟩) xs1 hx1
  exact law_done (lasts_any _ _ ys0 ys1 W hr0 hr1 hy1)
theorem diskLasts_holds : Rows.DiskLastsSaid :=
  OpenClaim.holds_of_wide 3 Try.f3 rfl rfl rfl rfl rfl rfl rfl ⟨rfl, rfl, rfl, rfl, rfl⟩ rfl rfl rfl rfl rfl (by kernel_rfl) Try.func3 (by kernel_rfl)
    (of_decide_eq_true (by kernel_rfl)) (by unfold Func.isWrapper; first | (rw [if_pos (by decide +kernel)]; kernel_rfl) | (rw [if_neg (by decide +kernel)]; exact ⟨rfl, rfl⟩))
    (fun os started H enc _ => diskLasts_lifted os started H enc)
end Go.Proofs.Ytahholhggohbnaa
