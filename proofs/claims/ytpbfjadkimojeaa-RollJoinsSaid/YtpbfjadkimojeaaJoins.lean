/- RollJoins: two rolls that heard the same news, in any order and however often, hold of every other node what the joined table says. -/
import Derived.Test.YtpbfjadkimojeaaW
import Derived.Test.YtpbfjadkimojeaaRg
import Derived.Test.YtpbfjadkimojeaaK7
import Derived.Test.YtpbfjadkimojeaaK16
import Derived.Test.YtpbfjadkimojeaaRows
set_option linter.unusedSimpArgs false
set_option linter.unusedVariables false
set_option maxRecDepth 100000
set_option maxHeartbeats 1000000
namespace Go.Proofs.Ytpbfjadkimojeaa
open Go.RowKit Go.ChangeShapes Go.WideShapes Go.ChangeAt
/-- Of every other node the roll holds what counts in the list. -/
def Heard (me : Int) (m : Mem) (l : List Upd) : Prop := ∀ node : Nat, node < 8 → ¬ (node : Int) = me → look m node = mx node l
theorem heard_new (me a : Int) : Heard me [(me, ⟨me, a, 0⟩)] [] := by
  intro node _ hne
  unfold look
  rw [if_neg hne]
  rfl
theorem mine_other {me : Int} {m : Mem} {u : Upd} {k : Int} (h : ¬ k = me) : look (mineC me m u).2 k = look m k := by
  unfold mineC
  split
  · rfl
  · split
    · rfl
    · rw [look_put, if_neg h]
theorem heard_apply {me : Int} {m : Mem} {l : List Upd} (u : Upd) (h : Heard me m l) : Heard me (applyC me m u).2 (l ++ [u]) := by
  intro node hn hne
  have hx := h node hn hne
  have hm : mx node (l ++ [u]) = step node (mx node l) u := by unfold mx; rw [List.foldl_append]; rfl
  rw [hm, ← hx]
  unfold applyC
  by_cases h1 : 0 ≤ u.n ∧ u.n < 8 ∧ 0 ≤ u.s ∧ u.s ≤ 3
  · rw [if_neg (fun h => h h1)]
    by_cases h2 : u.n = me
    · rw [if_pos h2, mine_other hne, step_e (by omega)]
    · rw [if_neg h2]
      by_cases h3 : u.n = (node : Int)
      · rw [h3]
        cases e : look m node with
        | none =>
          rw [if_pos (by rfl)]
          dsimp only
          rw [look_put, if_pos rfl, step_c h1 h3 rfl]
        | some c =>
          rw [if_neg (by simp)]
          have ec : at_ m node = c := by unfold at_; rw [e]; rfl
          rw [ec]
          by_cases h4 : abv u c = true
          · rw [if_pos h4]
            dsimp only
            rw [look_put, if_pos rfl, step_a (cur := some c) h1 h3 rfl h4]
          · rw [if_neg h4]
            dsimp only
            rw [e, step_b (cur := some c) h1 h3 rfl (by rw [Bool.not_eq_true] at h4; exact h4)]
      · rw [step_e h3]
        split
        · dsimp only
          rw [look_put, if_neg (fun e => h3 e.symm)]
        · split
          · dsimp only
            rw [look_put, if_neg (fun e => h3 e.symm)]
          · rfl
  · rw [if_pos h1, step_d h1]
theorem mx_same {node : Nat} {l l' : List Upd} (h : ∀ u, u.n = (node : Int) → (u ∈ l ↔ u ∈ l')) : mx node l = mx node l' :=
  mx_dom (fun u hu hc => ⟨u, (h u hc.2).1 hu, hc, Le.refl _⟩) (fun u hu hc => ⟨u, (h u hc.2).2 hu, hc, Le.refl _⟩)
def oth (me : Int) (l : List Upd) : List Upd := l.filter fun u => decide (¬ u.n = me)
theorem oth_next {me : Int} {l : List Upd} {i : Nat} {y : Upd} (h : l[i]? = some y) : oth me (l.take (i + 1)) = oth me (l.take i) ++ (if y.n = me then [] else [y]) := by
  unfold oth
  rw [List.take_add_one, List.filter_append, h]
  by_cases e : y.n = me <;> simp [e]
/-- What is said of another node, three times. -/
theorem all_same {me : Int} {mA mB : Mem} {zs lB : List Upd} {k : Nat} (hk : k < 8) (hne : ¬ (k : Int) = me) (hA : Heard me mA zs) (hB : Heard me mB lB) (hl : ∀ u, u ∈ lB ↔ u ∈ zs) :
    find (jn (oth me zs) []) (k : Int) = (at_ mA k, (look mA k).isSome) ∧ at_ mA k = at_ mB k ∧ (look mA k).isSome = (look mB k).isSome := by
  have h1 := hA k hk hne
  have h2 := hB k hk hne
  have h3 : mx k (oth me zs ++ []) = mx k zs := mx_same fun u hu => by
    unfold oth
    simp only [List.append_nil, List.mem_filter, decide_eq_true_eq, and_iff_left_iff_imp]
    intro _
    rw [hu]
    exact hne
  have h4 : mx k lB = mx k zs := mx_same fun u _ => hl u
  refine ⟨?_, ?_, ?_⟩
  · rw [find_mx _ _ hk, h3, ← h1]
    rfl
  · unfold at_
    rw [h1, h2, h4]
  · rw [h1, h2, h4]
theorem mem_back {α : Type} {l l' : List α} {i : Nat} {y : α} (h : l[l.length - 1 - i]? = some y) (hi : i < l.length) (hm : ∀ u, u ∈ l' ↔ u ∈ l.drop (l.length - i)) : ∀ u, u ∈ l' ++ [y] ++ [y] ↔ u ∈ l.drop (l.length - (i + 1)) := by
  intro u
  have : l.drop (l.length - (i + 1)) = y :: l.drop (l.length - i) := by
    obtain ⟨hi', rfl⟩ := List.getElem?_eq_some_iff.1 h
    rw [show l.length - (i + 1) = l.length - 1 - i by omega, List.drop_eq_getElem_cons hi', show l.length - 1 - i + 1 = l.length - i by omega]
  rw [this]
  simp only [List.mem_append, List.mem_cons, List.not_mem_nil, or_false, hm u]
  constructor
  · rintro ((h | h) | h)
    · exact .inr h
    · exact .inl h
    · exact .inl h
  · rintro (h | h)
    · exact .inr h
    · exact .inl (.inl h)
theorem in3 (me : Int) : InB [(me, ⟨me, 3, 0⟩)] := by
  intro p hp
  simp only [List.mem_cons, List.not_mem_nil, or_false] at hp
  subst hp
  exact ⟨Int.le_of_lt (show (0 : Int) < 3 by decide), show (3 : Int) ≤ 4294967295 by decide⟩
theorem joins_any (k : Int) (v : Value) (ys : List Upd) (w : World) (hk : 0 ≤ k ∧ k ≤ 255) (hr : RdRow w v 3 (ys.map ud)) (hys : ∀ y ∈ ys, 0 ≤ y.i ∧ y.i ≤ 4294967295) : Ret Try.prog 5 #[.int .u8 k, v] w fun u w' => u = .bool true ∧ St w [] [] w' := by
  have hS := St.init0 w
  obtain ⟨bl, ol, cl, hvl, hmaxl, hcl, hltl⟩ := hr.open
  simp only [List.length_map] at hvl hmaxl hltl
  have hme : 0 ≤ k.tmod 8 ∧ k.tmod 8 < 8 := by rw [Int.tmod_eq_emod_of_nonneg hk.1]; omega
  refine Ret.enter Try.func5 Try.ntmps5 rfl rfl ?_
  simp only [argEnv, Nat.reduceAdd]
  refine SatC.seq ?_
  refine SatC.region ?_
  refine SatL.pu (RunV.assign rfl) rfl ?_
  refine SatL.nil (SatE.thenC ?_)
  refine SatC.seq ?_
  refine SatC.region ?_
  refine SatL.pu (RunV.move rfl) rfl ?_
  refine SatL.pu (RunV.rem rfl rfl (by first | decide | omega) rfl) rfl ?_
  refine SatL.pu (RunV.conv rfl rfl rfl (by first | exact wrapI64 (by omega) | rfl)) rfl ?_
  refine SatL.pu (RunV.assign rfl) rfl ?_
  refine SatL.nil (SatE.thenC ?_)
  refine SatC.seq ?_
  obtain ⟨me, hmv⟩ : ∃ me, k.tmod 8 = me := ⟨_, rfl⟩
  rw [hmv] at hme ⊢
  refine SatC.region ?_
  refine SatL.pu (RunV.move rfl) rfl ?_
  refine SatL.op rfl (OpW.enter rfl rfl rfl (rfl) (new_ok _ _ _ (by omega)) ?_)
  rintro r1 w1 ⟨b1, mb1, o1, rfl, ho1, h⟩
  replace hS := hS.callT (A := []) (by repeat constructor) h
  refine SatL.pu (RunV.move rfl) rfl ?_
  refine SatL.pu (RunV.extract rfl rfl) rfl ?_
  refine SatL.pu (RunV.extract rfl rfl) rfl ?_
  refine SatL.pu (RunV.assign rfl) rfl ?_
  refine SatL.pu (RunV.assign rfl) rfl ?_
  refine SatL.nil (SatE.thenC ?_)
  refine SatC.seq ?_
  refine SatC.region ?_
  refine SatL.pu (RunV.move rfl) rfl ?_
  refine SatL.op rfl (OpW.enter rfl rfl rfl (rfl) (new_ok _ _ _ (by omega)) ?_)
  rintro r2 w2 ⟨b2, mb2, o2, rfl, ho2, h⟩
  replace hS := hS.callT (A := []) (by repeat constructor) h
  refine SatL.pu (RunV.move rfl) rfl ?_
  refine SatL.pu (RunV.extract rfl rfl) rfl ?_
  refine SatL.pu (RunV.extract rfl rfl) rfl ?_
  refine SatL.pu (RunV.assign rfl) rfl ?_
  refine SatL.pu (RunV.assign rfl) rfl ?_
  refine SatL.nil (SatE.thenC ?_)
  refine SatC.seq ?_
  refine SatC.seq ?_
  refine SatC.weak (e' := [(1, _), (4, _), (5, _), (6, _), (7, _), (8, _), (9, _)]) (by repeat constructor) ?_
  refine SatC.region ?_
  refine SatL.pu (RunV.move rfl) rfl ?_
  refine SatL.pu (RunV.neq rfl rfl) rfl ?_
  refine SatL.pu (RunV.move rfl) rfl ?_
  refine SatL.guard rfl rfl rfl (fun h1 => ?_) (fun h1 => ?_)
  · (try simp only [cx, ne_eq] at h1)
    try (exfalso; (first | omega | exact h1 trivial | contradiction | (obtain ⟨e1, e2, e3⟩ := hall (by assumption); first | exact h1 e3 | exact h1 (by rw [e1]) | exact h1 (by rw [e2]))); done)
    all_goals
    refine SatL.pu (RunV.move rfl) rfl ?_
    refine SatL.guard_y rfl rfl ?_
    refine SatL.pu (RunV.neq rfl rfl) rfl ?_
    refine SatL.pu (RunV.pick_f rfl rfl) rfl ?_
    refine SatL.nil (SatE.thenC ?_)
    refine SatC.cond rfl (fun h2 => ?_) (fun h2 => ?_)
    · (try simp only [cx, ne_eq] at h2)
      try (exfalso; (first | omega | exact h2 trivial | contradiction | (obtain ⟨e1, e2, e3⟩ := hall (by assumption); first | exact h2 e3 | exact h2 (by rw [e1]) | exact h2 (by rw [e2]))); done)
      all_goals
      refine SatC.seq ?_
      refine SatC.weak (e' := [(4, _)]) (by repeat constructor) ?_
      refine SatC.region ?_
      refine SatL.pu (RunV.assign rfl) rfl ?_
      refine SatL.nil (SatE.thenC ?_)
      refine SatC.ret (SatE.then_ret ?_)
      refine SatE.ret1 rfl rfl ?_
      exact ⟨rfl, hS.sel (by repeat constructor)⟩
    · (try simp only [cx, ne_eq] at h2)
      try (exfalso; (first | omega | exact h2 trivial | contradiction | (obtain ⟨e1, e2, e3⟩ := hall (by assumption); first | exact h2 e3 | exact h2 (by rw [e1]) | exact h2 (by rw [e2]))); done)
      all_goals
      refine SatC.skip (SatE.thenC ?_)
      refine SatC.merge (G := List Upd × Value × Nat × Nat × Nat) (V := fun ⟨zs, vz, bz, oz, cz⟩ => [(1, vz)]) (Cn := [(4, _), (5, _), (6, _), (8, _)]) (I := fun ⟨zs, vz, bz, oz, cz⟩ w' => SlV vz bz oz zs.length cz ∧ RdC w bz oz 3 (zs.map ud) ∧ zs.length ≤ 60 ∧ (0 < zs.length → bz < w.heap.size) ∧ (∀ y ∈ zs, 0 ≤ y.i ∧ y.i ≤ 4294967295) ∧ St w [] [(b1, C 63 (rc me mb1)), (mb1, o1), (b2, C 63 (rc me mb2)), (mb2, o2)] w') (by repeat constructor) ?_ ?_
      · skip
        refine SatC.seq ?_
        refine SatC.region ?_
        refine SatL.pu (RunV.move rfl) rfl ?_
        first | refine SatL.pu (RunV.lenR (by assumption) rfl rfl) rfl ?_ | refine SatL.pu (RunV.lenS rfl rfl) rfl ?_
        refine SatL.pu (RunV.gtr rfl rfl) rfl ?_
        refine SatL.nil (SatE.thenC ?_)
        refine SatC.cond rfl (fun h3 => ?_) (fun h3 => ?_)
        · (try simp only [cx, ne_eq] at h3)
          try (exfalso; (first | omega | exact h3 trivial | contradiction | (obtain ⟨e1, e2, e3⟩ := hall (by assumption); first | exact h3 e3 | exact h3 (by rw [e1]) | exact h3 (by rw [e2]))); done)
          all_goals
          refine SatC.region ?_
          refine SatL.pu (RunV.move rfl) rfl ?_
          refine SatL.op rfl (OpW.cutH (by assumption) rfl rfl rfl rfl (by omega) (by omega) rfl ?_)
          intro v44 hv44
          refine SatL.pu (RunV.assign rfl) rfl ?_
          refine SatL.nil ?_
          refine SatE.met ((ys.take 60, v44, bl, ol, cl)) ?_ (by repeat constructor)
          have h60 : (ys.take 60).length = 60 := (by rw [List.length_take]; omega)
          dsimp only
          rw [h60, List.map_take]
          exact ⟨hv44, hcl.take, by omega, fun _ => hltl (by omega), fun y hy => hys y (List.mem_of_mem_take hy), hS.sel (by repeat constructor)⟩
        · (try simp only [cx, ne_eq] at h3)
          try (exfalso; (first | omega | exact h3 trivial | contradiction | (obtain ⟨e1, e2, e3⟩ := hall (by assumption); first | exact h3 e3 | exact h3 (by rw [e1]) | exact h3 (by rw [e2]))); done)
          all_goals
          refine SatC.skip ?_
          refine SatE.met ((ys, v, bl, ol, cl)) ?_ (by repeat constructor)
          exact ⟨hvl, hcl, by omega, hltl, hys, hS.sel (by repeat constructor)⟩
      · clear hS
        rintro ⟨zs, vz, bz, oz, cz⟩ w63 ⟨hvz, hcz, hlz, hltz, hzs, hS⟩
        refine SatC.weak (e' := [(1, _), (4, _), (5, _), (6, _), (8, _)]) (by repeat constructor) ?_
        refine SatC.seq ?_
        refine SatC.seq ?_
        refine SatC.region ?_
        refine SatL.pu (RunV.assign rfl) rfl ?_
        refine SatL.nil (SatE.thenC ?_)
        refine SatC.block ?_
        refine SatC.loopK (G := Nat × Mem × Obj × Mem × Obj × List Upd) (V := fun ⟨i, mA, oA, mB, oB, lB⟩ => [(10, .int .i64 (i : Int))]) (Cn := [(1, _), (4, _), (5, _), (6, _), (8, _)]) (I := fun ⟨i, mA, oA, mB, oB, lB⟩ w' => i ≤ zs.length ∧ IsMp eI oA (mv mA) ∧ InB mA ∧ Heard me mA (zs.take i) ∧ IsMp eI oB (mv mB) ∧ InB mB ∧ Heard me mB lB ∧ (∀ u, u ∈ lB ↔ u ∈ zs.drop (zs.length - i)) ∧ St w [] [(b1, C 63 (rc me mb1)), (mb1, oA), (b2, C 63 (rc me mb2)), (mb2, oB)] w') (μ := fun ⟨i, mA, oA, mB, oB, lB⟩ => zs.length - i) (0, [(me, ⟨me, 3, 0⟩)], o1, [(me, ⟨me, 3, 0⟩)], o2, []) ?_ (by repeat constructor) ?_
        · exact ⟨Nat.zero_le _, ho1, in3 me, heard_new _ _, ho2, in3 me, heard_new _ _, by simp, hS⟩
        clear hS
        rintro ⟨i, mA, oA, mB, oB, lB⟩ w64 ⟨hi, hoA, hbA, hA, hoB, hbB, hB, hlB, hS⟩
        refine SatC.weak (e' := [(1, _), (4, _), (5, _), (6, _), (8, _), (10, _)]) (by repeat constructor) ?_
        refine SatC.seq ?_
        refine SatC.seq ?_
        refine SatC.region ?_
        refine SatL.pu (RunV.move rfl) rfl ?_
        refine SatL.pu (RunV.move rfl) rfl ?_
        first | refine SatL.pu (RunV.lenR (by assumption) rfl rfl) rfl ?_ | refine SatL.pu (RunV.lenS rfl rfl) rfl ?_
        refine SatL.pu (RunV.lss rfl rfl) rfl ?_
        refine SatL.nil (SatE.thenC ?_)
        refine SatC.cond rfl (fun h3 => ?_) (fun h3 => ?_)
        · (try simp only [cx, ne_eq] at h3)
          try (exfalso; (first | omega | exact h3 trivial | contradiction | (obtain ⟨e1, e2, e3⟩ := hall (by assumption); first | exact h3 e3 | exact h3 (by rw [e1]) | exact h3 (by rw [e2]))); done)
          all_goals
          refine SatC.skip (SatE.thenC ?_)
          refine SatC.seq ?_
          refine SatC.block ?_
          refine SatC.seq ?_
          obtain ⟨y, hy⟩ := get_some zs i (by omega)
          have hyb := hzs y (List.mem_of_getElem? hy)
          obtain ⟨x, hx⟩ := get_some zs (zs.length - 1 - i) (by omega)
          have hxb := hzs x (List.mem_of_getElem? hx)
          have hx' : zs[((zs.length : Int) - 1 - i).toNat]? = some x := by rw [show ((zs.length : Int) - 1 - i).toNat = zs.length - 1 - i by omega]; exact hx
          refine SatC.region ?_
          refine SatL.pu (RunV.move rfl) rfl ?_
          refine SatL.pu (RunV.move rfl) rfl ?_
          refine SatL.pu (RunV.move rfl) rfl ?_
          first | refine SatL.pu (RunV.indexR (by assumption) rfl rfl rfl (by omega) (by omega) rfl) rfl ?_ | refine SatL.pu (RunV.indexS rfl rfl rfl (by omega) (by omega) rfl) rfl ?_
          first | refine SatL.pu (RunV.loadRNz (RdC.st (by assumption) hS List.not_mem_nil) rfl rfl (by first | assumption | exact map_get (by assumption))) rfl ?_ | refine SatL.pu (RunV.loadRNz (Sl.rd (by assumption) hS (by repeat constructor)) rfl rfl (by first | assumption | exact map_get (by assumption))) rfl ?_
          refine SatL.op rfl (OpW.enter rfl rfl rfl (rfl) (apply_any (u := y) (me := me) (hS.ownT (by repeat constructor)) hoA hbA hyb) ?_)
          rintro r65 w65 ⟨rfl, o3, ho3, h⟩
          replace hS := hS.callT (A := [(b1, C 63 (rc me mb1)), (mb1, oA)]) (by repeat constructor) h
          refine SatL.nil (SatE.thenC ?_)
          refine SatC.seq ?_
          refine SatC.region ?_
          refine SatL.pu (RunV.move rfl) rfl ?_
          refine SatL.pu (RunV.move rfl) rfl ?_
          refine SatL.pu (RunV.move rfl) rfl ?_
          first | refine SatL.pu (RunV.lenR (by assumption) rfl rfl) rfl ?_ | refine SatL.pu (RunV.lenS rfl rfl) rfl ?_
          refine SatL.pu (RunV.sub rfl rfl (by first | exact wrapI64 (by omega) | rfl)) rfl ?_
          refine SatL.pu (RunV.move rfl) rfl ?_
          refine SatL.pu (RunV.sub rfl rfl (by first | exact wrapI64 (by omega) | rfl)) rfl ?_
          first | refine SatL.pu (RunV.indexR (by assumption) rfl rfl rfl (by omega) (by omega) rfl) rfl ?_ | refine SatL.pu (RunV.indexS rfl rfl rfl (by omega) (by omega) rfl) rfl ?_
          first | refine SatL.pu (RunV.loadRNz (RdC.st (by assumption) hS List.not_mem_nil) rfl rfl (by first | assumption | exact map_get (by assumption))) rfl ?_ | refine SatL.pu (RunV.loadRNz (Sl.rd (by assumption) hS (by repeat constructor)) rfl rfl (by first | assumption | exact map_get (by assumption))) rfl ?_
          refine SatL.op rfl (OpW.enter rfl rfl rfl (rfl) (apply_any (u := x) (me := me) (hS.ownT (by repeat constructor)) hoB hbB hxb) ?_)
          rintro r66 w66 ⟨rfl, o4, ho4, h⟩
          replace hS := hS.callT (A := [(b2, C 63 (rc me mb2)), (mb2, oB)]) (by repeat constructor) h
          refine SatL.nil (SatE.thenC ?_)
          refine SatC.weak (e' := [(1, _), (4, _), (5, _), (6, _), (8, _), (10, _)]) (by repeat constructor) ?_
          refine SatC.region ?_
          refine SatL.pu (RunV.move rfl) rfl ?_
          refine SatL.pu (RunV.move rfl) rfl ?_
          refine SatL.pu (RunV.move rfl) rfl ?_
          first | refine SatL.pu (RunV.lenR (by assumption) rfl rfl) rfl ?_ | refine SatL.pu (RunV.lenS rfl rfl) rfl ?_
          refine SatL.pu (RunV.sub rfl rfl (by first | exact wrapI64 (by omega) | rfl)) rfl ?_
          refine SatL.pu (RunV.move rfl) rfl ?_
          refine SatL.pu (RunV.sub rfl rfl (by first | exact wrapI64 (by omega) | rfl)) rfl ?_
          first | refine SatL.pu (RunV.indexR (by assumption) rfl rfl rfl (by omega) (by omega) rfl) rfl ?_ | refine SatL.pu (RunV.indexS rfl rfl rfl (by omega) (by omega) rfl) rfl ?_
          first | refine SatL.pu (RunV.loadRNz (RdC.st (by assumption) hS List.not_mem_nil) rfl rfl (by first | assumption | exact map_get (by assumption))) rfl ?_ | refine SatL.pu (RunV.loadRNz (Sl.rd (by assumption) hS (by repeat constructor)) rfl rfl (by first | assumption | exact map_get (by assumption))) rfl ?_
          refine SatL.op rfl (OpW.enter rfl rfl rfl (rfl) (apply_any (u := x) (me := me) (hS.ownT (by repeat constructor)) ho4 (inb_apply hbB hxb) hxb) ?_)
          rintro r67 w67 ⟨rfl, o5, ho5, h⟩
          replace hS := hS.callT (A := [(b2, C 63 (rc me mb2)), (mb2, o4)]) (by repeat constructor) h
          refine SatL.nil (SatE.blk_normal (SatE.thenC ?_))
          refine SatC.region ?_
          refine SatL.pu (RunV.move rfl) rfl ?_
          refine SatL.pu (RunV.add rfl rfl (by first | exact wrapI64 (by omega) | rfl)) rfl ?_
          refine SatL.pu (RunV.assign rfl) rfl ?_
          refine SatL.nil ?_
          refine SatE.again ((i + 1, (applyC me mA y).2, o3, (applyC me (applyC me mB x).2 x).2, o5, lB ++ [x] ++ [x])) ?_ (by first | omega | (dsimp only; omega)) (by repeat constructor)
          refine ⟨by omega, ho3, inb_apply hbA hyb, ?_, ho5, inb_apply (inb_apply hbB hxb) hxb, heard_apply x (heard_apply x hB), mem_back hx (by omega) hlB, hS.sel (by repeat constructor)⟩
          rw [List.take_add_one, hy]
          exact heard_apply y hA
        · (try simp only [cx, ne_eq] at h3)
          try (exfalso; (first | omega | exact h3 trivial | contradiction | (obtain ⟨e1, e2, e3⟩ := hall (by assumption); first | exact h3 e3 | exact h3 (by rw [e1]) | exact h3 (by rw [e2]))); done)
          all_goals
          refine SatC.exit (SatE.then_exit (SatE.then_exit (SatE.blk_exit (SatE.thenC ?_))))
          refine SatC.seq ?_
          have hAz : Heard me mA zs := by rw [List.take_of_length_le (by omega)] at hA; exact hA
          have hlz' : ∀ u, u ∈ lB ↔ u ∈ zs := by rw [show zs.length - i = 0 by omega] at hlB; simpa using hlB
          refine SatC.region ?_
          refine SatL.pu (RunV.assign rfl) rfl ?_
          refine SatL.nil (SatE.thenC ?_)
          refine SatC.seq ?_
          refine SatC.seq ?_
          refine SatC.region ?_
          refine SatL.pu (RunV.assign rfl) rfl ?_
          refine SatL.nil (SatE.thenC ?_)
          refine SatC.block ?_
          refine SatC.loopK (G := Nat × Value × List (Nat × Obj)) (V := fun ⟨j, v, B⟩ => [(12, .int .i64 (j : Int)), (11, v)]) (Cn := [(1, _), (4, _), (5, _), (6, _), (8, _)]) (I := fun ⟨j, v, B⟩ w' => j ≤ zs.length ∧ Sl 29 3 v ((oth me (zs.take j)).map ud) B ∧ St w [] (B ++ [(b1, C 63 (rc me mb1)), (mb1, oA), (b2, C 63 (rc me mb2)), (mb2, oB)]) w') (μ := fun ⟨j, v, B⟩ => zs.length - j) (0, .slice none 0 0, []) ?_ (by repeat constructor) ?_
          · exact ⟨Nat.zero_le _, .nil, hS⟩
          clear hS
          rintro ⟨j, v, B⟩ w65 ⟨hj, hsl, hS⟩
          refine SatC.weak (e' := [(1, _), (4, _), (5, _), (6, _), (8, _), (11, _), (12, _)]) (by repeat constructor) ?_
          refine SatC.seq ?_
          refine SatC.seq ?_
          refine SatC.region ?_
          refine SatL.pu (RunV.move rfl) rfl ?_
          refine SatL.pu (RunV.move rfl) rfl ?_
          first | refine SatL.pu (RunV.lenR (by assumption) rfl rfl) rfl ?_ | refine SatL.pu (RunV.lenS rfl rfl) rfl ?_
          refine SatL.pu (RunV.lss rfl rfl) rfl ?_
          refine SatL.nil (SatE.thenC ?_)
          refine SatC.cond rfl (fun h4 => ?_) (fun h4 => ?_)
          · (try simp only [cx, ne_eq] at h4)
            try (exfalso; (first | omega | exact h4 trivial | contradiction | (obtain ⟨e1, e2, e3⟩ := hall (by assumption); first | exact h4 e3 | exact h4 (by rw [e1]) | exact h4 (by rw [e2]))); done)
            all_goals
            refine SatC.skip (SatE.thenC ?_)
            refine SatC.seq ?_
            refine SatC.block ?_
            refine SatC.seq ?_
            obtain ⟨y, hy⟩ := get_some zs j (by omega)
            have hnx := oth_next (me := me) hy
            have hln : (oth me (zs.take j)).length ≤ 60 := Nat.le_trans (List.length_filter_le ..) (by rw [List.length_take]; omega)
            refine SatC.region ?_
            refine SatL.pu (RunV.move rfl) rfl ?_
            refine SatL.pu (RunV.move rfl) rfl ?_
            first | refine SatL.pu (RunV.indexR (by assumption) rfl rfl rfl (by omega) (by omega) rfl) rfl ?_ | refine SatL.pu (RunV.indexS rfl rfl rfl (by omega) (by omega) rfl) rfl ?_
            first | refine SatL.pu (RunV.fieldAddrL rfl rfl rfl) rfl ?_ | refine SatL.pu (RunV.fieldAddr rfl rfl rfl) rfl ?_
            first | refine SatL.pu (RunV.loadR1f (RdC.st (by assumption) hS List.not_mem_nil) rfl rfl (by first | assumption | exact map_get (by assumption)) rfl) rfl ?_ | refine SatL.pu (RunV.loadR1f (Sl.rd (by assumption) hS (by repeat constructor)) rfl rfl (by first | assumption | exact map_get (by assumption)) rfl) rfl ?_
            refine SatL.pu (RunV.move rfl) rfl ?_
            refine SatL.pu (RunV.neq rfl rfl) rfl ?_
            refine SatL.nil (SatE.thenC ?_)
            refine SatC.cond rfl (fun h5 => ?_) (fun h5 => ?_)
            · (try simp only [cx, ne_eq] at h5)
              try (exfalso; (first | omega | exact h5 trivial | contradiction | (obtain ⟨e1, e2, e3⟩ := hall (by assumption); first | exact h5 e3 | exact h5 (by rw [e1]) | exact h5 (by rw [e2]))); done)
              all_goals
              refine SatC.region ?_
              refine SatL.pu (RunV.move rfl) rfl ?_
              refine SatL.pu (RunV.move rfl) rfl ?_
              refine SatL.pu (RunV.move rfl) rfl ?_
              first | refine SatL.pu (RunV.indexR (by assumption) rfl rfl rfl (by omega) (by omega) rfl) rfl ?_ | refine SatL.pu (RunV.indexS rfl rfl rfl (by omega) (by omega) rfl) rfl ?_
              first | refine SatL.pu (RunV.loadRNz (RdC.st (by assumption) hS List.not_mem_nil) rfl rfl (by first | assumption | exact map_get (by assumption))) rfl ?_ | refine SatL.pu (RunV.loadRNz (Sl.rd (by assumption) hS (by repeat constructor)) rfl rfl (by first | assumption | exact map_get (by assumption))) rfl ?_
              refine SatL.op rfl (OpW.buildSlice1 hS rfl rfl rfl rfl rfl (by repeat constructor) rfl rfl rfl ?_)
              clear hS
              intro b95 w66 _ hS
              refine SatL.op rfl (OpW.append1 (by assumption) hS (by repeat constructor) rfl rfl (by repeat constructor) rfl rfl rfl rfl rfl rfl rfl rfl (by first | omega | (simp only [List.length_map]; omega)) rfl ?_)
              clear hS
              intro v96 B96 w67 hsl96 hS
              refine SatL.pu (RunV.assign rfl) rfl ?_
              refine SatL.nil (SatE.blk_normal (SatE.thenC ?_))
              refine SatC.weak (e' := [(1, _), (4, _), (5, _), (6, _), (8, _), (11, _), (12, _)]) (by repeat constructor) ?_
              refine SatC.region ?_
              refine SatL.pu (RunV.move rfl) rfl ?_
              refine SatL.pu (RunV.add rfl rfl (by first | exact wrapI64 (by omega) | rfl)) rfl ?_
              refine SatL.pu (RunV.assign rfl) rfl ?_
              refine SatL.nil ?_
              refine SatE.again ((j + 1, v96, B96)) ?_ (by first | omega | (dsimp only; omega)) (by repeat constructor)
              refine ⟨by omega, ?_, hS.sel (by repeat constructor)⟩
              rw [hnx, if_neg (by assumption), List.map_append]
              exact hsl96
            · (try simp only [cx, ne_eq] at h5)
              try (exfalso; (first | omega | exact h5 trivial | contradiction | (obtain ⟨e1, e2, e3⟩ := hall (by assumption); first | exact h5 e3 | exact h5 (by rw [e1]) | exact h5 (by rw [e2]))); done)
              all_goals
              refine SatC.skip (SatE.blk_normal (SatE.thenC ?_))
              refine SatC.region ?_
              refine SatL.pu (RunV.move rfl) rfl ?_
              refine SatL.pu (RunV.add rfl rfl (by first | exact wrapI64 (by omega) | rfl)) rfl ?_
              refine SatL.pu (RunV.assign rfl) rfl ?_
              refine SatL.nil ?_
              refine SatE.again ((j + 1, v, B)) ?_ (by first | omega | (dsimp only; omega)) (by repeat constructor)
              refine ⟨by omega, ?_, hS⟩
              rw [hnx, if_pos (by assumption), List.append_nil]
              exact hsl
          · (try simp only [cx, ne_eq] at h4)
            try (exfalso; (first | omega | exact h4 trivial | contradiction | (obtain ⟨e1, e2, e3⟩ := hall (by assumption); first | exact h4 e3 | exact h4 (by rw [e1]) | exact h4 (by rw [e2]))); done)
            all_goals
            refine SatC.exit (SatE.then_exit (SatE.then_exit (SatE.blk_exit (SatE.thenC ?_))))
            refine SatC.seq ?_
            rw [List.take_of_length_le (by omega : zs.length ≤ j)] at hsl
            have hlo : (oth me zs).length ≤ 60 := Nat.le_trans (List.length_filter_le ..) hlz
            refine SatC.region ?_
            refine SatL.pu (RunV.move rfl) rfl ?_
            refine SatL.op rfl (OpW.enter rfl rfl rfl (rfl) (join_any _ _ (oth me zs) [] _ (by first | assumption | exact RdRow.st (by assumption) hS | exact Sl.row (by assumption) hS (by repeat constructor) (by first | omega | exact jn_row _ _ | (simp only [List.length_map, List.length_append, List.length_take]; omega)) | exact RdRow.nil) RdRow.nil) ?_)
            rintro r66 w66 ⟨B2, hsl2, h⟩
            replace hS := hS.call0 h
            refine SatL.pu (RunV.assign rfl) rfl ?_
            refine SatL.nil (SatE.thenC ?_)
            refine SatC.seq ?_
            refine SatC.seq ?_
            refine SatC.region ?_
            refine SatL.pu (RunV.assign rfl) rfl ?_
            refine SatL.nil (SatE.thenC ?_)
            refine SatC.block ?_
            refine SatC.loopK (G := Nat) (V := fun n => [(14, .int .i64 (n : Int))]) (Cn := [(5, _), (6, _), (8, _), (13, _), (4, _)]) (I := fun n w' => n ≤ 8 ∧ St w [] (B2 ++ [(b1, C 63 (rc me mb1)), (mb1, oA), (b2, C 63 (rc me mb2)), (mb2, oB)]) w') (μ := fun n => 8 - n) 0 ?_ (by repeat constructor) ?_
            · exact ⟨by omega, hS.sel (by repeat constructor)⟩
            clear hS
            rintro n w67 ⟨hn, hS⟩
            refine SatC.weak (e' := [(4, _), (5, _), (6, _), (8, _), (13, _), (14, _)]) (by repeat constructor) ?_
            refine SatC.seq ?_
            refine SatC.seq ?_
            refine SatC.region ?_
            refine SatL.pu (RunV.move rfl) rfl ?_
            refine SatL.pu (RunV.lss rfl rfl) rfl ?_
            refine SatL.nil (SatE.thenC ?_)
            refine SatC.cond rfl (fun h5 => ?_) (fun h5 => ?_)
            · (try simp only [cx, ne_eq] at h5)
              try (exfalso; (first | omega | exact h5 trivial | contradiction | (obtain ⟨e1, e2, e3⟩ := hall (by assumption); first | exact h5 e3 | exact h5 (by rw [e1]) | exact h5 (by rw [e2]))); done)
              all_goals
              refine SatC.skip (SatE.thenC ?_)
              refine SatC.seq ?_
              refine SatC.block ?_
              refine SatC.seq ?_
              have hall := fun hne => all_same (show n < 8 by omega) hne hAz hB hlz'
              have hjl := jn_row (oth me zs) []
              refine SatC.region ?_
              refine SatL.pu (RunV.move rfl) rfl ?_
              refine SatL.pu (RunV.move rfl) rfl ?_
              refine SatL.op rfl (OpW.enter rfl rfl rfl (rfl) (find_any _ (jn (oth me zs) []) _ _ (by first | assumption | exact RdRow.st (by assumption) hS | exact Sl.row (by assumption) hS (by repeat constructor) (by first | omega | exact jn_row _ _ | (simp only [List.length_map, List.length_append, List.length_take]; omega)) | exact RdRow.nil)) ?_)
              rintro r68 w68 ⟨rfl, h⟩
              replace hS := St.callN hS h
              refine SatL.pu (RunV.move rfl) rfl ?_
              refine SatL.pu (RunV.extract rfl rfl) rfl ?_
              refine SatL.pu (RunV.extract rfl rfl) rfl ?_
              refine SatL.op rfl (OpW.alloc hS rfl rfl (by repeat constructor) ?_)
              clear hS
              intro b15 w69 _ hS
              refine SatL.op rfl (OpW.store hS rfl rfl (by repeat constructor) (by repeat constructor) (by repeat constructor) rfl rfl ?_)
              clear hS
              intro w70 hS
              refine SatL.pu (RunV.assign rfl) rfl ?_
              refine SatL.nil (SatE.thenC ?_)
              refine SatC.seq ?_
              refine SatC.region ?_
              refine SatL.pu (RunV.move rfl) rfl ?_
              refine SatL.pu (RunV.move rfl) rfl ?_
              refine SatL.op rfl (OpW.enter rfl rfl rfl (rfl) (get_any (me := me) _ (hS.ownT (by repeat constructor)) hoA) ?_)
              rintro r71 w71 ⟨rfl, h⟩
              replace hS := St.callN hS h
              refine SatL.pu (RunV.move rfl) rfl ?_
              refine SatL.pu (RunV.extract rfl rfl) rfl ?_
              refine SatL.pu (RunV.extract rfl rfl) rfl ?_
              refine SatL.op rfl (OpW.alloc hS rfl rfl (by repeat constructor) ?_)
              clear hS
              intro b17 w72 _ hS
              refine SatL.op rfl (OpW.store hS rfl rfl (by repeat constructor) (by repeat constructor) (by repeat constructor) rfl rfl ?_)
              clear hS
              intro w73 hS
              refine SatL.pu (RunV.assign rfl) rfl ?_
              refine SatL.nil (SatE.thenC ?_)
              refine SatC.seq ?_
              refine SatC.weak (e' := [(4, _), (5, _), (6, _), (8, _), (13, _), (14, _), (15, _), (16, _), (17, _), (18, _)]) (by repeat constructor) ?_
              refine SatC.region ?_
              refine SatL.pu (RunV.move rfl) rfl ?_
              refine SatL.pu (RunV.move rfl) rfl ?_
              refine SatL.op rfl (OpW.enter rfl rfl rfl (rfl) (get_any (me := me) _ (hS.ownT (by repeat constructor)) hoB) ?_)
              rintro r74 w74 ⟨rfl, h⟩
              replace hS := St.callN hS h
              refine SatL.pu (RunV.move rfl) rfl ?_
              refine SatL.pu (RunV.extract rfl rfl) rfl ?_
              refine SatL.pu (RunV.extract rfl rfl) rfl ?_
              refine SatL.op rfl (OpW.alloc hS rfl rfl (by repeat constructor) ?_)
              clear hS
              intro b19 w75 _ hS
              refine SatL.op rfl (OpW.store hS rfl rfl (by repeat constructor) (by repeat constructor) (by repeat constructor) rfl rfl ?_)
              clear hS
              intro w76 hS
              refine SatL.pu (RunV.assign rfl) rfl ?_
              refine SatL.nil (SatE.thenC ?_)
              refine SatC.seq ?_
              refine SatC.region ?_
              refine SatL.pu (RunV.move rfl) rfl ?_
              refine SatL.pu (RunV.move rfl) rfl ?_
              refine SatL.pu (RunV.neq rfl rfl) rfl ?_
              refine SatL.pu (RunV.move rfl) rfl ?_
              refine SatL.guard rfl rfl rfl (fun h6 => ?_) (fun h6 => ?_)
              · (try simp only [cx, ne_eq] at h6)
                try (exfalso; (first | omega | exact h6 trivial | contradiction | (obtain ⟨e1, e2, e3⟩ := hall (by assumption); first | exact h6 e3 | exact h6 (by rw [e1]) | exact h6 (by rw [e2]))); done)
                all_goals
                refine SatL.pu (RunV.loadN hS rfl rfl (by repeat constructor) (by repeat constructor)) rfl ?_
                refine SatL.guard_y rfl rfl ?_
                refine SatL.pu (RunV.loadN hS rfl rfl (by repeat constructor) (by repeat constructor)) rfl ?_
                refine SatL.guard_y rfl rfl ?_
                refine SatL.pu (RunV.bin rfl rfl (guard24 _ _ _ _ _ _ _ _ _ _) (run_neq24 _ _ _ _ _ _ _)) rfl ?_
                refine SatL.guard_y rfl rfl ?_
                refine SatL.pu (RunV.move rfl) rfl ?_
                refine SatL.guard rfl rfl rfl (fun h7 => ?_) (fun h7 => ?_)
                · (try simp only [cx, ne_eq] at h7)
                  try (exfalso; (first | omega | exact h7 trivial | contradiction | (obtain ⟨e1, e2, e3⟩ := hall (by assumption); first | exact h7 e3 | exact h7 (by rw [e1]) | exact h7 (by rw [e2]))); done)
                  all_goals
                  refine SatL.pu (RunV.move rfl) rfl ?_
                  refine SatL.guard_y rfl rfl ?_
                  refine SatL.pu (RunV.move rfl) rfl ?_
                  refine SatL.guard_y rfl rfl ?_
                  refine SatL.pu (RunV.bneq rfl rfl rfl) rfl ?_
                  refine SatL.guard_y rfl rfl ?_
                  refine SatL.pu (RunV.pick_f rfl rfl) rfl ?_
                  refine SatL.guard_y rfl rfl ?_
                  refine SatL.pu (RunV.move rfl) rfl ?_
                  refine SatL.guard rfl rfl rfl (fun h8 => ?_) (fun h8 => ?_)
                  · (try simp only [cx, ne_eq] at h8)
                    try (exfalso; (first | omega | exact h8 trivial | contradiction | (obtain ⟨e1, e2, e3⟩ := hall (by assumption); first | exact h8 e3 | exact h8 (by rw [e1]) | exact h8 (by rw [e2]))); done)
                    all_goals
                    refine SatL.pu (RunV.loadN hS rfl rfl (by repeat constructor) (by repeat constructor)) rfl ?_
                    refine SatL.guard_y rfl rfl ?_
                    refine SatL.pu (RunV.loadN hS rfl rfl (by repeat constructor) (by repeat constructor)) rfl ?_
                    refine SatL.guard_y rfl rfl ?_
                    refine SatL.pu (RunV.bin rfl rfl (guard24 _ _ _ _ _ _ _ _ _ _) (run_neq24 _ _ _ _ _ _ _)) rfl ?_
                    refine SatL.guard_y rfl rfl ?_
                    refine SatL.pu (RunV.pick_f rfl rfl) rfl ?_
                    refine SatL.guard_y rfl rfl ?_
                    refine SatL.pu (RunV.move rfl) rfl ?_
                    refine SatL.guard rfl rfl rfl (fun h9 => ?_) (fun h9 => ?_)
                    · (try simp only [cx, ne_eq] at h9)
                      try (exfalso; (first | omega | exact h9 trivial | contradiction | (obtain ⟨e1, e2, e3⟩ := hall (by assumption); first | exact h9 e3 | exact h9 (by rw [e1]) | exact h9 (by rw [e2]))); done)
                      all_goals
                      refine SatL.pu (RunV.move rfl) rfl ?_
                      refine SatL.guard_y rfl rfl ?_
                      refine SatL.pu (RunV.move rfl) rfl ?_
                      refine SatL.guard_y rfl rfl ?_
                      refine SatL.pu (RunV.bneq rfl rfl rfl) rfl ?_
                      refine SatL.guard_y rfl rfl ?_
                      refine SatL.pu (RunV.pick_f rfl rfl) rfl ?_
                      refine SatL.pu (RunV.pick_t rfl rfl) rfl ?_
                      refine SatL.nil (SatE.thenC ?_)
                      refine SatC.weak (e' := [(4, _), (5, _), (6, _), (8, _), (13, _), (14, _), (143, _)]) (by repeat constructor) ?_
                      refine SatC.cond rfl (fun h10 => ?_) (fun h10 => ?_)
                      · (try simp only [cx, ne_eq] at h10)
                        try (exfalso; (first | omega | exact h10 trivial | contradiction | (obtain ⟨e1, e2, e3⟩ := hall (by assumption); first | exact h10 e3 | exact h10 (by rw [e1]) | exact h10 (by rw [e2]))); done)
                        all_goals
                        refine SatC.seq ?_
                        refine SatC.region ?_
                        refine SatL.pu (RunV.assign rfl) rfl ?_
                        refine SatL.nil (SatE.thenC ?_)
                        refine SatC.ret (SatE.blk_ret (SatE.then_ret (SatE.then_ret (SatE.blk_ret (SatE.then_ret ?_)))))
                        refine SatE.ret1 rfl rfl ?_
                        exact ⟨rfl, hS.sel (by repeat constructor)⟩
                      · (try simp only [cx, ne_eq] at h10)
                        try (exfalso; (first | omega | exact h10 trivial | contradiction | (obtain ⟨e1, e2, e3⟩ := hall (by assumption); first | exact h10 e3 | exact h10 (by rw [e1]) | exact h10 (by rw [e2]))); done)
                        all_goals
                        refine SatC.skip (SatE.blk_normal (SatE.thenC ?_))
                        refine SatC.region ?_
                        refine SatL.pu (RunV.move rfl) rfl ?_
                        refine SatL.pu (RunV.add rfl rfl (by first | exact wrapI64 (by omega) | rfl)) rfl ?_
                        refine SatL.pu (RunV.assign rfl) rfl ?_
                        refine SatL.nil ?_
                        refine SatE.again (n + 1) ?_ (by first | omega | (dsimp only; omega)) (by repeat constructor)
                        exact ⟨by omega, hS.sel (by repeat constructor)⟩
                    · (try simp only [cx, ne_eq] at h9)
                      try (exfalso; (first | omega | exact h9 trivial | contradiction | (obtain ⟨e1, e2, e3⟩ := hall (by assumption); first | exact h9 e3 | exact h9 (by rw [e1]) | exact h9 (by rw [e2]))); done)
                      all_goals
                      refine SatL.guard_n rfl rfl rfl rfl ?_
                      refine SatL.guard_n rfl rfl rfl rfl ?_
                      refine SatL.guard_y rfl rfl ?_
                      refine SatL.pu (RunV.pick_t rfl rfl) rfl ?_
                      refine SatL.pu (RunV.pick_t rfl rfl) rfl ?_
                      refine SatL.nil (SatE.thenC ?_)
                      refine SatC.weak (e' := [(4, _), (5, _), (6, _), (8, _), (13, _), (14, _), (143, _)]) (by repeat constructor) ?_
                      refine SatC.cond_t rfl ?_
                      refine SatC.seq ?_
                      refine SatC.region ?_
                      refine SatL.pu (RunV.assign rfl) rfl ?_
                      refine SatL.nil (SatE.thenC ?_)
                      refine SatC.ret (SatE.blk_ret (SatE.then_ret (SatE.then_ret (SatE.blk_ret (SatE.then_ret ?_)))))
                      refine SatE.ret1 rfl rfl ?_
                      exact ⟨rfl, hS.sel (by repeat constructor)⟩
                  · (try simp only [cx, ne_eq] at h8)
                    try (exfalso; (first | omega | exact h8 trivial | contradiction | (obtain ⟨e1, e2, e3⟩ := hall (by assumption); first | exact h8 e3 | exact h8 (by rw [e1]) | exact h8 (by rw [e2]))); done)
                    all_goals
                    refine SatL.guard_n rfl rfl rfl rfl ?_
                    refine SatL.guard_n rfl rfl rfl rfl ?_
                    refine SatL.guard_y rfl rfl ?_
                    refine SatL.pu (RunV.pick_t rfl rfl) rfl ?_
                    refine SatL.guard_y rfl rfl ?_
                    refine SatL.pu (RunV.move rfl) rfl ?_
                    refine SatL.guard_n rfl rfl rfl rfl ?_
                    refine SatL.guard_n rfl rfl rfl rfl ?_
                    refine SatL.guard_n rfl rfl rfl rfl ?_
                    refine SatL.guard_y rfl rfl ?_
                    refine SatL.pu (RunV.pick_t rfl rfl) rfl ?_
                    refine SatL.pu (RunV.pick_t rfl rfl) rfl ?_
                    refine SatL.nil (SatE.thenC ?_)
                    refine SatC.weak (e' := [(4, _), (5, _), (6, _), (8, _), (13, _), (14, _), (143, _)]) (by repeat constructor) ?_
                    refine SatC.cond_t rfl ?_
                    refine SatC.seq ?_
                    refine SatC.region ?_
                    refine SatL.pu (RunV.assign rfl) rfl ?_
                    refine SatL.nil (SatE.thenC ?_)
                    refine SatC.ret (SatE.blk_ret (SatE.then_ret (SatE.then_ret (SatE.blk_ret (SatE.then_ret ?_)))))
                    refine SatE.ret1 rfl rfl ?_
                    exact ⟨rfl, hS.sel (by repeat constructor)⟩
                · (try simp only [cx, ne_eq] at h7)
                  try (exfalso; (first | omega | exact h7 trivial | contradiction | (obtain ⟨e1, e2, e3⟩ := hall (by assumption); first | exact h7 e3 | exact h7 (by rw [e1]) | exact h7 (by rw [e2]))); done)
                  all_goals
                  refine SatL.guard_n rfl rfl rfl rfl ?_
                  refine SatL.guard_n rfl rfl rfl rfl ?_
                  refine SatL.guard_y rfl rfl ?_
                  refine SatL.pu (RunV.pick_t rfl rfl) rfl ?_
                  refine SatL.guard_y rfl rfl ?_
                  refine SatL.pu (RunV.move rfl) rfl ?_
                  refine SatL.guard_n rfl rfl rfl rfl ?_
                  refine SatL.guard_n rfl rfl rfl rfl ?_
                  refine SatL.guard_n rfl rfl rfl rfl ?_
                  refine SatL.guard_y rfl rfl ?_
                  refine SatL.pu (RunV.pick_t rfl rfl) rfl ?_
                  refine SatL.guard_y rfl rfl ?_
                  refine SatL.pu (RunV.move rfl) rfl ?_
                  refine SatL.guard_n rfl rfl rfl rfl ?_
                  refine SatL.guard_n rfl rfl rfl rfl ?_
                  refine SatL.guard_n rfl rfl rfl rfl ?_
                  refine SatL.guard_y rfl rfl ?_
                  refine SatL.pu (RunV.pick_t rfl rfl) rfl ?_
                  refine SatL.pu (RunV.pick_t rfl rfl) rfl ?_
                  refine SatL.nil (SatE.thenC ?_)
                  refine SatC.weak (e' := [(4, _), (5, _), (6, _), (8, _), (13, _), (14, _), (143, _)]) (by repeat constructor) ?_
                  refine SatC.cond_t rfl ?_
                  refine SatC.seq ?_
                  refine SatC.region ?_
                  refine SatL.pu (RunV.assign rfl) rfl ?_
                  refine SatL.nil (SatE.thenC ?_)
                  refine SatC.ret (SatE.blk_ret (SatE.then_ret (SatE.then_ret (SatE.blk_ret (SatE.then_ret ?_)))))
                  refine SatE.ret1 rfl rfl ?_
                  exact ⟨rfl, hS.sel (by repeat constructor)⟩
              · (try simp only [cx, ne_eq] at h6)
                try (exfalso; (first | omega | exact h6 trivial | contradiction | (obtain ⟨e1, e2, e3⟩ := hall (by assumption); first | exact h6 e3 | exact h6 (by rw [e1]) | exact h6 (by rw [e2]))); done)
                all_goals
                refine SatL.guard_n rfl rfl rfl rfl ?_
                refine SatL.guard_n rfl rfl rfl rfl ?_
                refine SatL.guard_n rfl rfl rfl rfl ?_
                refine SatL.guard_u rfl rfl rfl ?_
                refine SatL.guard_u rfl rfl rfl ?_
                refine SatL.guard_u rfl rfl rfl ?_
                refine SatL.guard_n rfl rfl rfl rfl ?_
                refine SatL.guard_n rfl rfl rfl rfl ?_
                refine SatL.guard_u rfl rfl rfl ?_
                refine SatL.guard_u rfl rfl rfl ?_
                refine SatL.guard_u rfl rfl rfl ?_
                refine SatL.guard_n rfl rfl rfl rfl ?_
                refine SatL.guard_n rfl rfl rfl rfl ?_
                refine SatL.guard_u rfl rfl rfl ?_
                refine SatL.guard_u rfl rfl rfl ?_
                refine SatL.guard_u rfl rfl rfl ?_
                refine SatL.guard_n rfl rfl rfl rfl ?_
                refine SatL.pu (RunV.pick_f rfl rfl) rfl ?_
                refine SatL.nil (SatE.thenC ?_)
                refine SatC.weak (e' := [(4, _), (5, _), (6, _), (8, _), (13, _), (14, _), (143, _)]) (by repeat constructor) ?_
                refine SatC.cond_f rfl ?_
                refine SatC.skip (SatE.blk_normal (SatE.thenC ?_))
                refine SatC.region ?_
                refine SatL.pu (RunV.move rfl) rfl ?_
                refine SatL.pu (RunV.add rfl rfl (by first | exact wrapI64 (by omega) | rfl)) rfl ?_
                refine SatL.pu (RunV.assign rfl) rfl ?_
                refine SatL.nil ?_
                refine SatE.again (n + 1) ?_ (by first | omega | (dsimp only; omega)) (by repeat constructor)
                exact ⟨by omega, hS.sel (by repeat constructor)⟩
            · (try simp only [cx, ne_eq] at h5)
              try (exfalso; (first | omega | exact h5 trivial | contradiction | (obtain ⟨e1, e2, e3⟩ := hall (by assumption); first | exact h5 e3 | exact h5 (by rw [e1]) | exact h5 (by rw [e2]))); done)
              all_goals
              refine SatC.exit (SatE.then_exit (SatE.then_exit (SatE.blk_exit (SatE.thenC ?_))))
              refine SatC.seq ?_
              refine SatC.region ?_
              refine SatL.op rfl (OpW.enter rfl rfl rfl (rfl) (works_any _) ?_)
              rintro r68 w68 ⟨rfl, h⟩
              replace hS := St.callN hS h
              refine SatL.pu (RunV.assign rfl) rfl ?_
              refine SatL.nil (SatE.thenC ?_)
              refine SatC.ret ?_
              refine SatE.ret1 rfl rfl ?_
              exact ⟨rfl, hS.sel (by repeat constructor)⟩
  · (try simp only [cx, ne_eq] at h1)
    try (exfalso; (first | omega | exact h1 trivial | contradiction | (obtain ⟨e1, e2, e3⟩ := hall (by assumption); first | exact h1 e3 | exact h1 (by rw [e1]) | exact h1 (by rw [e2]))); done)
    all_goals
    refine SatL.guard_n rfl rfl rfl rfl ?_
    refine SatL.pu (RunV.pick_t rfl rfl) rfl ?_
    refine SatL.nil (SatE.thenC ?_)
    refine SatC.cond_t rfl ?_
    refine SatC.seq ?_
    refine SatC.weak (e' := [(4, _)]) (by repeat constructor) ?_
    refine SatC.region ?_
    refine SatL.pu (RunV.assign rfl) rfl ?_
    refine SatL.nil (SatE.thenC ?_)
    refine SatC.ret (SatE.then_ret ?_)
    refine SatE.ret1 rfl rfl ?_
    exact ⟨rfl, hS.sel (by repeat constructor)⟩
theorem rollJoins_lifted (os : Os) (started : os.Started) (H : Type) (enc : TypeId × Value → H) :
    ReturnsInHanded {} Try.checked os 5 .any (Rows.rollJoinsSpec.pre6 enc Try.prog Try.f5 Rows.rollJoinsRow.domain false) (Rows.rollJoinsSpec.post enc Try.prog Try.f5 false true false false) := by
  refine law_returns (C := Try.checked) (b := 4) (by kernel_rfl) started (by kernel_rfl) Try.func5
    (ChangeSpec.witness6 (enc := enc) (C := Try.checked) false ⟨#[], #[.int .u8 0, .slice none 0 0], []⟩ 8 (by kernel_rfl) (by kernel_rfl) (by kernel_rfl) (by kernel_rfl))
    rfl rfl (by kernel_rfl) (by kernel_rfl) (by kernel_rfl) (fun ds h => ?_) ?_
  · rw [Try.params5] at h
    match ds, h with
    | [_, _], _ => rfl
  intro W base args ds ps hval hA hsz
  rw [Try.params5] at hA hval
  obtain ⟨v0, v1, d0, d1, q0, q1, hargs, rfl, rfl, h0, h1⟩ := trodAll_two hA
  subst hargs
  obtain ⟨a0, rfl, rfl, rfl, b0⟩ := open_int Try.underlying5 (hval 0 5 v0 rfl rfl) h0
  replace b0 := bnd_u8 b0
  obtain ⟨xs1, hr1, hx1⟩ := open_rows (l := [3, 22, 3]) 6 Try.underlying23 (by kernel_rfl) (by kernel_rfl) (by decide) (hval 1 23 v1 rfl rfl) h1
  obtain ⟨ys1, rfl, hy1⟩ := rows_map (enc' := ud) (q := fun y => 0 ≤ y.i ∧ y.i ≤ 4294967295) (fun r hr => by
    obtain ⟨u0, u1, u2, rfl, l0, l1, l2⟩ := allLeaf_list3 hr
    obtain ⟨n0, rfl, e0⟩ := leaf_int Try.underlying3 l0
    obtain ⟨n1, rfl, e1⟩ := leaf_int Try.underlying22 l1
    obtain ⟨n2, rfl, e2⟩ := leaf_int Try.underlying3 l2
    exact ⟨⟨n0, n1, n2⟩, rfl, bnd_u32 e1⟩) xs1 hx1
  exact law_done (joins_any a0 _ ys1 W b0 hr1 hy1)
theorem rollJoins_holds : Rows.RollJoinsSaid :=
  OpenClaim.holds_of_wide 5 Try.f5 rfl rfl rfl rfl rfl rfl rfl ⟨rfl, rfl, rfl, rfl, rfl⟩ rfl rfl rfl rfl rfl (by kernel_rfl) Try.func5 (by kernel_rfl)
    (of_decide_eq_true (by kernel_rfl)) (by unfold Func.isWrapper; first | (rw [if_pos (by decide +kernel)]; kernel_rfl) | (rw [if_neg (by decide +kernel)]; exact ⟨rfl, rfl⟩))
    (fun os started H enc _ => rollJoins_lifted os started H enc)
end Go.Proofs.Ytpbfjadkimojeaa
