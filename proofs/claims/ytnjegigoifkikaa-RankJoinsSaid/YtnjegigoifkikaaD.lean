/- Contracts of chapter 08's joining of tables: the program's by seats, the document's by nodes; both come to one table. -/
import Derived.Test.YtnjegigoifkikaaC
set_option linter.unusedSimpArgs false
set_option linter.unusedVariables false
set_option maxRecDepth 100000
set_option maxHeartbeats 1000000
namespace Go.Proofs.Ytnjegigoifkikaa
open Go.RowKit
theorem run_neq46 (p q : Bool) (n i s n' i' s' : Int) (w : World) : (binOp .neq 46 (.agg #[.bool p, .int .i64 n, .int .u32 i, .int .i64 s]) (.agg #[.bool q, .int .i64 n', .int .u32 i', .int .i64 s'])).run Try.prog w = .ok (.bool (decide (¬ (p = q ∧ n = n' ∧ i = i' ∧ s = s')))) w := by
  by_cases h0 : p = q <;> by_cases h1 : n = n' <;> by_cases h2 : i = i' <;> by_cases h3 : s = s' <;> simp [go_sem, h0, h1, h2, h3]
theorem guard46 (op : BinOp) (x y : Operand) (p q : Bool) (n i s n' i' s' : Int) (w : World) : (eqGuard op 46 x y (.agg #[.bool p, .int .i64 n, .int .u32 i, .int .i64 s]) (.agg #[.bool q, .int .i64 n', .int .u32 i', .int .i64 s'])).run Try.prog w = .ok () w := by
  unfold eqGuard
  cases op <;> simp [go_sem]
def right (u : Upd) : Bool := decide (0 ≤ u.n ∧ u.n < 8 ∧ 0 ≤ u.s ∧ u.s ≤ 3)
def ox (x : Option Upd) : Upd := x.getD ⟨0, 0, 0⟩
@[reducible] def encO (x : Option Upd) : List Value := [.bool x.isSome, .int .i64 (ox x).n, .int .u32 (ox x).i, .int .i64 (ox x).s]
def tcells (tab : List (Option Upd)) : List Value := (tab.map encO).flatten
theorem encO_len (tab : List (Option Upd)) : ∀ r ∈ tab.map encO, r.length = 4 := by
  intro r hr
  obtain ⟨x, _, rfl⟩ := List.mem_map.1 hr
  rfl
def over (x : Option Upd) (u : Upd) : Upd := match x with
  | none => u
  | some y => best y u
def put (tab : List (Option Upd)) (u : Upd) : List (Option Upd) := if right u then tab.set u.n.toNat (some (over (tab[u.n.toNat]?.join) u)) else tab
theorem put_len (tab : List (Option Upd)) (u : Upd) : (put tab u).length = tab.length := by
  unfold put
  split <;> simp
def Wf (tab : List (Option Upd)) : Prop := ∀ (k : Nat) (x : Upd), tab[k]? = some (some x) → x.n = (k : Int)
theorem best_n {x y : Upd} (h : x.n = y.n) : (best x y).n = y.n := by
  unfold best
  split
  · rfl
  · exact h
theorem over_n {tab : List (Option Upd)} {y : Upd} {x : Option Upd} (hw : Wf tab) (hx : tab[y.n.toNat]? = some x) (h0 : 0 ≤ y.n) : (over x y).n = y.n := by
  cases x with
  | none => rfl
  | some x => exact best_n (by have := hw _ _ hx; omega)
theorem put_wf {tab : List (Option Upd)} {y : Upd} (hw : Wf tab) : Wf (put tab y) := by
  unfold put
  split
  · rename_i hr
    intro k x hk
    simp only [right, decide_eq_true_eq] at hr
    rw [List.getElem?_set] at hk
    split at hk
    · rename_i e
      split at hk
      · rename_i hlt
        simp only [Option.some.injEq] at hk
        obtain ⟨z, hz⟩ : ∃ z, tab[y.n.toNat]? = some z := ⟨_, List.getElem?_eq_getElem (by omega)⟩
        rw [hz] at hk
        have := over_n hw hz hr.1
        subst hk
        simp only [Option.join_some] at this ⊢
        omega
      · cases hk
    · exact hw k x hk
  · exact hw
theorem put_at {tab : List (Option Upd)} {y : Upd} {x : Option Upd} (hr : right y = true) (hx : tab[y.n.toNat]? = some x) : put tab y = tab.set y.n.toNat (some (over x y)) := by
  simp [put, hr, hx]
theorem fn_at {tab : List (Option Upd)} {f : Value} (h : tab.length = 8) : (tcells tab ++ [f])[32]? = some f := by
  have : (tcells tab).length = 32 := by unfold tcells; rw [flat_len (encO_len tab)]; simp [h]
  rw [List.getElem?_append_right (by omega), this]
  rfl
theorem take_any (b bs o c : Nat) (v : Value) (ys : List Upd) (tab : List (Option Upd)) (w : World) (hown : Own w [(b, C 49 (tcells tab ++ [.func (.func 11) #[] #[]]))]) (htab : tab.length = 8) (hwf : Wf tab) (hv : SlV v bs o ys.length c) (hc : RdC w bs o 3 (ys.map ud)) (hb : 0 < ys.length → bs ≠ b) (hmax : ys.length ≤ 9223372036854775807) :
    Ret Try.prog 24 #[.pointer (some ⟨b, 0, none⟩), v] w fun v' w' => v' = .tuple #[] ∧ St w [b] [(b, C 49 (tcells (ys.foldl put tab) ++ [.func (.func 11) #[] #[]]))] w' := by
  have hS := St.init hown
  simp only [List.map_cons, List.map_nil] at hS
  refine Ret.enter Try.func24 Try.ntmps24 rfl rfl ?_
  simp only [argEnv, Nat.reduceAdd]
  refine SatC.seq ?_
  refine SatC.region ?_
  refine SatL.pu (RunV.move rfl) rfl ?_
  first | refine SatL.pu (RunV.lenR (by assumption) rfl rfl) rfl ?_ | refine SatL.pu (RunV.lenS rfl rfl) rfl ?_
  refine SatL.pu (RunV.move rfl) rfl ?_
  refine SatL.nil (SatE.thenC ?_)
  refine SatC.block ?_
  refine SatC.loopK (G := Nat × List (Option Upd)) (V := fun ⟨i, tb⟩ => [(9, .int .i64 (i : Int))]) (Cn := [(0, _), (7, _), (8, _)]) (I := fun ⟨i, tb⟩ w' => i ≤ ys.length ∧ tb.length = 8 ∧ Wf tb ∧ (ys.drop i).foldl put tb = ys.foldl put tab ∧ St w [b] [(b, C 49 (tcells tb ++ [.func (.func 11) #[] #[]]))] w') (μ := fun ⟨i, tb⟩ => ys.length - i) (0, tab) ?_ (by repeat constructor) ?_
  · exact ⟨Nat.zero_le _, htab, hwf, rfl, hS⟩
  clear hS
  rintro ⟨i, tb⟩ w1 ⟨hi, htb, hwf, hf, hS⟩
  refine SatC.weak (e' := [(0, _), (7, _), (8, _), (9, _)]) (by repeat constructor) ?_
  refine SatC.seq ?_
  refine SatC.region ?_
  refine SatL.pu (RunV.lss rfl rfl) rfl ?_
  refine SatL.nil (SatE.thenC ?_)
  refine SatC.seq ?_
  refine SatC.cond rfl (fun h1 => ?_) (fun h1 => ?_)
  · (try simp only [cx, ne_eq] at h1)
    try (exfalso; first | omega | exact h1 trivial)
    all_goals
    refine SatC.skip (SatE.thenC ?_)
    refine SatC.seq ?_
    refine SatC.block ?_
    refine SatC.seq ?_
    obtain ⟨y, hy⟩ := get_some ys i (by omega)
    have hdr := drop_get hy
    rw [hdr, List.foldl_cons] at hf
    refine SatC.region ?_
    first | refine SatL.pu (RunV.indexR (by assumption) rfl rfl rfl (by omega) (by omega) rfl) rfl ?_ | refine SatL.pu (RunV.indexS rfl rfl rfl (by omega) (by omega) rfl) rfl ?_
    first | refine SatL.pu (RunV.loadRNz (RdC.st (by assumption) hS (by simpa using hb (by omega))) rfl rfl (by first | assumption | exact map_get (by assumption))) rfl ?_ | refine SatL.pu (RunV.loadRNz (Sl.rd (by assumption) hS (by repeat constructor)) rfl rfl (by first | assumption | exact map_get (by assumption))) rfl ?_
    refine SatL.op rfl (OpW.alloc hS rfl rfl (by repeat constructor) ?_)
    clear hS
    intro b5 w2 _ hS
    refine SatL.op rfl (OpW.store hS rfl rfl (by repeat constructor) (by repeat constructor) (by repeat constructor) rfl rfl ?_)
    clear hS
    intro w3 hS
    refine SatL.nil (SatE.thenC ?_)
    refine SatC.seq ?_
    refine SatC.seq ?_
    refine SatC.region ?_
    refine SatL.pu (RunV.loadN hS rfl rfl (by repeat constructor) (by repeat constructor)) rfl ?_
    refine SatL.op rfl (OpW.enter rfl rfl rfl rfl (right_any _ _ _ _) ?_)
    rintro r4 w4 ⟨rfl, h⟩
    replace hS := St.callN hS h
    refine SatL.pu (RunV.not rfl) rfl ?_
    refine SatL.nil (SatE.thenC ?_)
    refine SatC.cond rfl (fun h2 => ?_) (fun h2 => ?_)
    · (try simp only [cx, ne_eq] at h2)
      try (exfalso; first | omega | exact h2 trivial)
      all_goals
      refine SatC.exit (SatE.then_exit (SatE.blk_exit (SatE.thenC ?_)))
      refine SatC.region ?_
      refine SatL.pu (RunV.add rfl rfl (by first | exact wrapI64 (by omega) | rfl)) rfl ?_
      refine SatL.pu (RunV.move rfl) rfl ?_
      refine SatL.nil ?_
      refine SatE.again ((i + 1, put tb y)) ?_ (by first | omega | (dsimp only; omega)) (by repeat constructor)
      refine ⟨by omega, (put_len tb y).trans htb, put_wf hwf, hf, ?_⟩
      first | (rw [show put tb y = tb from if_neg (by simp only [right, decide_eq_true_eq]; exact h2)]; exact hS.sb (by repeat constructor)) | (rw [hpu, tcells, List.map_set, show y.n.toNat = (best ⟨(ox x).n, (ox x).i, (ox x).s⟩ ⟨y.n, y.i, y.s⟩).n.toNat from congrArg _ hn.1.symm, ← hn.2]; exact hS.sb (by repeat constructor)) | (rw [hpu, tcells, List.map_set, ← hn]; exact hS.sb (by repeat constructor))
    · (try simp only [cx, ne_eq] at h2)
      try (exfalso; first | omega | exact h2 trivial)
      all_goals
      refine SatC.skip (SatE.thenC ?_)
      refine SatC.seq ?_
      refine SatC.seq ?_
      have hri : right y = true := by simp only [right, decide_eq_true_eq]; exact h2
      obtain ⟨x, hx⟩ := get_some tb y.n.toNat (by omega)
      have hpu := put_at hri hx
      refine SatC.drawnS 8 (hS) (by kernel_rfl) ?_
      clear hS
      intro w5 _ hS hD
      refine SatD.take 0 rfl [] (by kernel_rfl) (fun _ _ _ h => h) rfl rfl hD (fun _ hw => RunV.move rfl) ?_
      first | refine SatD.take 1 rfl [] (by kernel_rfl) (fun _ _ _ h => h) rfl rfl hD (fun _ hw => RunV.fieldAddrL rfl rfl rfl) ?_ | refine SatD.take 1 rfl [] (by kernel_rfl) (fun _ _ _ h => h) rfl rfl hD (fun _ hw => RunV.fieldAddr rfl rfl rfl) ?_
      refine SatD.take 2 rfl [] (by kernel_rfl) (fun _ _ _ h => h) rfl rfl hD (fun _ hw => RunV.load1 hw rfl rfl (by repeat constructor) rfl) ?_
      first | refine SatD.take 3 rfl [] (by kernel_rfl) (fun _ _ _ h => h) rfl rfl hD (fun _ hw => RunV.nil_ptr rfl) ?_ | refine SatD.take 3 rfl [] (by kernel_rfl) (fun _ _ _ h => h) rfl rfl hD (fun _ hw => RunV.nil_func rfl) ?_ | refine SatD.take 3 rfl [] (by kernel_rfl) (fun _ _ _ h => h) rfl rfl hD (fun _ hw => RunV.nil_yield rfl) ?_
      first | refine SatD.take 4 rfl [] (by kernel_rfl) (fun _ _ _ h => h) rfl rfl hD (fun _ hw => RunV.fieldAddrL rfl rfl rfl) ?_ | refine SatD.take 4 rfl [] (by kernel_rfl) (fun _ _ _ h => h) rfl rfl hD (fun _ hw => RunV.fieldAddr rfl rfl rfl) ?_
      refine SatD.take 5 rfl [] (by kernel_rfl) (fun _ _ _ h => h) rfl rfl hD (fun _ hw => RunV.indexA rfl rfl rfl (by omega) (by omega) rfl) ?_
      refine SatD.take 6 rfl [] (by kernel_rfl) (fun _ _ _ h => h) rfl rfl hD (fun _ hw => RunV.loadRNz (RdC.own (rows := tb.map encO) hw (by repeat constructor) (encO_len tb)) rfl rfl (map_get (by assumption))) ?_
      refine SatD.eff 7 (by kernel_rfl) rfl rfl (OpW.alloc hS rfl rfl (by repeat constructor) ?_)
      clear hS
      intro b6 w6 _ hS
      refine keepS (hS.sb (by repeat constructor)) (fun hD => ?_)
      refine SatD.effF (by kernel_rfl) rfl rfl (OpW.store hS rfl rfl (by repeat constructor) (by repeat constructor) (by repeat constructor) rfl rfl ?_)
      clear hS
      intro w7 hS
      refine SatD.done 0 (by kernel_rfl) (SatE.thenC ?_)
      clear hD
      refine SatC.seq ?_
      refine SatC.weak (e' := [(0, _), (5, _), (6, _), (7, _), (8, _), (9, _)]) (by repeat constructor) ?_
      refine SatC.region ?_
      refine SatL.pu (RunV.loadN hS rfl rfl (by repeat constructor) (by repeat constructor)) rfl ?_
      refine SatL.pu (RunV.build rfl (by simp [go_sem]; try rfl)) rfl ?_
      refine SatL.pu (RunV.bin rfl rfl (guard46 _ _ _ _ _ _ _ _ _ _ _ _) (run_neq46 _ _ _ _ _ _ _ _ _)) rfl ?_
      refine SatL.nil (SatE.thenC ?_)
      refine SatC.cond rfl (fun h3 => ?_) (fun h3 => ?_)
      · (try simp only [cx, ne_eq] at h3)
        try (exfalso; first | omega | exact h3 trivial)
        all_goals
        refine SatC.drawnS 8 (hS) (by kernel_rfl) ?_
        clear hS
        intro w8 _ hS hD
        refine SatD.take 0 rfl [] (by kernel_rfl) (fun _ _ _ h => h) rfl rfl hD (fun _ hw => RunV.move rfl) ?_
        first | refine SatD.take 1 rfl [] (by kernel_rfl) (fun _ _ _ h => h) rfl rfl hD (fun _ hw => RunV.nil_ptr rfl) ?_ | refine SatD.take 1 rfl [] (by kernel_rfl) (fun _ _ _ h => h) rfl rfl hD (fun _ hw => RunV.nil_func rfl) ?_ | refine SatD.take 1 rfl [] (by kernel_rfl) (fun _ _ _ h => h) rfl rfl hD (fun _ hw => RunV.nil_yield rfl) ?_
        first | refine SatD.take 2 rfl [] (by kernel_rfl) (fun _ _ _ h => h) rfl rfl hD (fun _ hw => RunV.fieldAddrL rfl rfl rfl) ?_ | refine SatD.take 2 rfl [] (by kernel_rfl) (fun _ _ _ h => h) rfl rfl hD (fun _ hw => RunV.fieldAddr rfl rfl rfl) ?_
        refine SatD.take 3 rfl [] (by kernel_rfl) (fun _ _ _ h => h) rfl rfl hD (fun _ hw => RunV.load1 hw rfl rfl (by repeat constructor) (fn_at htb)) ?_
        first | refine SatD.take 4 rfl [] (by kernel_rfl) (fun _ _ _ h => h) rfl rfl hD (fun _ hw => RunV.fieldAddrL rfl rfl rfl) ?_ | refine SatD.take 4 rfl [] (by kernel_rfl) (fun _ _ _ h => h) rfl rfl hD (fun _ hw => RunV.fieldAddr rfl rfl rfl) ?_
        refine SatD.take 5 rfl [] (by kernel_rfl) (fun _ _ _ h => h) rfl rfl hD (fun _ hw => RunV.loadN hw rfl rfl (by repeat constructor) (by repeat constructor)) ?_
        refine SatD.take 6 rfl [] (by kernel_rfl) (fun _ _ _ h => h) rfl rfl hD (fun _ hw => RunV.loadN hw rfl rfl (by repeat constructor) (by repeat constructor)) ?_
        refine SatD.eff 7 (by kernel_rfl) rfl rfl (OpW.enter rfl rfl rfl rfl (best_any _ _ _ _ _ _ _) ?_)
        rintro r9 w9 ⟨rfl, h⟩
        replace hS := St.callN hS h
        refine keepS (hS.sb (by repeat constructor)) (fun hD => ?_)
        refine SatD.effF (by kernel_rfl) rfl rfl (OpW.store hS rfl rfl (by repeat constructor) (by repeat constructor) (by repeat constructor) rfl rfl ?_)
        clear hS
        intro w10 hS
        refine SatD.done 0 (by kernel_rfl) (SatE.thenC ?_)
        clear hD
        refine SatC.weak (e' := [(0, _), (5, _), (7, _), (8, _), (9, _)]) (by repeat constructor) ?_
        have hn : (best ⟨(ox x).n, (ox x).i, (ox x).s⟩ ⟨y.n, y.i, y.s⟩).n = y.n ∧ best ⟨(ox x).n, (ox x).i, (ox x).s⟩ ⟨y.n, y.i, y.s⟩ = over x y := by
          cases x with
          | none => exact absurd ⟨rfl, rfl, rfl, rfl⟩ h3
          | some x => exact ⟨best_n (by have := hwf _ _ hx; show x.n = y.n; omega), rfl⟩
        refine SatC.drawnS 8 (hS) (by kernel_rfl) ?_
        clear hS
        intro w11 _ hS hD
        refine SatD.take 0 rfl [] (by kernel_rfl) (fun _ _ _ h => h) rfl rfl hD (fun _ hw => RunV.move rfl) ?_
        first | refine SatD.take 1 rfl [] (by kernel_rfl) (fun _ _ _ h => h) rfl rfl hD (fun _ hw => RunV.fieldAddrL rfl rfl rfl) ?_ | refine SatD.take 1 rfl [] (by kernel_rfl) (fun _ _ _ h => h) rfl rfl hD (fun _ hw => RunV.fieldAddr rfl rfl rfl) ?_
        refine SatD.take 2 rfl [] (by kernel_rfl) (fun _ _ _ h => h) rfl rfl hD (fun _ hw => RunV.load1 hw rfl rfl (by repeat constructor) rfl) ?_
        refine SatD.take 3 rfl [] (by kernel_rfl) (fun _ _ _ h => h) rfl rfl hD (fun _ hw => RunV.loadN hw rfl rfl (by repeat constructor) (by repeat constructor)) ?_
        refine SatD.take 4 rfl [] (by kernel_rfl) (fun _ _ _ h => h) rfl rfl hD (fun _ hw => RunV.build rfl (by simp [go_sem]; try rfl)) ?_
        first | refine SatD.take 5 rfl [7, 6] (by kernel_rfl) (fun _ _ _ h => h) rfl rfl hD (fun _ hw => RunV.nil_ptr rfl) ?_ | refine SatD.take 5 rfl [7, 6] (by kernel_rfl) (fun _ _ _ h => h) rfl rfl hD (fun _ hw => RunV.nil_func rfl) ?_ | refine SatD.take 5 rfl [7, 6] (by kernel_rfl) (fun _ _ _ h => h) rfl rfl hD (fun _ hw => RunV.nil_yield rfl) ?_
        first | refine SatD.take 6 rfl [7] (by kernel_rfl) (fun _ _ _ h => h) rfl rfl hD (fun _ hw => RunV.fieldAddrL rfl rfl rfl) ?_ | refine SatD.take 6 rfl [7] (by kernel_rfl) (fun _ _ _ h => h) rfl rfl hD (fun _ hw => RunV.fieldAddr rfl rfl rfl) ?_
        refine SatD.take 7 rfl [] (by kernel_rfl) (fun _ _ _ h => h) rfl rfl hD (fun _ hw => RunV.indexA rfl rfl rfl (by omega) (by omega) rfl) ?_
        refine SatD.effF (by kernel_rfl) rfl rfl (OpW.storeRow (rows := tb.map encO) hS rfl rfl rfl .agg (by repeat constructor) (encO_len tb) rfl (by simp only [List.length_map]; omega) rfl rfl ?_)
        clear hS
        intro w12 hS
        refine SatD.done 0 (by kernel_rfl) (SatE.blk_normal (SatE.thenC ?_))
        clear hD
        refine SatC.region ?_
        refine SatL.pu (RunV.add rfl rfl (by first | exact wrapI64 (by omega) | rfl)) rfl ?_
        refine SatL.pu (RunV.move rfl) rfl ?_
        refine SatL.nil ?_
        refine SatE.again ((i + 1, put tb y)) ?_ (by first | omega | (dsimp only; omega)) (by repeat constructor)
        refine ⟨by omega, (put_len tb y).trans htb, put_wf hwf, hf, ?_⟩
        first | (rw [show put tb y = tb from if_neg (by simp only [right, decide_eq_true_eq]; exact h2)]; exact hS.sb (by repeat constructor)) | (rw [hpu, tcells, List.map_set, show y.n.toNat = (best ⟨(ox x).n, (ox x).i, (ox x).s⟩ ⟨y.n, y.i, y.s⟩).n.toNat from congrArg _ hn.1.symm, ← hn.2]; exact hS.sb (by repeat constructor)) | (rw [hpu, tcells, List.map_set, ← hn]; exact hS.sb (by repeat constructor))
      · (try simp only [cx, ne_eq] at h3)
        try (exfalso; first | omega | exact h3 trivial)
        all_goals
        refine SatC.skip (SatE.thenC ?_)
        have hn : y = over x y := by
          cases x with
          | none => rfl
          | some x => exact absurd h3.1 (by simp)
        refine SatC.drawnS 8 (hS) (by kernel_rfl) ?_
        clear hS
        intro w8 _ hS hD
        refine SatD.take 0 rfl [] (by kernel_rfl) (fun _ _ _ h => h) rfl rfl hD (fun _ hw => RunV.move rfl) ?_
        first | refine SatD.take 1 rfl [] (by kernel_rfl) (fun _ _ _ h => h) rfl rfl hD (fun _ hw => RunV.fieldAddrL rfl rfl rfl) ?_ | refine SatD.take 1 rfl [] (by kernel_rfl) (fun _ _ _ h => h) rfl rfl hD (fun _ hw => RunV.fieldAddr rfl rfl rfl) ?_
        refine SatD.take 2 rfl [] (by kernel_rfl) (fun _ _ _ h => h) rfl rfl hD (fun _ hw => RunV.load1 hw rfl rfl (by repeat constructor) rfl) ?_
        refine SatD.take 3 rfl [] (by kernel_rfl) (fun _ _ _ h => h) rfl rfl hD (fun _ hw => RunV.loadN hw rfl rfl (by repeat constructor) (by repeat constructor)) ?_
        refine SatD.take 4 rfl [] (by kernel_rfl) (fun _ _ _ h => h) rfl rfl hD (fun _ hw => RunV.build rfl (by simp [go_sem]; try rfl)) ?_
        first | refine SatD.take 5 rfl [7, 6] (by kernel_rfl) (fun _ _ _ h => h) rfl rfl hD (fun _ hw => RunV.nil_ptr rfl) ?_ | refine SatD.take 5 rfl [7, 6] (by kernel_rfl) (fun _ _ _ h => h) rfl rfl hD (fun _ hw => RunV.nil_func rfl) ?_ | refine SatD.take 5 rfl [7, 6] (by kernel_rfl) (fun _ _ _ h => h) rfl rfl hD (fun _ hw => RunV.nil_yield rfl) ?_
        first | refine SatD.take 6 rfl [7] (by kernel_rfl) (fun _ _ _ h => h) rfl rfl hD (fun _ hw => RunV.fieldAddrL rfl rfl rfl) ?_ | refine SatD.take 6 rfl [7] (by kernel_rfl) (fun _ _ _ h => h) rfl rfl hD (fun _ hw => RunV.fieldAddr rfl rfl rfl) ?_
        refine SatD.take 7 rfl [] (by kernel_rfl) (fun _ _ _ h => h) rfl rfl hD (fun _ hw => RunV.indexA rfl rfl rfl (by omega) (by omega) rfl) ?_
        refine SatD.effF (by kernel_rfl) rfl rfl (OpW.storeRow (rows := tb.map encO) hS rfl rfl rfl .agg (by repeat constructor) (encO_len tb) rfl (by simp only [List.length_map]; omega) rfl rfl ?_)
        clear hS
        intro w9 hS
        refine SatD.done 0 (by kernel_rfl) (SatE.blk_normal (SatE.thenC ?_))
        clear hD
        refine SatC.weak (e' := [(0, _), (7, _), (8, _), (9, _)]) (by repeat constructor) ?_
        refine SatC.region ?_
        refine SatL.pu (RunV.add rfl rfl (by first | exact wrapI64 (by omega) | rfl)) rfl ?_
        refine SatL.pu (RunV.move rfl) rfl ?_
        refine SatL.nil ?_
        refine SatE.again ((i + 1, put tb y)) ?_ (by first | omega | (dsimp only; omega)) (by repeat constructor)
        refine ⟨by omega, (put_len tb y).trans htb, put_wf hwf, hf, ?_⟩
        first | (rw [show put tb y = tb from if_neg (by simp only [right, decide_eq_true_eq]; exact h2)]; exact hS.sb (by repeat constructor)) | (rw [hpu, tcells, List.map_set, show y.n.toNat = (best ⟨(ox x).n, (ox x).i, (ox x).s⟩ ⟨y.n, y.i, y.s⟩).n.toNat from congrArg _ hn.1.symm, ← hn.2]; exact hS.sb (by repeat constructor)) | (rw [hpu, tcells, List.map_set, ← hn]; exact hS.sb (by repeat constructor))
  · (try simp only [cx, ne_eq] at h1)
    try (exfalso; first | omega | exact h1 trivial)
    all_goals
    refine SatC.exit (SatE.then_exit (SatE.then_exit (SatE.blk_exit ?_)))
    refine SatE.fin0 rfl ?_
    rw [show i = ys.length by omega, List.drop_length] at hf; exact ⟨rfl, by rw [← hf]; exact hS⟩
end Go.Proofs.Ytnjegigoifkikaa
