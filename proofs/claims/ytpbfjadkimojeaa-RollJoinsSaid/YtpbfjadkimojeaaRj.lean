/- The joining of tables, for any seat that reaches it. -/
import Derived.Test.YtpbfjadkimojeaaRk
import Derived.Test.YtpbfjadkimojeaaK13
set_option linter.unusedSimpArgs false
set_option linter.unusedVariables false
set_option maxRecDepth 100000
set_option maxHeartbeats 1000000
namespace Go.Proofs.Ytpbfjadkimojeaa
open Go.RowKit
theorem run_neq46 (p q : Bool) (n i s n' i' s' : Int) (w : World) : (binOp .neq 70 (.agg #[.bool p, .int .i64 n, .int .u32 i, .int .i64 s]) (.agg #[.bool q, .int .i64 n', .int .u32 i', .int .i64 s'])).run Try.prog w = .ok (.bool (decide (¬ (p = q ∧ n = n' ∧ i = i' ∧ s = s')))) w := by
  by_cases h0 : p = q <;> by_cases h1 : n = n' <;> by_cases h2 : i = i' <;> by_cases h3 : s = s' <;> simp [go_sem, h0, h1, h2, h3]
theorem guard46 (op : BinOp) (x y : Operand) (p q : Bool) (n i s n' i' s' : Int) (w : World) : (eqGuard op 70 x y (.agg #[.bool p, .int .i64 n, .int .u32 i, .int .i64 s]) (.agg #[.bool q, .int .i64 n', .int .u32 i', .int .i64 s'])).run Try.prog w = .ok () w := by
  unfold eqGuard
  cases op <;> simp [go_sem]
def right (u : Upd) : Bool := decide (0 ≤ u.n ∧ u.n < 8 ∧ 0 ≤ u.s ∧ u.s ≤ 3)
def ox (x : Option Upd) : Upd := x.getD ⟨0, 0, 0⟩
@[reducible] def encO (x : Option Upd) : List Value := [.bool x.isSome, .int .i64 (ox x).n, .int .u32 (ox x).i, .int .i64 (ox x).s]
def tcells (tab : List (Option Upd)) : List Value := (tab.map encO).flatten
theorem encO_len (tab : List (Option Upd)) : ∀ r ∈ tab.map encO, r.length = 4 := by
  intro r hr
  obtain ⟨x, _, rfl⟩ := List.mem_map.1 hr
  rfl
def over (x : Option Upd) (u : Upd) : Upd := match x with
  | none => u
  | some y => best y u
def put (tab : List (Option Upd)) (u : Upd) : List (Option Upd) := if right u then tab.set u.n.toNat (some (over (tab[u.n.toNat]?.join) u)) else tab
theorem put_len (tab : List (Option Upd)) (u : Upd) : (put tab u).length = tab.length := by
  unfold put
  split <;> simp
def Wf (tab : List (Option Upd)) : Prop := ∀ (k : Nat) (x : Upd), tab[k]? = some (some x) → x.n = (k : Int)
theorem best_n {x y : Upd} (h : x.n = y.n) : (best x y).n = y.n := by
  unfold best
  split
  · rfl
  · exact h
theorem over_n {tab : List (Option Upd)} {y : Upd} {x : Option Upd} (hw : Wf tab) (hx : tab[y.n.toNat]? = some x) (h0 : 0 ≤ y.n) : (over x y).n = y.n := by
  cases x with
  | none => rfl
  | some x => exact best_n (by have := hw _ _ hx; omega)
theorem put_wf {tab : List (Option Upd)} {y : Upd} (hw : Wf tab) : Wf (put tab y) := by
  unfold put
  split
  · rename_i hr
    intro k x hk
    simp only [right, decide_eq_true_eq] at hr
    rw [List.getElem?_set] at hk
    split at hk
    · rename_i e
      split at hk
      · rename_i hlt
        simp only [Option.some.injEq] at hk
        obtain ⟨z, hz⟩ : ∃ z, tab[y.n.toNat]? = some z := ⟨_, List.getElem?_eq_getElem (by omega)⟩
        rw [hz] at hk
        have := over_n hw hz hr.1
        subst hk
        simp only [Option.join_some] at this ⊢
        omega
      · cases hk
    · exact hw k x hk
  · exact hw
theorem put_at {tab : List (Option Upd)} {y : Upd} {x : Option Upd} (hr : right y = true) (hx : tab[y.n.toNat]? = some x) : put tab y = tab.set y.n.toNat (some (over x y)) := by
  simp [put, hr, hx]
theorem fn_at {tab : List (Option Upd)} {f : Value} (h : tab.length = 8) : (tcells tab ++ [f])[32]? = some f := by
  have : (tcells tab).length = 32 := by unfold tcells; rw [flat_len (encO_len tab)]; simp [h]
  rw [List.getElem?_append_right (by omega), this]
  rfl
theorem take_any (b bs o c : Nat) (v : Value) (ys : List Upd) (tab : List (Option Upd)) (w : World) (hown : Own w [(b, C 73 (tcells tab ++ [.func (.func 32) #[] #[]]))]) (htab : tab.length = 8) (hwf : Wf tab) (hv : SlV v bs o ys.length c) (hc : RdC w bs o 3 (ys.map ud)) (hb : 0 < ys.length → bs ≠ b) (hmax : ys.length ≤ 9223372036854775807) :
    Ret Try.prog 33 #[.pointer (some ⟨b, 0, none⟩), v] w fun v' w' => v' = .tuple #[] ∧ St w [b] [(b, C 73 (tcells (ys.foldl put tab) ++ [.func (.func 32) #[] #[]]))] w' := by
  have hS := St.init hown
  simp only [List.map_cons, List.map_nil] at hS
  refine Ret.enter Try.func33 Try.ntmps33 rfl rfl ?_
  simp only [argEnv, Nat.reduceAdd]
  refine SatC.seq ?_
  refine SatC.region ?_
  refine SatL.pu (RunV.move rfl) rfl ?_
  first | refine SatL.pu (RunV.lenR (by assumption) rfl rfl) rfl ?_ | refine SatL.pu (RunV.lenS rfl rfl) rfl ?_
  refine SatL.pu (RunV.move rfl) rfl ?_
  refine SatL.nil (SatE.thenC ?_)
  refine SatC.block ?_
  refine SatC.loopK (G := Nat × List (Option Upd)) (V := fun ⟨i, tb⟩ => [(9, .int .i64 (i : Int))]) (Cn := [(0, _), (7, _), (8, _)]) (I := fun ⟨i, tb⟩ w' => i ≤ ys.length ∧ tb.length = 8 ∧ Wf tb ∧ (ys.drop i).foldl put tb = ys.foldl put tab ∧ St w [b] [(b, C 73 (tcells tb ++ [.func (.func 32) #[] #[]]))] w') (μ := fun ⟨i, tb⟩ => ys.length - i) (0, tab) ?_ (by repeat constructor) ?_
  · exact ⟨Nat.zero_le _, htab, hwf, rfl, hS⟩
  clear hS
  rintro ⟨i, tb⟩ w1 ⟨hi, htb, hwf, hf, hS⟩
  refine SatC.weak (e' := [(0, _), (7, _), (8, _), (9, _)]) (by repeat constructor) ?_
  refine SatC.seq ?_
  refine SatC.region ?_
  refine SatL.pu (RunV.lss rfl rfl) rfl ?_
  refine SatL.nil (SatE.thenC ?_)
  refine SatC.seq ?_
  refine SatC.cond rfl (fun h1 => ?_) (fun h1 => ?_)
  · (try simp only [cx, ne_eq] at h1)
    try (exfalso; (first | omega | exact h1 trivial | contradiction); done)
    all_goals
    refine SatC.skip (SatE.thenC ?_)
    refine SatC.seq ?_
    refine SatC.block ?_
    refine SatC.seq ?_
    obtain ⟨y, hy⟩ := get_some ys i (by omega)
    have hdr := drop_get hy
    rw [hdr, List.foldl_cons] at hf
    refine SatC.region ?_
    first | refine SatL.pu (RunV.indexR (by assumption) rfl rfl rfl (by omega) (by omega) rfl) rfl ?_ | refine SatL.pu (RunV.indexS rfl rfl rfl (by omega) (by omega) rfl) rfl ?_
    first | refine SatL.pu (RunV.loadRNz (RdC.st (by assumption) hS (by simpa using hb (by omega))) rfl rfl (by first | assumption | exact map_get (by assumption))) rfl ?_ | refine SatL.pu (RunV.loadRNz (Sl.rd (by assumption) hS (by repeat constructor)) rfl rfl (by first | assumption | exact map_get (by assumption))) rfl ?_
    refine SatL.op rfl (OpW.alloc hS rfl rfl (by repeat constructor) ?_)
    clear hS
    intro b5 w2 _ hS
    refine SatL.op rfl (OpW.store hS rfl rfl (by repeat constructor) (by repeat constructor) (by repeat constructor) rfl rfl ?_)
    clear hS
    intro w3 hS
    refine SatL.nil (SatE.thenC ?_)
    refine SatC.seq ?_
    refine SatC.seq ?_
    refine SatC.region ?_
    refine SatL.pu (RunV.loadN hS rfl rfl (by repeat constructor) (by repeat constructor)) rfl ?_
    refine SatL.op rfl (OpW.enter rfl rfl rfl (rfl) (right_any _ _ _ _) ?_)
    rintro r4 w4 ⟨rfl, h⟩
    replace hS := St.callN hS h
    refine SatL.pu (RunV.not rfl) rfl ?_
    refine SatL.nil (SatE.thenC ?_)
    refine SatC.cond rfl (fun h2 => ?_) (fun h2 => ?_)
    · (try simp only [cx, ne_eq] at h2)
      try (exfalso; (first | omega | exact h2 trivial | contradiction); done)
      all_goals
      refine SatC.exit (SatE.then_exit (SatE.blk_exit (SatE.thenC ?_)))
      refine SatC.region ?_
      refine SatL.pu (RunV.add rfl rfl (by first | exact wrapI64 (by omega) | rfl)) rfl ?_
      refine SatL.pu (RunV.move rfl) rfl ?_
      refine SatL.nil ?_
      refine SatE.again ((i + 1, put tb y)) ?_ (by first | omega | (dsimp only; omega)) (by repeat constructor)
      refine ⟨by omega, (put_len tb y).trans htb, put_wf hwf, hf, ?_⟩
      first | (rw [show put tb y = tb from if_neg (by simp only [right, decide_eq_true_eq]; exact h2)]; exact hS.sb (by repeat constructor)) | (rw [hpu, tcells, List.map_set, show y.n.toNat = (best ⟨(ox x).n, (ox x).i, (ox x).s⟩ ⟨y.n, y.i, y.s⟩).n.toNat from congrArg _ hn.1.symm, ← hn.2]; exact hS.sb (by repeat constructor)) | (rw [hpu, tcells, List.map_set, ← hn]; exact hS.sb (by repeat constructor))
    · (try simp only [cx, ne_eq] at h2)
      try (exfalso; (first | omega | exact h2 trivial | contradiction); done)
      all_goals
      refine SatC.skip (SatE.thenC ?_)
      refine SatC.seq ?_
      refine SatC.seq ?_
      have hri : right y = true := by simp only [right, decide_eq_true_eq]; exact h2
      obtain ⟨x, hx⟩ := get_some tb y.n.toNat (by omega)
      have hpu := put_at hri hx
      refine SatC.drawnT 8 hS (hS) (by kernel_rfl) ?_
      clear hS
      intro w5 hh hS hD
      refine SatD.tk 0 rfl hD (fun _ hw => RunV.move rfl) ?_
      first | refine SatD.tk 1 rfl hD (fun _ hw => RunV.fieldAddrL rfl rfl rfl) ?_ | refine SatD.tk 1 rfl hD (fun _ hw => RunV.fieldAddr rfl rfl rfl) ?_
      refine SatD.tk 2 rfl hD (fun _ hw => RunV.load1 hw rfl rfl (by repeat constructor) rfl) ?_
      first | refine SatD.tk 3 rfl hD (fun _ hw => RunV.nil_ptr rfl) ?_ | refine SatD.tk 3 rfl hD (fun _ hw => RunV.nil_func rfl) ?_ | refine SatD.tk 3 rfl hD (fun _ hw => RunV.nil_yield rfl) ?_
      first | refine SatD.tk 4 rfl hD (fun _ hw => RunV.fieldAddrL rfl rfl rfl) ?_ | refine SatD.tk 4 rfl hD (fun _ hw => RunV.fieldAddr rfl rfl rfl) ?_
      refine SatD.tk 5 rfl hD (fun _ hw => RunV.indexA rfl rfl rfl (by omega) (by omega) rfl) ?_
      refine SatD.tk 6 rfl hD (fun _ hw => RunV.loadRNz (RdC.own (rows := tb.map encO) hw (by repeat constructor) (encO_len tb)) rfl rfl (map_get (by assumption))) ?_
      refine SatD.ef 7 rfl (OpW.alloc hS rfl rfl (by repeat constructor) ?_)
      clear hS
      intro b6 w6 _ hS
      refine keepS (hS.sb (by repeat constructor)) (fun hD => ?_)
      refine SatD.effF (by kernel_rfl) rfl rfl (OpW.store hS rfl rfl (by repeat constructor) (by repeat constructor) (by repeat constructor) rfl rfl ?_)
      clear hS
      intro w7 hS
      refine SatD.done 0 (by kernel_rfl) (SatE.thenC ?_)
      clear hD
      refine SatC.seq ?_
      refine SatC.weak (e' := [(0, _), (5, _), (6, _), (7, _), (8, _), (9, _)]) (by repeat constructor) ?_
      refine SatC.region ?_
      refine SatL.pu (RunV.loadN hS rfl rfl (by repeat constructor) (by repeat constructor)) rfl ?_
      refine SatL.pu (RunV.build rfl (by simp [go_sem]; try rfl)) rfl ?_
      refine SatL.pu (RunV.bin rfl rfl (guard46 _ _ _ _ _ _ _ _ _ _ _ _) (run_neq46 _ _ _ _ _ _ _ _ _)) rfl ?_
      refine SatL.nil (SatE.thenC ?_)
      refine SatC.cond rfl (fun h3 => ?_) (fun h3 => ?_)
      · (try simp only [cx, ne_eq] at h3)
        try (exfalso; (first | omega | exact h3 trivial | contradiction); done)
        all_goals
        refine SatC.drawnT 8 hS (hS) (by kernel_rfl) ?_
        clear hS
        intro w8 hh hS hD
        refine SatD.tk 0 rfl hD (fun _ hw => RunV.move rfl) ?_
        first | refine SatD.tk 1 rfl hD (fun _ hw => RunV.nil_ptr rfl) ?_ | refine SatD.tk 1 rfl hD (fun _ hw => RunV.nil_func rfl) ?_ | refine SatD.tk 1 rfl hD (fun _ hw => RunV.nil_yield rfl) ?_
        first | refine SatD.tk 2 rfl hD (fun _ hw => RunV.fieldAddrL rfl rfl rfl) ?_ | refine SatD.tk 2 rfl hD (fun _ hw => RunV.fieldAddr rfl rfl rfl) ?_
        refine SatD.tk 3 rfl hD (fun _ hw => RunV.load1 hw rfl rfl (by repeat constructor) (fn_at htb)) ?_
        first | refine SatD.tk 4 rfl hD (fun _ hw => RunV.fieldAddrL rfl rfl rfl) ?_ | refine SatD.tk 4 rfl hD (fun _ hw => RunV.fieldAddr rfl rfl rfl) ?_
        refine SatD.tk 5 rfl hD (fun _ hw => RunV.loadN hw rfl rfl (by repeat constructor) (by repeat constructor)) ?_
        refine SatD.tk 6 rfl hD (fun _ hw => RunV.loadN hw rfl rfl (by repeat constructor) (by repeat constructor)) ?_
        refine SatD.ef 7 rfl (OpW.enter rfl rfl rfl (rfl) (best_any _ _ _ _ _ _ _) ?_)
        rintro r9 w9 ⟨rfl, h⟩
        replace hS := St.callN hS h
        refine keepS (hS.sb (by repeat constructor)) (fun hD => ?_)
        refine SatD.effF (by kernel_rfl) rfl rfl (OpW.store hS rfl rfl (by repeat constructor) (by repeat constructor) (by repeat constructor) rfl rfl ?_)
        clear hS
        intro w10 hS
        refine SatD.done 0 (by kernel_rfl) (SatE.thenC ?_)
        clear hD
        refine SatC.weak (e' := [(0, _), (5, _), (7, _), (8, _), (9, _)]) (by repeat constructor) ?_
        have hn : (best ⟨(ox x).n, (ox x).i, (ox x).s⟩ ⟨y.n, y.i, y.s⟩).n = y.n ∧ best ⟨(ox x).n, (ox x).i, (ox x).s⟩ ⟨y.n, y.i, y.s⟩ = over x y := by
          cases x with
          | none => exact absurd ⟨rfl, rfl, rfl, rfl⟩ h3
          | some x => exact ⟨best_n (by have := hwf _ _ hx; show x.n = y.n; omega), rfl⟩
        refine SatC.drawnT 8 hS (hS) (by kernel_rfl) ?_
        clear hS
        intro w11 hh hS hD
        refine SatD.tk 0 rfl hD (fun _ hw => RunV.move rfl) ?_
        first | refine SatD.tk 1 rfl hD (fun _ hw => RunV.fieldAddrL rfl rfl rfl) ?_ | refine SatD.tk 1 rfl hD (fun _ hw => RunV.fieldAddr rfl rfl rfl) ?_
        refine SatD.tk 2 rfl hD (fun _ hw => RunV.load1 hw rfl rfl (by repeat constructor) rfl) ?_
        refine SatD.tk 3 rfl hD (fun _ hw => RunV.loadN hw rfl rfl (by repeat constructor) (by repeat constructor)) ?_
        refine SatD.tk 4 rfl hD (fun _ hw => RunV.build rfl (by simp [go_sem]; try rfl)) ?_
        first | refine SatD.tkp 5 rfl [7, 6] hD (fun _ hw => RunV.nil_ptr rfl) ?_ | refine SatD.tkp 5 rfl [7, 6] hD (fun _ hw => RunV.nil_func rfl) ?_ | refine SatD.tkp 5 rfl [7, 6] hD (fun _ hw => RunV.nil_yield rfl) ?_
        first | refine SatD.tkp 6 rfl [7] hD (fun _ hw => RunV.fieldAddrL rfl rfl rfl) ?_ | refine SatD.tkp 6 rfl [7] hD (fun _ hw => RunV.fieldAddr rfl rfl rfl) ?_
        refine SatD.tk 7 rfl hD (fun _ hw => RunV.indexA rfl rfl rfl (by omega) (by omega) rfl) ?_
        refine SatD.effF (by kernel_rfl) rfl rfl (OpW.storeRow (rows := tb.map encO) hS rfl rfl rfl .agg (by repeat constructor) (encO_len tb) rfl (by simp only [List.length_map]; omega) rfl rfl ?_)
        clear hS
        intro w12 hS
        refine SatD.done 0 (by kernel_rfl) (SatE.blk_normal (SatE.thenC ?_))
        clear hD
        refine SatC.region ?_
        refine SatL.pu (RunV.add rfl rfl (by first | exact wrapI64 (by omega) | rfl)) rfl ?_
        refine SatL.pu (RunV.move rfl) rfl ?_
        refine SatL.nil ?_
        refine SatE.again ((i + 1, put tb y)) ?_ (by first | omega | (dsimp only; omega)) (by repeat constructor)
        refine ⟨by omega, (put_len tb y).trans htb, put_wf hwf, hf, ?_⟩
        first | (rw [show put tb y = tb from if_neg (by simp only [right, decide_eq_true_eq]; exact h2)]; exact hS.sb (by repeat constructor)) | (rw [hpu, tcells, List.map_set, show y.n.toNat = (best ⟨(ox x).n, (ox x).i, (ox x).s⟩ ⟨y.n, y.i, y.s⟩).n.toNat from congrArg _ hn.1.symm, ← hn.2]; exact hS.sb (by repeat constructor)) | (rw [hpu, tcells, List.map_set, ← hn]; exact hS.sb (by repeat constructor))
      · (try simp only [cx, ne_eq] at h3)
        try (exfalso; (first | omega | exact h3 trivial | contradiction); done)
        all_goals
        refine SatC.skip (SatE.thenC ?_)
        have hn : y = over x y := by
          cases x with
          | none => rfl
          | some x => exact absurd h3.1 (by simp)
        refine SatC.drawnT 8 hS (hS) (by kernel_rfl) ?_
        clear hS
        intro w8 hh hS hD
        refine SatD.tk 0 rfl hD (fun _ hw => RunV.move rfl) ?_
        first | refine SatD.tk 1 rfl hD (fun _ hw => RunV.fieldAddrL rfl rfl rfl) ?_ | refine SatD.tk 1 rfl hD (fun _ hw => RunV.fieldAddr rfl rfl rfl) ?_
        refine SatD.tk 2 rfl hD (fun _ hw => RunV.load1 hw rfl rfl (by repeat constructor) rfl) ?_
        refine SatD.tk 3 rfl hD (fun _ hw => RunV.loadN hw rfl rfl (by repeat constructor) (by repeat constructor)) ?_
        refine SatD.tk 4 rfl hD (fun _ hw => RunV.build rfl (by simp [go_sem]; try rfl)) ?_
        first | refine SatD.tkp 5 rfl [7, 6] hD (fun _ hw => RunV.nil_ptr rfl) ?_ | refine SatD.tkp 5 rfl [7, 6] hD (fun _ hw => RunV.nil_func rfl) ?_ | refine SatD.tkp 5 rfl [7, 6] hD (fun _ hw => RunV.nil_yield rfl) ?_
        first | refine SatD.tkp 6 rfl [7] hD (fun _ hw => RunV.fieldAddrL rfl rfl rfl) ?_ | refine SatD.tkp 6 rfl [7] hD (fun _ hw => RunV.fieldAddr rfl rfl rfl) ?_
        refine SatD.tk 7 rfl hD (fun _ hw => RunV.indexA rfl rfl rfl (by omega) (by omega) rfl) ?_
        refine SatD.effF (by kernel_rfl) rfl rfl (OpW.storeRow (rows := tb.map encO) hS rfl rfl rfl .agg (by repeat constructor) (encO_len tb) rfl (by simp only [List.length_map]; omega) rfl rfl ?_)
        clear hS
        intro w9 hS
        refine SatD.done 0 (by kernel_rfl) (SatE.blk_normal (SatE.thenC ?_))
        clear hD
        refine SatC.weak (e' := [(0, _), (7, _), (8, _), (9, _)]) (by repeat constructor) ?_
        refine SatC.region ?_
        refine SatL.pu (RunV.add rfl rfl (by first | exact wrapI64 (by omega) | rfl)) rfl ?_
        refine SatL.pu (RunV.move rfl) rfl ?_
        refine SatL.nil ?_
        refine SatE.again ((i + 1, put tb y)) ?_ (by first | omega | (dsimp only; omega)) (by repeat constructor)
        refine ⟨by omega, (put_len tb y).trans htb, put_wf hwf, hf, ?_⟩
        first | (rw [show put tb y = tb from if_neg (by simp only [right, decide_eq_true_eq]; exact h2)]; exact hS.sb (by repeat constructor)) | (rw [hpu, tcells, List.map_set, show y.n.toNat = (best ⟨(ox x).n, (ox x).i, (ox x).s⟩ ⟨y.n, y.i, y.s⟩).n.toNat from congrArg _ hn.1.symm, ← hn.2]; exact hS.sb (by repeat constructor)) | (rw [hpu, tcells, List.map_set, ← hn]; exact hS.sb (by repeat constructor))
  · (try simp only [cx, ne_eq] at h1)
    try (exfalso; (first | omega | exact h1 trivial | contradiction); done)
    all_goals
    refine SatC.exit (SatE.then_exit (SatE.then_exit (SatE.blk_exit ?_)))
    refine SatE.fin0 rfl ?_
    rw [show i = ys.length by omega, List.drop_length] at hf; exact ⟨rfl, by rw [← hf]; exact hS⟩
def emp : List (Option Upd) := [none, none, none, none, none, none, none, none]
def tabOf (ys zs : List Upd) : List (Option Upd) := zs.foldl put (ys.foldl put emp)
/-- The table of two lists: of each node what counts, in the nodes' order. -/
def jn (ys zs : List Upd) : List Upd := (tabOf ys zs).filterMap id
theorem foldl_put_len (ys : List Upd) : ∀ tab : List (Option Upd), (ys.foldl put tab).length = tab.length := by
  induction ys with
  | nil => intro tab; rfl
  | cons y ys ih => intro tab; rw [List.foldl_cons, ih, put_len]
theorem foldl_put_wf (ys : List Upd) : ∀ tab : List (Option Upd), Wf tab → Wf (ys.foldl put tab) := by
  induction ys with
  | nil => intro tab h; exact h
  | cons y ys ih => intro tab h; exact ih _ (put_wf h)
theorem wf_emp : Wf emp := by
  intro k x hk
  have : k < 8 ∨ 8 ≤ k := by omega
  rcases this with h | h
  · match k, h with
    | 0, _ | 1, _ | 2, _ | 3, _ | 4, _ | 5, _ | 6, _ | 7, _ => simp [emp] at hk
  · rw [List.getElem?_eq_none (by simpa [emp] using h)] at hk
    cases hk
theorem tabOf_len (ys zs : List Upd) : (tabOf ys zs).length = 8 := by unfold tabOf; rw [foldl_put_len, foldl_put_len]; rfl
theorem take_next {tab : List (Option Upd)} {i : Nat} {x : Option Upd} (h : tab[i]? = some x) : (tab.take (i + 1)).filterMap id = (tab.take i).filterMap id ++ x.toList := by
  rw [List.take_add_one, List.filterMap_append, h]
  cases x <;> rfl
theorem join_any (v1 v2 : Value) (ys zs : List Upd) (w : World) (hr1 : RdRow w v1 3 (ys.map ud)) (hr2 : RdRow w v2 3 (zs.map ud)) :
    Ret Try.prog 17 #[v1, v2] w fun v' w' => ∃ B, Sl 29 3 v' ((jn ys zs).map ud) B ∧ St w [] B w' := by
  have hS := St.init0 w
  obtain ⟨b1, o1, c1, hv1, hmax1, hc1, hlt1⟩ := hr1.open
  obtain ⟨b2, o2, c2, hv2, hmax2, hc2, hlt2⟩ := hr2.open
  simp only [List.length_map] at hv1 hmax1 hlt1 hv2 hmax2 hlt2
  refine Ret.enter Try.func17 Try.ntmps17 rfl rfl ?_
  simp only [argEnv, Nat.reduceAdd]
  refine SatC.seq ?_
  refine SatC.region ?_
  refine SatL.pu (RunV.assign rfl) rfl ?_
  refine SatL.nil (SatE.thenC ?_)
  refine SatC.seq ?_
  refine SatC.region ?_
  refine SatL.pu (RunV.build rfl (by simp [go_sem]; try rfl)) rfl ?_
  refine SatL.op rfl (OpW.alloc hS rfl rfl (by repeat constructor) ?_)
  clear hS
  intro b5 w1 _ hS
  refine SatL.op rfl (OpW.store hS rfl rfl (by repeat constructor) (by repeat constructor) (by repeat constructor) rfl rfl ?_)
  clear hS
  intro w2 hS
  refine SatL.nil (SatE.thenC ?_)
  refine SatC.seq ?_
  refine SatC.region ?_
  refine SatL.pu (RunV.move rfl) rfl ?_
  refine SatL.op rfl (OpW.enter rfl rfl rfl (rfl) (take_any _ b1 o1 c1 _ ys emp _ (hS.ownOf .one) rfl wf_emp hv1 (hc1.st hS List.not_mem_nil) (fun hp e => by have := hlt1 hp; have := hS.wr _ List.mem_cons_self; simp at this; omega) hmax1) ?_)
  rintro r3 w3 ⟨rfl, h⟩
  replace hS := hS.call1 .one h
  refine SatL.nil (SatE.thenC ?_)
  refine SatC.seq ?_
  refine SatC.region ?_
  refine SatL.pu (RunV.move rfl) rfl ?_
  refine SatL.op rfl (OpW.enter rfl rfl rfl (rfl) (take_any _ b2 o2 c2 _ zs (ys.foldl put emp) _ (hS.ownOf .one) (by rw [foldl_put_len]; rfl) (foldl_put_wf _ _ wf_emp) hv2 (hc2.st hS List.not_mem_nil) (fun hp e => by have := hlt2 hp; have := hS.wr _ List.mem_cons_self; simp at this; omega) hmax2) ?_)
  rintro r4 w4 ⟨rfl, h⟩
  replace hS := hS.call1 .one h
  refine SatL.nil (SatE.thenC ?_)
  refine SatC.seq ?_
  refine SatC.region ?_
  refine SatL.pu (RunV.assign rfl) rfl ?_
  refine SatL.nil (SatE.thenC ?_)
  refine SatC.seq ?_
  refine SatC.seq ?_
  refine SatC.region ?_
  first | refine SatL.pu (RunV.fieldAddrL rfl rfl rfl) rfl ?_ | refine SatL.pu (RunV.fieldAddr rfl rfl rfl) rfl ?_
  refine SatL.pu (RunV.loadPre (pre := tcells (tabOf ys zs)) hS rfl rfl (by repeat constructor) (by unfold tcells; rw [flat_len (encO_len _), List.length_map, tabOf_len])) rfl ?_
  refine SatL.pu (RunV.move rfl) rfl ?_
  refine SatL.nil (SatE.thenC ?_)
  refine SatC.block ?_
  refine SatC.loopK (G := Nat × Value × List (Nat × Obj)) (V := fun ⟨i, v, B⟩ => [(16, .int .i64 (i : Int)), (6, v)]) (Cn := [(4, _), (15, _)]) (I := fun ⟨i, v, B⟩ w' => i ≤ 8 ∧ Sl 29 3 v ((((tabOf ys zs).take i).filterMap id).map ud) B ∧ St w [] (B ++ [(b5, C 73 (tcells (tabOf ys zs) ++ [.func (.func 32) #[] #[]]))]) w') (μ := fun ⟨i, v, B⟩ => 8 - i) (0, .slice none 0 0, []) ?_ (by repeat constructor) ?_
  · exact ⟨Nat.zero_le _, .nil, hS⟩
  clear hS
  rintro ⟨i, v, B⟩ w5 ⟨hi, hsl, hS⟩
  refine SatC.weak (e' := [(4, _), (6, _), (15, _), (16, _)]) (by repeat constructor) ?_
  refine SatC.seq ?_
  refine SatC.region ?_
  refine SatL.pu (RunV.lss rfl rfl) rfl ?_
  refine SatL.nil (SatE.thenC ?_)
  refine SatC.seq ?_
  refine SatC.cond rfl (fun h1 => ?_) (fun h1 => ?_)
  · (try simp only [cx, ne_eq] at h1)
    try (exfalso; (first | omega | exact h1 trivial | contradiction); done)
    all_goals
    refine SatC.skip (SatE.thenC ?_)
    refine SatC.seq ?_
    refine SatC.block ?_
    refine SatC.seq ?_
    obtain ⟨x, hx⟩ := get_some (tabOf ys zs) i (by have := tabOf_len ys zs; omega)
    have hnx := take_next hx
    have hln : (((tabOf ys zs).take i).filterMap id).length ≤ 8 := Nat.le_trans (List.length_filterMap_le ..) (by rw [List.length_take]; omega)
    refine SatC.region ?_
    refine SatL.pu (RunV.indexVRow (rows := (tabOf ys zs).map encO) rfl rfl rfl rfl (encO_len _) (by omega) (by omega) (map_get (by assumption))) rfl ?_
    refine SatL.op rfl (OpW.alloc hS rfl rfl (by repeat constructor) ?_)
    clear hS
    intro b8 w6 _ hS
    refine SatL.op rfl (OpW.store hS rfl rfl (by repeat constructor) (by repeat constructor) (by repeat constructor) rfl rfl ?_)
    clear hS
    intro w7 hS
    refine SatL.nil (SatE.thenC ?_)
    refine SatC.seq ?_
    refine SatC.region ?_
    first | refine SatL.pu (RunV.fieldAddrL rfl rfl rfl) rfl ?_ | refine SatL.pu (RunV.fieldAddr rfl rfl rfl) rfl ?_
    refine SatL.pu (RunV.load1 hS rfl rfl (by repeat constructor) rfl) rfl ?_
    refine SatL.nil (SatE.thenC ?_)
    refine SatC.cond rfl (fun h2 => ?_) (fun h2 => ?_)
    · (try simp only [cx, ne_eq] at h2)
      try (exfalso; (first | omega | exact h2 trivial | contradiction); done)
      all_goals
      refine SatC.region ?_
      refine SatL.pu (RunV.move rfl) rfl ?_
      first | refine SatL.pu (RunV.fieldAddrL rfl rfl rfl) rfl ?_ | refine SatL.pu (RunV.fieldAddr rfl rfl rfl) rfl ?_
      refine SatL.pu (RunV.loadN hS rfl rfl (by repeat constructor) (by repeat constructor)) rfl ?_
      refine SatL.op rfl (OpW.buildSlice1 hS rfl rfl rfl rfl rfl (by repeat constructor) rfl rfl rfl ?_)
      clear hS
      intro b24 w8 _ hS
      refine SatL.op rfl (OpW.append1 (by assumption) hS (by repeat constructor) rfl rfl (by repeat constructor) rfl rfl rfl rfl rfl rfl rfl rfl (by first | omega | (simp only [List.length_map]; omega)) rfl ?_)
      clear hS
      intro v25 B25 w9 hsl25 hS
      refine SatL.pu (RunV.assign rfl) rfl ?_
      refine SatL.nil (SatE.blk_normal (SatE.thenC ?_))
      refine SatC.region ?_
      refine SatL.pu (RunV.add rfl rfl (by first | exact wrapI64 (by omega) | rfl)) rfl ?_
      refine SatL.pu (RunV.move rfl) rfl ?_
      refine SatL.nil ?_
      refine SatE.again ((i + 1, v25, B25)) ?_ (by first | omega | (dsimp only; omega)) (by repeat constructor)
      refine ⟨by omega, ?_, hS.sb (by repeat constructor)⟩
      obtain ⟨u, rfl⟩ := Option.isSome_iff_exists.1 h2
      rw [hnx, List.map_append]
      exact hsl25
    · (try simp only [cx, ne_eq] at h2)
      try (exfalso; (first | omega | exact h2 trivial | contradiction); done)
      all_goals
      refine SatC.skip (SatE.blk_normal (SatE.thenC ?_))
      refine SatC.region ?_
      refine SatL.pu (RunV.add rfl rfl (by first | exact wrapI64 (by omega) | rfl)) rfl ?_
      refine SatL.pu (RunV.move rfl) rfl ?_
      refine SatL.nil ?_
      refine SatE.again ((i + 1, v, B)) ?_ (by first | omega | (dsimp only; omega)) (by repeat constructor)
      refine ⟨by omega, ?_, hS.sb (by repeat constructor)⟩
      obtain rfl : x = none := by cases x with
        | none => rfl
        | some u => cases h2
      rw [hnx, Option.toList_none, List.append_nil]
      exact hsl
  · (try simp only [cx, ne_eq] at h1)
    try (exfalso; (first | omega | exact h1 trivial | contradiction); done)
    all_goals
    refine SatC.exit (SatE.then_exit (SatE.then_exit (SatE.blk_exit (SatE.thenC ?_))))
    refine SatC.seq ?_
    refine SatC.region ?_
    refine SatL.pu (RunV.move rfl) rfl ?_
    refine SatL.pu (RunV.assign rfl) rfl ?_
    refine SatL.nil (SatE.thenC ?_)
    refine SatC.ret ?_
    refine SatE.ret1 rfl rfl ?_
    obtain rfl : i = 8 := by omega
    rw [List.take_of_length_le (by rw [tabOf_len]; omega)] at hsl
    exact ⟨B, hsl, hS.sb (by repeat constructor)⟩
end Go.Proofs.Ytpbfjadkimojeaa
