/- A law's row out of its walk, for the second form of the statements: where what is read is of a small bulk. The lengths that this gives. -/
import Derived.Test.YtpajeienbdnkfaaK13
import Derived.Test.YtpajeienbdnkfaaRows
import Derived.Deep.CondSized
set_option linter.unusedVariables false
namespace Go.Proofs.Ytpajeienbdnkfaa
open Go.RowKit Go.ChangeShapes Go.WideShapes Go.ChangeAt
theorem bulk_one {H : Type} (d : DataW H) : 1 ≤ Rows.uptoBulk d := by
  cases d with
  | lit l => cases l <;> simp [Rows.uptoBulk]
  | nil => simp [Rows.uptoBulk]
  | ptr d => simp [Rows.uptoBulk]
  | slice elems spare => simp [Rows.uptoBulk]
  | agg parts => simp [Rows.uptoBulk]
  | iface t d => simp [Rows.uptoBulk]
  | map entries => simp [Rows.uptoBulk]
  | held h => simp [Rows.uptoBulk]
theorem bulk_part {H : Type} {d : DataW H} : ∀ {l : List (DataW H)}, d ∈ l → Rows.uptoBulk d ≤ Rows.uptoBulkAll l
  | x :: r, h => by
    simp only [Rows.uptoBulkAll]
    rcases List.mem_cons.1 h with e | e
    · subst e; omega
    · have := bulk_part e; omega
theorem bulk_len {H : Type} : ∀ (l : List (DataW H)), l.length ≤ Rows.uptoBulkAll l
  | [] => by simp [Rows.uptoBulkAll]
  | x :: r => by have := bulk_one x; have := bulk_len r; simp only [Rows.uptoBulkAll, List.length_cons]; omega
section
variable {H : Type} {enc : TypeId × Value → H}
/-- How long a slice may be that is handed in. -/
theorem rows_small {P : Program} {w : World} {held : Bool} {ds : List (DataW H)} {j : Nat} {t e : TypeId} {v : Value} {d : DataW H} {ps : List MemPlace} {k : Nat} {xs : List (List Value)} (hk : Rows.uptoSmall H ds = true) (hd : ds[j]? = some d)
    (hu : P.underlying t = some (.slice e)) {W : World} {r : Reach} {b0 : Nat} (hv : Value.okWide P W r b0 t v) (h : DataW.Trod enc P w 0 (fun _ => true) held t v d ps) (hr : RdRow w v k xs) : xs.length ≤ 1048576 := by
  have hb : Rows.uptoBulkAll ds ≤ 1048576 := of_decide_eq_true hk
  obtain ⟨a0, len, cap, rfl⟩ := okWide_slice hu hv
  obtain ⟨m, hm⟩ := h
  obtain ⟨A, cap', he, hle, _, _⟩ := hr
  simp only [Value.slice.injEq] at he
  obtain ⟨_, rfl, rfl⟩ := he
  rcases Go.Deep.open_slice hu (by simpa [Value.cells] using hm) with ⟨hcs, _⟩ | ⟨a, len1, cap1, m', n', D, Pl, hcs, _, hle1, hcap, hm', hx, _⟩
  · simp only [List.cons.injEq, Value.slice.injEq, and_true] at hcs
    rw [hcs.2.1]
    omega
  · simp only [List.cons.injEq, Value.slice.injEq, and_true] at hcs
    obtain ⟨rfl, h1, rfl⟩ := hcs
    simp only [Prod.mk.injEq] at hx
    have h2 := bulk_part (List.mem_of_getElem? hd)
    rw [hx.1] at h2
    have h3 := bulk_len ((List.range len1).map D)
    simp only [Rows.uptoBulk, List.length_map, List.length_range] at h2 h3
    rw [h1]
    omega
theorem law_returns_upto {C : Checked} {os : Os} {f : FuncId} {fn : Func} {s : OpenSpec} {F : Stop.Interp} {b : TypeId} {k : (H : Type) → List (DataW H) → Bool} (hk : s.cond = some k)
    (own : ownKnob C.prog.godebug = none) (started : os.Started) (noInit : C.prog.inits.idxOf? f = none) (hfn : C.prog.funcs[f]? = some fn)
    (witness : ∃ (w : World) (tape : Tape) (i : Input), w.os = os ∧ (w.forCall tape i).Shaped C.prog ∧ i.vars = [] ∧ Input.okWide C.prog (w.forCall tape i) .any w.heap.size f i ∧
      s.pre6 enc C.prog fn [] false (w.forCall tape i).memory i.args ∧ ({} : Assume).holds C.prog (lone (Frame.enter C.prog f i.args .normal) [] (w.forCall tape i)))
    (hvars : s.vars = []) (hres : fn.resultTypes = #[b]) (hub : C.prog.underlying b = some .bool) (hl : laidOutB C.prog = true)
    (hread : (fn.params.toList.all fun t => C.prog.readableRec t && decide (t < C.prog.types.size)) = true)
    (hs : ∀ ds : List (DataW H), ds.length = fn.params.toList.length → (s.at F).fn H (ds ++ []) = { results := [.lit (.bool true)], args := ds })
    (walk : ∀ (W : World) (base : Nat) (args : Array Value) (ds : List (DataW H)) (p : List MemPlace),
      (∀ (j : Nat) t v, fn.params[j]? = some t → args[j]? = some v → Value.okWide C.prog W .any base t v) →
      DataW.TrodAll enc C.prog W 0 (fun _ => true) true fn.params.toList args.toList ds p → k H ds = true →
      Calls C.prog f args W fun e W' => e = .returned (.bool true) ∧ Below W.heap.size W W') :
    ReturnsInHanded {} C os f .any (s.pre6 enc C.prog fn [] false) ((s.at F).post enc C.prog fn false true false false) := by
  refine returnsInHanded_of_cond_sized hk own started noInit hfn witness ?_
  intro W base args ds gs before hval hW hcnd hkk hsz hh
  have hW' := hW
  obtain ⟨p, q, hA, hV, rfl, hfz, hnd⟩ := hW
  rw [hvars] at hV
  obtain ⟨rfl, rfl⟩ := trodVars_none hV
  rw [List.append_nil] at hkk
  refine (walk W base args ds p hval hA hkk).mono fun e W' he => ?_
  obtain ⟨rfl, hb⟩ := he
  have hfn' := hs ds (trodAll_len _ _ _ _ hA)
  refine ⟨_, rfl, ds, [], p ++ [], [], p, [], hW', ?_, ?_, ?_, hb.frame _, fun h => by cases h⟩
  · rw [hfn', hres]
    exact trodAll_mk1 (shut_bool hub true)
  · rw [hfn']
    exact trodAll_below hl hb _ _ _ _ hread hA (fun x hx => by simpa using hW'.lt x (by simpa using hx))
  · rw [hfn']
    have e : (s.at F).vars = [] := hvars
    rw [e]
    exact rfl
end
end Go.Proofs.Ytpajeienbdnkfaa
