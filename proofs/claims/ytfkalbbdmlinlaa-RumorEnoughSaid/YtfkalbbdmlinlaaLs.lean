/- The closure that orders rumors, and the library's sort over it. -/
import Derived.Test.YtfkalbbdmlinlaaLy
import Derived.Test.YtfkalbbdmlinlaaK23
import Derived.Test.YtfkalbbdmlinlaaK24
import Derived.Test.YtfkalbbdmlinlaaChecked
set_option linter.unusedSimpArgs false
set_option linter.unusedVariables false
set_option maxRecDepth 100000
set_option maxHeartbeats 4000000
namespace Go.Proofs.Ytfkalbbdmlinlaa
open Go.RowKit Go.Sort Go.Shelf Go.Lib
/-- An update that is passed on: the update, how often it was, and when it was pushed. -/
structure It where
  n : Int
  i : Int
  s : Int
  c : Int
  w : Int
deriving DecidableEq, Inhabited
@[reducible] def ir (x : It) : List Value := [.int .i64 x.n, .int .u32 x.i, .int .i64 x.s, .int .i64 x.c, .int .i64 x.w]
def ltI (a b : It) : Bool := if a.c = b.c then decide (b.w < a.w) else decide (a.c < b.c)
theorem swo_ltI : SWO ltI := by
  refine ⟨fun x => ?_, fun x y z => ?_, fun x y z => ?_⟩ <;> unfold ltI
  · simp
  · intro h1 h2
    split at h1 <;> split at h2 <;> split <;> simp only [decide_eq_true_eq] at * <;> omega
  · intro h1 h2
    split at h1 <;> split at h2 <;> split <;> simp only [decide_eq_false_iff_not] at * <;> omega
theorem less19 (g n cap bx : Nat) (W : World) (dk : Array It) (hs : W.cell? ⟨bx, 0, none⟩ = some (.slice (some ⟨g, 0, none⟩) n cap)) (hc : ∀ t c, t < dk.size → c < 5 → W.cell? ⟨g, t * 5 + c, none⟩ = some (ir dk[t]!)[c]!) (hn : dk.size = n) (i j : Nat) (hi : i < n) (hj : j < n) (hsz : n ≤ 1000000) :
    Calls Try.prog 19 #[.int .i64 i, .int .i64 j, .pointer (some ⟨bx, 0, none⟩)] W fun e w' => e = .returned (.bool (ltI dk[i]! dk[j]!)) ∧ ∃ q, w' = W.drewN q := by
  have ci3 : W.cell? ⟨g, i * 5 + 3, none⟩ = some (.int .i64 dk[i]!.c) := hc i 3 (by omega) (by decide)
  have cj3 : W.cell? ⟨g, j * 5 + 3, none⟩ = some (.int .i64 dk[j]!.c) := hc j 3 (by omega) (by decide)
  have ci4 : W.cell? ⟨g, i * 5 + 4, none⟩ = some (.int .i64 dk[i]!.w) := hc i 4 (by omega) (by decide)
  have cj4 : W.cell? ⟨g, j * 5 + 4, none⟩ = some (.int .i64 dk[j]!.w) := hc j 4 (by omega) (by decide)
  generalize dk[i]! = x at *
  generalize dk[j]! = y at *
  clear hc hn
  go_enter Try.func19, Try.ntmps19
  go_wp2
  go_quiet (fail)
  go_wp2
  all_goals have di3 : (W.drewN nq).cell? ⟨g, i * 5 + 3, none⟩ = some (.int .i64 x.c) := ci3
  all_goals have dj3 : (W.drewN nq).cell? ⟨g, j * 5 + 3, none⟩ = some (.int .i64 y.c) := cj3
  all_goals have di4 : (W.drewN nq).cell? ⟨g, i * 5 + 4, none⟩ = some (.int .i64 x.w) := ci4
  all_goals have dj4 : (W.drewN nq).cell? ⟨g, j * 5 + 4, none⟩ = some (.int .i64 y.w) := cj4
  all_goals have ds : (W.drewN nq).cell? ⟨bx, 0, none⟩ = some (.slice (some ⟨g, 0, none⟩) n cap) := hs
  · have hne : ¬ x.c = y.c := by simpa using ‹(x.c != y.c) = true›
    go_quiet (fail)
    go_wp2
    go_ret
    exact ⟨by show Ending.returned (.bool (decide (x.c < y.c))) = _; unfold ltI; rw [if_neg hne], _, World.drewN_drewN ..⟩
  · have hne : x.c = y.c := by simpa using ‹(x.c != y.c) = false›
    go_quiet (fail)
    go_wp2
    go_ret
    exact ⟨by show Ending.returned (.bool (decide (y.w < x.w))) = _; unfold ltI; rw [if_pos hne], _, World.drewN_drewN ..⟩
noncomputable def svT : TypeInfo := (Try.prog.info? 50).get (by kernel_rfl)
noncomputable def svE : TypeInfo := (Try.prog.info? 53).get (by kernel_rfl)
theorem svK (n : Nat) (h2 : 2 ≤ n) : Lib.swapperK n svE 25 = 9 := by
  have a : svE.hasPointers = false := by kernel_rfl
  have b : svE.bytes = 40 := by kernel_rfl
  have c : (n == 0) = false := by simp; omega
  have d : (n == 1) = false := by simp; omega
  simp [Lib.swapperK, a, b, c, d]
theorem svK1 (n : Nat) (h : n ≤ 1) : ∃ f, Try.prog.funcs.findIdx? (·.name == "internal/reflectlite" ++ ".Swapper$" ++ toString (Lib.swapperK n svE 25)) = some f := by
  match n, h with
  | 0, _ => exact ⟨25, by kernel_rfl⟩
  | 1, _ => exact ⟨26, by kernel_rfl⟩
theorem sort_items {v : Value} {bx : Nat} {B : List (Nat × Obj)} {w : World} {ds : List It} (hsl : Sl 53 5 v (ds.map ir) B) (hown : Own w ((bx, C 50 [v]) :: B)) (hl : ds.length ≤ 1000000) :
    Ret Try.prog 18 #[.iface 50 v, .func (.func 19) #[] #[.pointer (some ⟨bx, 0, none⟩)]] w fun u w' => u = .tuple #[] ∧ ∃ (ds' : List It) (B' : List (Nat × Obj)), ds'.Perm ds ∧ ds'.Pairwise (fun a b => ltI b a = false) ∧ Sl 53 5 v (ds'.map ir) B' ∧ St w (B.map Prod.fst) B' w' := by
  refine sortSlice_own (ρ := sl6_ren) (A := [(bx, C 50 [v])]) sl6 50 53 svT svE (by kernel_rfl) (by kernel_rfl) (by kernel_rfl) (by kernel_rfl) 25 (fun _ => by kernel_rfl) ir 5 (fun _ => rfl) (by kernel_rfl) (fun _ => by kernel_rfl)
    (fun x v hv => by simp [ir] at hv; rcases hv with rfl | rfl | rfl | rfl | rfl <;> rfl) ltI swo_ltI 19 _ (enters_of Try.func19 (by kernel_rfl) rfl) 33 (fun n h => by rw [svK n h]; kernel_rfl) svK1 false
    (fun args W => run_callFunc_extern Try.func33 (by kernel_rfl) (by kernel_rfl) (by kernel_rfl) (e := Extern.ReflectliteSwapper.swap false) (by kernel_rfl) args W) hsl hown hl ?_
  rintro g cap rfl W dk hn hA hc i j hi hj
  refine less19 g ds.length cap bx W dk ?_ hc hn i j hi hj hl
  have := hA _ List.mem_cons_self
  simp [World.cell?, this, C]
end Go.Proofs.Ytfkalbbdmlinlaa
