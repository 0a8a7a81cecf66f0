/- What holds of every disk stays; the works of chapter 23's laws. -/
import Derived.Test.YtahholhggohbnaaDh
set_option linter.unusedSimpArgs false
set_option linter.unusedVariables false
set_option maxRecDepth 100000
set_option maxHeartbeats 4000000
namespace Go.Proofs.Ytahholhggohbnaa
open Go.RowKit
theorem upd_get {α : Type} {g : α → α} {n : Nat} {l : List α} {x : α} (h : x ∈ upd g n l) : x ∈ l ∨ ∃ y, l[n]? = some y ∧ x = g y := by
  induction l generalizing n with
  | nil => cases n <;> cases h
  | cons y l ih =>
    cases n with
    | zero =>
      rcases List.mem_cons.1 h with rfl | h
      · exact .inr ⟨y, rfl, rfl⟩
      · exact .inl (List.mem_cons_of_mem _ h)
    | succ n =>
      rcases List.mem_cons.1 h with rfl | h
      · exact .inl List.mem_cons_self
      · rcases ih h with h | ⟨z, hz, e⟩
        · exact .inl (List.mem_cons_of_mem _ h)
        · exact .inr ⟨z, by simpa using hz, e⟩
theorem usedA_upd_le {g : Fa → Fa} {k : Nat} (hg : ∀ f, (g f).1.length ≤ f.1.length + k) (n : Nat) (l : List Fa) : usedA (upd g n l) ≤ usedA l + k := by
  induction l generalizing n with
  | nil => cases n <;> simp [upd, usedA]
  | cons x l ih =>
    cases n with
    | zero => simp only [upd, usedA]; have := hg x; omega
    | succ n => simp only [upd, usedA]; have := ih n; omega
theorem usedA_set {l : List Fa} {i : Nat} {x y : Fa} (h : l[i]? = some y) : usedA (l.set i x) + y.1.length = usedA l + x.1.length := by
  induction l generalizing i with
  | nil => simp at h
  | cons z l ih =>
    cases i with
    | zero =>
      simp only [List.getElem?_cons_zero, Option.some.injEq] at h
      subst h
      simp only [List.set_cons_zero, usedA]
      omega
    | succ i =>
      simp only [List.getElem?_cons_succ] at h
      simp only [List.set_cons_succ, usedA]
      have := ih h
      omega
theorem usedA_crash (keep : Int) (l : List Fa) : usedA (l.map (crashF keep)) ≤ usedA l := by
  induction l with
  | nil => exact Nat.le_refl _
  | cons x l ih =>
    simp only [List.map_cons, usedA]
    have : (crashF keep x).1.length ≤ x.1.length := by unfold crashF; rw [List.length_take]; omega
    omega
theorem burnF_b {f : Int} (h : -1 ≤ f ∧ f ≤ 9223372036854775807) : -1 ≤ burnF f ∧ burnF f ≤ 9223372036854775807 := by
  unfold burnF
  split <;> omega
section
variable {d : Dk} (ho : d.Ok)
include ho
theorem ok_append (n : Int) (bs : List UInt8) : (aAppend d n bs).2.Ok := by
  unfold aAppend
  split
  · exact ho
  · split
    · exact ho
    · split
      · exact ho
      · rename_i h1 h2 h3
        have h4 := Decidable.not_not.1 h3
        have hu := usedA_upd_le (g := fun f : Fa => (f.1 ++ bs, f.2)) (k := bs.length) (fun f => by simp) n.toNat d.fs
        refine ⟨by show (upd _ _ _).length = 4; rw [upd_len]; exact ho.four, fun f hf => ?_, burnF_b ho.fuse, ho.room, by show (usedA (upd _ _ _) : Int) ≤ d.room; omega⟩
        rcases upd_get hf with hf | ⟨y, hy, rfl⟩
        · exact ho.sync f hf
        · have := ho.sync y (List.mem_of_getElem? hy)
          exact ⟨this.1, by show y.2 ≤ ((y.1 ++ bs).length : Int); rw [List.length_append]; omega⟩
theorem ok_write {ok : Prop} [Decidable ok] {g : List Fa → List Fa} (h : ok → (g d.fs).length = 4 ∧ (∀ f ∈ g d.fs, 0 ≤ f.2 ∧ f.2 ≤ f.1.length) ∧ usedA (g d.fs) ≤ usedA d.fs) : (aWrite d ok g).2.Ok := by
  unfold aWrite
  split
  · exact ho
  · split
    · exact ho
    · split
      · exact ⟨ho.four, ho.sync, ho.fuse, ho.room, ho.used⟩
      · rename_i h1 h2 h3
        obtain ⟨a, b, c⟩ := h (Decidable.not_not.1 h2)
        refine ⟨a, b, burnF_b ho.fuse, ho.room, ?_⟩
        have := ho.used
        show (usedA (g d.fs) : Int) ≤ d.room
        omega
theorem ok_sync (n : Int) : (aSync d n).2.Ok := by
  refine ok_write ho fun _ => ⟨by rw [upd_len]; exact ho.four, fun f hf => ?_, usedA_upd_le (g := fun f : Fa => (f.1, (f.1.length : Int))) (k := 0) (fun f => Nat.le_refl _) _ _⟩
  rcases upd_get hf with hf | ⟨y, hy, rfl⟩
  · exact ho.sync f hf
  · exact ⟨by show (0 : Int) ≤ (y.1.length : Int); omega, Int.le_refl _⟩
theorem ok_cut (n m : Int) : (aCut d n m).2.Ok := by
  refine ok_write ho fun hok => ⟨by rw [upd_len]; exact ho.four, fun f hf => ?_, usedA_upd_le (k := 0) (fun f => by simp only [List.length_take]; omega) _ _⟩
  rcases upd_get hf with hf | ⟨y, hy, rfl⟩
  · exact ho.sync f hf
  · have hl : lenA d.fs n = y.1.length := by unfold lenA; rw [hy]; rfl
    rw [hl] at hok
    refine ⟨hok.2.1, ?_⟩
    show m ≤ ((y.1.take m.toNat).length : Int)
    rw [List.length_take]
    omega
theorem ok_rename (n m : Int) : (aRename d n m).2.Ok := by
  refine ok_write ho fun ⟨hn, hm, hne⟩ => ?_
  have h4 := ho.four
  obtain ⟨x, hx⟩ := get_some d.fs n.toNat (by omega)
  obtain ⟨y, hy⟩ := get_some d.fs m.toNat (by omega)
  rw [hx]
  simp only [Option.getD_some]
  refine ⟨by rw [List.length_set, List.length_set]; exact h4, fun f hf => ?_, ?_⟩
  · rcases List.mem_or_eq_of_mem_set hf with hf | rfl
    · rcases List.mem_or_eq_of_mem_set hf with hf | rfl
      · exact ho.sync f hf
      · exact ho.sync f (List.mem_of_getElem? hx)
    · exact ⟨Int.le_refl _, Int.le_refl _⟩
  · have e1 := usedA_set (x := x) hy
    have hx' : (d.fs.set m.toNat x)[n.toNat]? = some x := by rw [List.getElem?_set_ne (by omega)]; exact hx
    have e2 := usedA_set (x := (([] : List UInt8), (0 : Int))) hx'
    have e3 : (([] : List UInt8), (0 : Int)).1.length = 0 := rfl
    omega
theorem ok_crash (keep : Int) : (aCrash d keep).Ok := by
  refine ⟨by show (d.fs.map _).length = 4; rw [List.length_map]; exact ho.four, fun f hf => ?_, by show (-1 : Int) ≤ -1 ∧ (-1 : Int) ≤ _; omega, ho.room, ?_⟩
  · obtain ⟨y, hy, rfl⟩ := List.mem_map.1 hf
    have := ho.sync y hy
    have hq0 := Int.emod_nonneg (max keep 0) (show (y.1.length : Int) - y.2 + 1 ≠ 0 by omega)
    have hq1 := Int.emod_lt_of_pos (max keep 0) (show 0 < (y.1.length : Int) - y.2 + 1 by omega)
    unfold crashF
    dsimp only
    rw [List.length_take]
    omega
  · have h1 := usedA_crash keep d.fs
    have := ho.used
    show (usedA (d.fs.map _) : Int) ≤ d.room
    omega
theorem ok_spoil (n i : Int) (m : UInt8) : (aSpoil d n i m).Ok := by
  unfold aSpoil
  split
  · have h1 := usedA_upd_le (g := fun f : Fa => (f.1.set i.toNat (f.1[i.toNat]?.getD 0 ^^^ m), f.2)) (k := 0) (fun f => by simp) n.toNat d.fs
    have h2 := ho.used
    refine ⟨by show (upd _ _ _).length = 4; rw [upd_len]; exact ho.four, fun f hf => ?_, ho.fuse, ho.room, by show (usedA (upd _ _ _) : Int) ≤ d.room; omega⟩
    rcases upd_get hf with hf | ⟨y, hy, rfl⟩
    · exact ho.sync f hf
    · have := ho.sync y (List.mem_of_getElem? hy)
      exact ⟨this.1, by show y.2 ≤ ((y.1.set _ _).length : Int); rw [List.length_set]; exact this.2⟩
  · exact ho
theorem ok_arm (n : Int) (hn : n ≤ 9223372036854775807) : (aArm d n).Ok := ⟨ho.four, ho.sync, by show -1 ≤ max n (-1) ∧ max n (-1) ≤ _; omega, ho.room, ho.used⟩
end
def newD (n : Int) : Dk := ⟨min (max n 0) 1048576, -1, false, List.replicate 4 ([], 0)⟩
theorem ok_new (n : Int) : (newD n).Ok := by
  refine ⟨rfl, fun f hf => ?_, by show (-1 : Int) ≤ -1 ∧ (-1 : Int) ≤ _; omega, by show 0 ≤ min (max n 0) 1048576 ∧ _; show 0 ≤ min (max n 0) 1048576 ∧ min (max n 0) 1048576 ≤ 1048576; omega, by show ((0 : Nat) : Int) ≤ min (max n 0) 1048576; omega⟩
  obtain rfl := (List.mem_replicate.1 hf).2
  exact ⟨Int.le_refl _, Int.le_refl _⟩
end Go.Proofs.Ytahholhggohbnaa
