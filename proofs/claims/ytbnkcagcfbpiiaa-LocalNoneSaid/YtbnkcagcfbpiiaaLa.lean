/- Words of chapter 26: an agent's services and checks, in memory. -/
import Derived.Test.YtbnkcagcfbpiiaaHc
import Derived.Test.YtbnkcagcfbpiiaaSrt
import Derived.Test.YtbnkcagcfbpiiaaK32
import Derived.Test.YtbnkcagcfbpiiaaK33
import Derived.Test.YtbnkcagcfbpiiaaK31
set_option linter.unusedSimpArgs false
set_option linter.unusedVariables false
set_option maxRecDepth 100000
set_option maxHeartbeats 1000000
namespace Go.Proofs.Ytbnkcagcfbpiiaa
open Go.RowKit
theorem keyL {P : Program} {kt : TypeId} (h : P.underlying kt = some .string) : KeyK P kt str := by
  obtain ⟨⟨kd, h1, h2, h3⟩, h4⟩ := keyStr h
  refine ⟨⟨kd, h1, fun a => h2 ⟨a.toArray⟩, fun a b => ?_⟩, fun a => h4 ⟨a.toArray⟩⟩
  show Instr.sameNow kd (Value.string ⟨a.toArray⟩) (Value.string ⟨b.toArray⟩) = _
  rw [h3 ⟨a.toArray⟩ ⟨b.toArray⟩]
  congr 1
  rw [decide_eq_decide]
  constructor
  · intro h
    have := congrArg ByteArray.data h
    exact Array.toList_inj.2 this
  · rintro rfl; rfl
section
variable {α : Type} (key : α → List UInt8) (val : α → Value)
def gt : List α → List UInt8 → Option α
  | [], _ => none
  | x :: l, k => if k = key x then some x else gt l k
def pt : List α → α → List α
  | [], t => [t]
  | x :: l, t => if key t = key x then t :: l else x :: pt l t
def dl : List α → List UInt8 → List α
  | [], _ => []
  | x :: l, k => if k = key x then l else x :: dl l k
@[reducible] def kvs (l : List α) : List (List UInt8 × Value) := l.map fun x => (key x, val x)
theorem kput_v (l : List α) (t : α) : kput (kvs key val l) (key t) (val t) = kvs key val (pt key l t) := by
  induction l with
  | nil => rfl
  | cons x l ih =>
    simp only [kvs, List.map_cons, kput, pt] at ih ⊢
    split
    · rfl
    · rw [ih]; rfl
theorem kdel_v (l : List α) (k : List UInt8) : kdel (kvs key val l) k = kvs key val (dl key l k) := by
  induction l with
  | nil => rfl
  | cons x l ih =>
    simp only [kvs, List.map_cons, kdel, dl] at ih ⊢
    split
    · rfl
    · rw [ih]; rfl
theorem kget_v (l : List α) (k : List UInt8) : kget (kvs key val l) k = (gt key l k).map val := by
  induction l with
  | nil => rfl
  | cons x l ih =>
    simp only [kvs, List.map_cons, kget, gt] at ih ⊢
    split
    · rfl
    · exact ih
variable {key} {val}
theorem gt_mem {l : List α} {k : List UInt8} {x : α} (h : gt key l k = some x) : x ∈ l ∧ key x = k := by
  induction l with
  | nil => cases h
  | cons y l ih =>
    unfold gt at h
    split at h
    · cases h; exact ⟨List.mem_cons_self, by simp_all⟩
    · exact ⟨List.mem_cons_of_mem _ (ih h).1, (ih h).2⟩
theorem gt_none {l : List α} {k : List UInt8} : gt key l k = none ↔ k ∉ l.map key := by
  induction l with
  | nil => simp [gt]
  | cons y l ih =>
    unfold gt
    split
    · simp_all
    · simp_all
theorem gt_some {l : List α} {k : List UInt8} (h : k ∈ l.map key) : ∃ x, gt key l k = some x ∧ x ∈ l ∧ key x = k := by
  cases e : gt key l k with
  | none => exact absurd h (gt_none.1 e)
  | some x => exact ⟨x, rfl, gt_mem e⟩
theorem dl_sub (l : List α) (k : List UInt8) : (dl key l k).Sublist l := by
  induction l with
  | nil => exact .slnil
  | cons y l ih =>
    unfold dl
    split
    · exact List.sublist_cons_self _ _
    · exact ih.cons_cons _
theorem pt_len (l : List α) (t : α) : (pt key l t).length = if (gt key l (key t)).isSome = true then l.length else l.length + 1 := by
  induction l with
  | nil => rfl
  | cons y l ih =>
    unfold pt gt
    split
    · simp
    · simp only [List.length_cons, ih]; split <;> rfl
theorem pt_mem {l : List α} {t x : α} (h : x ∈ pt key l t) : x = t ∨ x ∈ l := by
  induction l with
  | nil => simpa [pt] using h
  | cons y l ih =>
    unfold pt at h
    split at h
    · rcases List.mem_cons.1 h with h | h
      · exact .inl h
      · exact .inr (List.mem_cons_of_mem _ h)
    · rcases List.mem_cons.1 h with rfl | h
      · exact .inr List.mem_cons_self
      · rcases ih h with h | h
        · exact .inl h
        · exact .inr (List.mem_cons_of_mem _ h)
theorem pt_keys {l : List α} {t : α} {k : List UInt8} : k ∈ (pt key l t).map key ↔ k = key t ∨ k ∈ l.map key := by
  induction l with
  | nil => simp [pt]
  | cons y l ih =>
    unfold pt
    split
    · rename_i e
      simp only [List.map_cons, List.mem_cons, e]
      exact ⟨fun h => h.elim .inl fun h => .inr (.inr h), fun h => h.elim .inl fun h => h.elim .inl .inr⟩
    · simp only [List.map_cons, List.mem_cons, ih]
      exact ⟨fun h => h.elim (fun h => .inr (.inl h)) fun h => h.elim .inl fun h => .inr (.inr h), fun h => h.elim (fun h => .inr (.inl h)) fun h => h.elim .inl fun h => .inr (.inr h)⟩
theorem pt_nodup {l : List α} {t : α} (h : (l.map key).Nodup) : ((pt key l t).map key).Nodup := by
  induction l with
  | nil => simp [pt]
  | cons y l ih =>
    rw [List.map_cons, List.nodup_cons] at h
    unfold pt
    split
    · rename_i e
      rw [List.map_cons, List.nodup_cons, e]; exact h
    · rename_i e
      rw [List.map_cons, List.nodup_cons]
      exact ⟨fun hm => by rcases pt_keys.1 hm with h' | h'; exact e h'.symm; exact h.1 h', ih h.2⟩
theorem dl_nodup {l : List α} {k : List UInt8} (h : (l.map key).Nodup) : ((dl key l k).map key).Nodup := ((dl_sub l k).map key).nodup h
end
/-- A service: its tags' value, and their blocks. -/
structure Sv where
  id : List UInt8
  name : List UInt8
  tags : List (List UInt8)
  port : Int
  tv : Value
  B : List (Nat × Obj)
/-- A check: the block of how it comes to its status. -/
structure Ch where
  id : List UInt8
  svc : List UInt8
  note : List UInt8
  hb : Nat
  h : Ck
@[reducible] def svc (n : Int) (s : Sv) : List Value := [.int .i64 n, str s.id, str s.name, s.tv, .int .i64 s.port, .int .u64 0, .int .u64 0]
@[reducible] def chc (n : Int) (c : Ch) : List Value := [.int .i64 n, str c.id, str c.svc, str c.note, .int .i64 0, .int .u64 0, .int .u64 0]
@[reducible] def chv (n : Int) (c : Ch) : List Value := [.int .i64 n, str c.id, str c.svc, str c.note, .int .i64 0, .int .u64 0, .int .u64 0, .pointer (some ⟨c.hb, 0, none⟩)]
@[reducible] def skv (n : Int) (l : List Sv) : List (List UInt8 × Value) := kvs Sv.id (fun s => .agg (svc n s).toArray) l
@[reducible] def ckv (n : Int) (l : List Ch) : List (List UInt8 × Value) := kvs Ch.id (fun c => .agg (chv n c).toArray) l
theorem svc_one {n : Int} {s : Sv} (h : s.tv.oneCell' = true) : ((svc n s).all fun x => x.oneCell') = true := by
  show (true && (true && (true && (s.tv.oneCell' && (true && (true && (true && true))))))) = true
  rw [h]
  rfl
def hblk (c : Ch) : Nat × Obj := (c.hb, C 108 (hc (fv c.h) c.h))
structure Lc where
  node : Int
  addr : List UInt8
  sv : List Sv
  ch : List Ch
@[reducible] def lcc (n : Int) (a : List UInt8) (ms mc : Nat) : List Value := [.int .i64 n, str a, .map (some ms), .map (some mc)]
@[reducible] def LO (b : Nat) (n : Int) (a : List UInt8) (ms mc : Nat) (oS oC : Obj) (D : List (Nat × Obj)) : List (Nat × Obj) := (b, C 63 (lcc n a ms mc)) :: (ms, oS) :: (mc, oC) :: D
def tbl (l : List Sv) : List (Nat × Obj) := l.flatMap Sv.B
/-- An agent in memory. -/
structure Agt (b : Nat) (S : Lc) (L : List (Nat × Obj)) : Prop where
  s16 : S.sv.length ≤ 16
  c16 : S.ch.length ≤ 16
  su : (S.sv.map Sv.id).Nodup
  cu : (S.ch.map Ch.id).Nodup
  tg : ∀ s ∈ S.sv, Sl 9 1 s.tv (s.tags.map rs) s.B ∧ s.tags.length ≤ 4
  ck : ∀ c ∈ S.ch, ¬ c.h.p.kind = 0
  rep : ∃ ms mc oS oC, Mp str oS (skv S.node S.sv) ∧ Mp str oC (ckv S.node S.ch) ∧ L = LO b S.node S.addr ms mc oS oC (tbl S.sv ++ S.ch.map hblk)
theorem srt_perm {l l' : List (List UInt8)} (h : l.Perm l') : srt l = srt l' := by
  unfold srt
  have ht : ∀ a b : List UInt8, (decide (a ≤ b) || decide (b ≤ a)) = true := by
    intro a b
    rcases List.le_total a b with h | h <;> simp [h]
  have hr : ∀ a b c : List UInt8, decide (a ≤ b) = true → decide (b ≤ c) = true → decide (a ≤ c) = true := by
    intro a b c h1 h2
    simp only [decide_eq_true_eq] at *
    exact List.le_trans h1 h2
  have h1 := List.pairwise_mergeSort hr ht l
  have h2 := List.pairwise_mergeSort hr ht l'
  refine List.Perm.eq_of_pairwise (le := fun a b : List UInt8 => decide (a ≤ b) = true) ?_ h1 h2 ?_
  · intro a b _ _ h h'
    simp only [decide_eq_true_eq] at h h'
    exact List.le_antisymm h h'
  · exact (List.mergeSort_perm ..).trans (h.trans (List.mergeSort_perm ..).symm)
theorem srt_len (l : List (List UInt8)) : (srt l).length = l.length := List.length_mergeSort ..
theorem mem_srt {l : List (List UInt8)} {x : List UInt8} : x ∈ srt l ↔ x ∈ l := (List.mergeSort_perm ..).mem_iff
theorem erase_perm {α : Type} {l : List α} {i : Nat} {x : α} (h : l[i]? = some x) : l.Perm (x :: l.eraseIdx i) := by
  induction l generalizing i with
  | nil => simp at h
  | cons y l ih =>
    cases i with
    | zero =>
      simp only [List.getElem?_cons_zero, Option.some.injEq] at h
      subst h
      exact .refl _
    | succ i =>
      rw [List.eraseIdx_cons_succ]
      exact ((ih (by simpa using h)).cons y).trans (.swap ..)
end Go.Proofs.Ytbnkcagcfbpiiaa
