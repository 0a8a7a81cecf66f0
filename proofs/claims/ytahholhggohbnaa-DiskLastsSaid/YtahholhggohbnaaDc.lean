/- The disk in plain words; bytes laid behind a file's. -/
import Derived.Test.YtahholhggohbnaaDb
set_option linter.unusedSimpArgs false
set_option linter.unusedVariables false
set_option maxRecDepth 100000
set_option maxHeartbeats 4000000
namespace Go.Proofs.Ytahholhggohbnaa
open Go.RowKit
def upd {α : Type} (g : α → α) : Nat → List α → List α
  | _, [] => []
  | 0, x :: l => g x :: l
  | n + 1, x :: l => x :: upd g n l
theorem upd_at {α : Type} (g : α → α) (p : List α) (x : α) (s : List α) : upd g p.length (p ++ x :: s) = p ++ g x :: s := by
  induction p with
  | nil => rfl
  | cons y p ih => simp only [List.cons_append, List.length_cons, upd, ih]
theorem upd_len {α : Type} (g : α → α) (n : Nat) (l : List α) : (upd g n l).length = l.length := by
  induction l generalizing n with
  | nil => cases n <;> rfl
  | cons y l ih => cases n <;> simp [upd, ih]
theorem upd_mem {α : Type} {g : α → α} {n : Nat} {l : List α} {x : α} (h : x ∈ upd g n l) : x ∈ l ∨ ∃ y ∈ l, x = g y := by
  induction l generalizing n with
  | nil => cases n <;> cases h
  | cons y l ih =>
    cases n with
    | zero =>
      rcases List.mem_cons.1 h with rfl | h
      · exact .inr ⟨y, List.mem_cons_self, rfl⟩
      · exact .inl (List.mem_cons_of_mem _ h)
    | succ n =>
      rcases List.mem_cons.1 h with rfl | h
      · exact .inl List.mem_cons_self
      · rcases ih h with h | ⟨z, hz, e⟩
        · exact .inl (List.mem_cons_of_mem _ h)
        · exact .inr ⟨z, List.mem_cons_of_mem _ hz, e⟩
abbrev Fa := List UInt8 × Int
structure Dk where
  room : Int
  fuse : Int
  down : Bool
  fs : List Fa
def usedA : List Fa → Nat
  | [] => 0
  | x :: l => x.1.length + usedA l
def ab (fs : List Fi) : List Fa := fs.map fun x => (x.b, x.s)
theorem ab_used (fs : List Fi) : usedA (ab fs) = usedF fs := by
  unfold ab
  induction fs with
  | nil => rfl
  | cons x l ih => simp only [List.map_cons, usedA, usedF, ih]
theorem usedA_app (a b : List Fa) : usedA (a ++ b) = usedA a + usedA b := by
  induction a with
  | nil => simp [usedA]
  | cons x a ih => simp only [List.cons_append, usedA, ih]; omega
/-- What holds of every disk. -/
structure Dk.Ok (d : Dk) : Prop where
  four : d.fs.length = 4
  sync : ∀ f ∈ d.fs, 0 ≤ f.2 ∧ f.2 ≤ f.1.length
  fuse : -1 ≤ d.fuse ∧ d.fuse ≤ 9223372036854775807
  room : 0 ≤ d.room ∧ d.room ≤ 1048576
  used : (usedA d.fs : Int) ≤ d.room
def SlF (fs : List Fi) : Prop := ∀ x ∈ fs, Sl 5 1 x.v (x.b.map by1c) x.B
/-- The files of a disk as they lie in memory. -/
def Rep (d : Dk) (fs : List Fi) : Prop := SlF fs ∧ ab fs = d.fs
@[reducible] def PO (b : Nat) (d : Dk) (fs : List Fi) : List (Nat × Obj) := DO b d.room d.fuse d.down fs
theorem Rep.four {d : Dk} {fs : List Fi} (h : Rep d fs) (ho : d.Ok) : fs.length = 4 := by
  have := ho.four
  rw [← h.2] at this
  simpa [ab] using this
theorem SlF.vf {fs : List Fi} (h : SlF fs) : VF fs := fun x hx => by
  obtain ⟨c, hc⟩ := (h x hx).slv
  rw [List.length_map] at hc
  exact ⟨_, _, _, hc⟩
theorem Rep.used {d : Dk} {fs : List Fi} (h : Rep d fs) : usedF fs = usedA d.fs := by rw [← ab_used, h.2]
theorem used_mem {fs p s : List Fi} {x : Fi} (h : fs = p ++ x :: s) : x.b.length ≤ usedF fs := by
  rw [h, usedF_app]
  simp only [usedF]
  omega
def burnD (d : Dk) : Dk := { d with fuse := burnF d.fuse, down := d.down || decide (d.fuse = 0) }
def aAppend (d : Dk) (n : Int) (bs : List UInt8) : Int × Dk :=
  if d.down = true then (50, d) else if ¬ (0 ≤ n ∧ n < 4) then (2, d) else if ¬ ((bs.length : Int) ≤ d.room - usedA d.fs) then (51, d) else
  (if d.fuse = 0 then 50 else 0, burnD { d with fs := upd (fun f => (f.1 ++ bs, f.2)) n.toNat d.fs })
theorem copy_fst {a : List UInt8} {m n : Nat} (hm : m = a.length) (zr : List (List Value)) : zr.take 0 ++ (a.map by1c).take (min m (m + n)) ++ zr.drop (0 + min m (m + n)) = a.map by1c ++ zr.drop m := by
  subst hm
  rw [show min a.length (a.length + n) = a.length from by omega, List.take_zero, List.nil_append, List.take_of_length_le (by simp), Nat.zero_add]
theorem copy_snd {a b : List UInt8} {m n : Nat} (hm : m = a.length) (hn : n = b.length) (zr : List (List Value)) (hz : zr.length = m + n) :
    (a.map by1c ++ zr.drop m).take m ++ (b.map by1c).take (min n n) ++ (a.map by1c ++ zr.drop m).drop (m + min n n) = (a ++ b).map by1c := by
  subst hm hn
  rw [Nat.min_self, List.take_of_length_le (l := b.map by1c) (by simp), List.take_append_of_le_length (by simp), List.take_of_length_le (by simp), List.drop_of_length_le (by simp [hz]), List.append_nil, List.map_append]
theorem Sl.blk_of {T k g o n c : Nat} {rows : List (List Value)} {B : List (Nat × Obj)} (h : Sl T k (.slice (some ⟨g, o, none⟩) n c) rows B) : blk B = g := by
  cases h; rfl
theorem mayE_two {down : Bool} {a c : Prop} [Decidable a] [Decidable c] {f1 f2 : Nat} {c1 c2 : List Value} : mayE down [⟨f1, c1, 2, decide a⟩, ⟨f2, c2, 51, decide c⟩] = if down = true then 50 else if ¬ a then 2 else if ¬ c then 51 else 0 := by
  unfold mayE
  by_cases h1 : a <;> by_cases h2 : c <;> simp [noE, h1, h2]
theorem mayE_one {down : Bool} {a : Prop} [Decidable a] {f1 : Nat} {c1 : List Value} : mayE down [⟨f1, c1, 2, decide a⟩] = if down = true then 50 else if ¬ a then 2 else 0 := by
  unfold mayE
  by_cases h1 : a <;> simp [noE, h1]
theorem by1c_one' (bs : List UInt8) : ∀ r ∈ bs.map by1c, ∀ u ∈ r, u.oneCell' = true := by
  intro r hr u hu
  obtain ⟨c, _, rfl⟩ := List.mem_map.1 hr
  simp only [by1c, List.mem_singleton] at hu
  subst hu
  rfl
theorem Sl.qs2 (q1 q2 : Qn) (g : Nat) : Sl 61 2 (.slice (some ⟨g, 0, none⟩) 2 2) ([q1, q2].map qr) [(g, C 61 (qr q1 ++ qr q2))] := Sl.own (T := 61) (k := 2) (g := g) (cap := 2) (cur := qr q1 ++ qr q2) (rows := [qr q1, qr q2]) (by simp) rfl (Nat.le_refl _) (by decide) rfl
theorem Sl.qs1 (q1 : Qn) (g : Nat) : Sl 61 2 (.slice (some ⟨g, 0, none⟩) 1 1) ([q1].map qr) [(g, C 61 (qr q1))] := Sl.own (T := 61) (k := 2) (g := g) (cap := 1) (cur := qr q1) (rows := [qr q1]) (by simp) rfl (Nat.le_refl _) (by decide) rfl
theorem mayE0_two {down : Bool} {a c : Prop} [Decidable a] [Decidable c] {f1 f2 : Nat} {c1 c2 : List Value} (h : mayE down [⟨f1, c1, 2, decide a⟩, ⟨f2, c2, 51, decide c⟩] = 0) : down = false ∧ a ∧ c := by
  rw [mayE_two] at h
  cases down <;> by_cases h1 : a <;> by_cases h2 : c <;> simp [h1, h2] at h ⊢
theorem mayE0_one {down : Bool} {a : Prop} [Decidable a] {f1 : Nat} {c1 : List Value} (h : mayE down [⟨f1, c1, 2, decide a⟩] = 0) : down = false ∧ a := by
  rw [mayE_one] at h
  cases down <;> by_cases h1 : a <;> simp [h1] at h ⊢
theorem app_no {d : Dk} {n : Int} {bs : List UInt8} {f1 f2 : Nat} {c1 c2 : List Value} (h : ¬ mayE d.down [⟨f1, c1, 2, decide (0 ≤ n ∧ n < 4)⟩, ⟨f2, c2, 51, decide ((bs.length : Int) ≤ d.room - usedA d.fs)⟩] = 0) :
    aAppend d n bs = (mayE d.down [⟨f1, c1, 2, decide (0 ≤ n ∧ n < 4)⟩, ⟨f2, c2, 51, decide ((bs.length : Int) ≤ d.room - usedA d.fs)⟩], d) := by
  rw [mayE_two] at h ⊢
  unfold aAppend
  by_cases h1 : d.down = true
  · rw [if_pos h1, if_pos h1]
  · rw [if_neg h1, if_neg h1]
    rw [if_neg h1] at h
    by_cases h2 : 0 ≤ n ∧ n < 4
    · rw [if_neg (not_not_intro h2), if_neg (not_not_intro h2)]
      rw [if_neg (not_not_intro h2)] at h
      by_cases h3 : (bs.length : Int) ≤ d.room - usedA d.fs
      · rw [if_neg (not_not_intro h3)] at h
        exact absurd rfl h
      · rw [if_pos h3, if_pos h3]
    · rw [if_pos h2, if_pos h2]
theorem app_yes {d : Dk} {n : Int} {bs : List UInt8} (h1 : d.down = false) (h2 : 0 ≤ n ∧ n < 4) (h3 : (bs.length : Int) ≤ d.room - usedA d.fs) : aAppend d n bs = (if d.fuse = 0 then 50 else 0, burnD { d with fs := upd (fun f => (f.1 ++ bs, f.2)) n.toNat d.fs }) := by
  unfold aAppend
  rw [if_neg (by rw [h1]; decide), if_neg (by simpa using h2), if_neg (by simpa using h3)]
theorem ab_upd {p s : List Fi} {x y : Fi} {n : Nat} {g : Fa → Fa} (hp : p.length = n) (hy : (y.b, y.s) = g (x.b, x.s)) : ab (p ++ y :: s) = upd g n (ab (p ++ x :: s)) := by
  unfold ab
  rw [List.map_append, List.map_append, List.map_cons, List.map_cons, show n = (p.map fun x => (x.b, x.s)).length from by rw [List.length_map, hp], upd_at, hy]
theorem SlF.upd {p s : List Fi} {x y : Fi} (h : SlF (p ++ x :: s)) (hy : Sl 5 1 y.v (y.b.map by1c) y.B) : SlF (p ++ y :: s) := by
  intro z hz
  rcases List.mem_append.1 hz with hz | hz
  · exact h z (List.mem_append_left _ hz)
  · rcases List.mem_cons.1 hz with rfl | hz
    · exact hy
    · exact h z (List.mem_append_right _ (List.mem_cons_of_mem _ hz))
section
variable {b : Nat} {room fuse : Int} {down : Bool} {fs : List Fi} {w : World}
theorem ask_there {b4 : Nat} {n : Int} (hown : Own w [(b4, C 3 [.int .i64 n])]) : Ret Try.prog 25 #[.pointer (some ⟨b4, 0, none⟩)] w fun u w' => u = .bool (decide (0 ≤ n ∧ n < 4)) ∧ St w [] [] w' := by
  have hS := St.init hown
  simp only [List.map_cons, List.map_nil] at hS
  refine Ret.enter Try.func25 Try.ntmps25 rfl rfl ?_
  simp only [argEnv, Nat.reduceAdd]
  refine SatC.seq ?_
  refine SatC.region ?_
  refine SatL.pu (RunV.assign rfl) rfl ?_
  refine SatL.nil (SatE.thenC ?_)
  refine SatC.seq ?_
  refine SatC.region ?_
  refine SatL.pu (RunV.load1 hS rfl rfl (by repeat constructor) rfl) rfl ?_
  refine SatL.op rfl (OpW.enter rfl rfl rfl (rfl) (there_any n _) ?_)
  rintro r1 w1 ⟨rfl, h⟩
  replace hS := St.callN hS h
  refine SatL.pu (RunV.assign rfl) rfl ?_
  refine SatL.nil (SatE.thenC ?_)
  refine SatC.ret ?_
  refine SatE.ret1 rfl rfl ?_
  exact ⟨rfl, St.ro hown hS (by repeat constructor)⟩
theorem ask_fits {b5 b3 : Nat} {v : Value} {vb vo vn vc : Nat} (hv : SlV v vb vo vn vc) (hvn : vn ≤ 9223372036854775807) (h4 : fs.length = 4) (hvf : VF fs) (hroom : 0 ≤ room ∧ room ≤ 1048576) (hub : usedF fs ≤ 4000000) (hown : Own w [(b5, C 22 [v]), (b3, C 24 [.pointer (some ⟨b, 0, none⟩)]), (b, C 53 (dcs room fuse down fs))]) :
    Ret Try.prog 27 #[.pointer (some ⟨b5, 0, none⟩), .pointer (some ⟨b3, 0, none⟩)] w fun u w' => u = .bool (decide ((vn : Int) ≤ room - usedF fs)) ∧ St w [] [] w' := by
  have hS := St.init hown
  simp only [List.map_cons, List.map_nil] at hS
  refine Ret.enter Try.func27 Try.ntmps27 rfl rfl ?_
  simp only [argEnv, Nat.reduceAdd]
  refine SatC.seq ?_
  refine SatC.region ?_
  refine SatL.pu (RunV.assign rfl) rfl ?_
  refine SatL.nil (SatE.thenC ?_)
  refine SatC.seq ?_
  refine SatC.drawnT 11 hS (hS) (by kernel_rfl) ?_
  clear hS
  intro w1 hh hS hD
  refine SatD.tk 0 rfl hD (fun _ hw => RunV.load1 hw rfl rfl (by repeat constructor) rfl) ?_
  first | refine SatD.tk 1 rfl hD (fun _ hw => RunV.lenR (by assumption) rfl rfl) ?_ | refine SatD.tk 1 rfl hD (fun _ hw => RunV.lenS rfl rfl) ?_
  refine SatD.tk 2 rfl hD (fun _ hw => RunV.load1 hw rfl rfl (by repeat constructor) rfl) ?_
  first | refine SatD.tk 3 rfl hD (fun _ hw => RunV.nil_ptr rfl) ?_ | refine SatD.tk 3 rfl hD (fun _ hw => RunV.nil_func rfl) ?_ | refine SatD.tk 3 rfl hD (fun _ hw => RunV.nil_yield rfl) ?_
  first | refine SatD.tk 4 rfl hD (fun _ hw => RunV.fieldAddrL rfl rfl rfl) ?_ | refine SatD.tk 4 rfl hD (fun _ hw => RunV.fieldAddr rfl rfl rfl) ?_
  refine SatD.tk 5 rfl hD (fun _ hw => RunV.load1 hw rfl rfl (by repeat constructor) rfl) ?_
  refine SatD.tk 6 rfl hD (fun _ hw => RunV.load1 hw rfl rfl (by repeat constructor) rfl) ?_
  refine SatD.ef 7 rfl (OpW.enter rfl rfl rfl (rfl) (used_any h4 hvf hub (hS.ownT (A := [(b, C 53 (dcs room fuse down fs))]) (by repeat constructor))) ?_)
  rintro r2 w2 ⟨rfl, h⟩
  replace hS := St.callN hS h
  refine keepS (hS.sel (by repeat constructor)) (fun hD => ?_)
  refine SatD.tk 8 rfl hD (fun _ hw => RunV.sub rfl rfl (by first | exact wrapI64 (by omega) | rfl)) ?_
  refine SatD.tk 9 rfl hD (fun _ hw => RunV.leq rfl rfl) ?_
  refine SatD.tk 10 rfl hD (fun _ hw => RunV.assign rfl) ?_
  refine SatD.done 0 (by kernel_rfl) (SatE.thenC ?_)
  clear hD
  refine SatC.ret ?_
  refine SatE.ret1 rfl rfl ?_
  exact ⟨rfl, St.ro hown hS (by repeat constructor)⟩
theorem append_any {d : Dk} (n : Int) (v : Value) (bs : List UInt8) (ho : d.Ok) (hrep : Rep d fs) (hr : ∀ W', St w ((PO b d fs).map Prod.fst) [] W' → RdRow W' v 1 (bs.map by1c)) (hown : Own w (PO b d fs)) :
    Ret Try.prog 9 #[.pointer (some ⟨b, 0, none⟩), .int .i64 n, v] w fun u w' => u = .int .i64 (aAppend d n bs).1 ∧ ∃ fs', Rep (aAppend d n bs).2 fs' ∧ St w ((PO b d fs).map Prod.fst) (PO b (aAppend d n bs).2 fs') w' := by
  have hS := St.init hown
  obtain ⟨room, fuse, down, fa⟩ := d
  have h4 := hrep.four ho
  have hus := hrep.used
  obtain ⟨_, hsy, hfu, hroom, hused⟩ := ho
  obtain ⟨hsl, hab⟩ := hrep
  dsimp only at *
  have hvf := hsl.vf
  generalize hX : (DO b room fuse down fs).map Prod.fst = X at hS hr ⊢
  obtain ⟨vb, vo, vc, hv, hvm, _, _⟩ := (hr w (hS.sel .nil)).open
  simp only [List.length_map] at hv hvm
  have hv1 := slv_one hv
  refine Ret.enter Try.func9 Try.ntmps9 rfl rfl ?_
  simp only [argEnv, Nat.reduceAdd]
  refine SatC.seq ?_
  refine SatC.region ?_
  refine SatL.op rfl (OpW.box hS rfl rfl (by repeat constructor) ?_)
  clear hS
  intro b3 w1 _ hS
  refine SatL.op rfl (OpW.box hS rfl rfl (by repeat constructor) ?_)
  clear hS
  intro b4 w2 _ hS
  refine SatL.op rfl (OpW.box hS rfl rfl (IsCells.one hv1) ?_)
  clear hS
  intro b5 w3 _ hS
  refine SatL.pu (RunV.assign rfl) rfl ?_
  refine SatL.nil (SatE.thenC ?_)
  refine SatC.seq ?_
  refine SatC.region ?_
  refine SatL.pu (RunV.load1 hS rfl rfl (by repeat constructor) rfl) rfl ?_
  refine SatL.pu (RunV.mkFunc rfl) rfl ?_
  refine SatL.pu (RunV.build rfl (by simp [go_sem]; try rfl)) rfl ?_
  refine SatL.pu (RunV.mkFunc rfl) rfl ?_
  refine SatL.pu (RunV.build rfl (by simp [go_sem]; try rfl)) rfl ?_
  refine SatL.op rfl (OpW.buildSlice (vs := [.agg #[.func (.func 25) #[] #[.pointer (some ⟨b4, 0, none⟩)], .int .i64 2], .agg #[.func (.func 27) #[] #[.pointer (some ⟨b5, 0, none⟩), .pointer (some ⟨b3, 0, none⟩)], .int .i64 51]]) hS rfl rfl rfl rfl rfl rfl (by simp [Value.cells]) rfl rfl ?_)
  clear hS
  intro b15 w4 _ hS
  refine SatL.op rfl (OpW.enter rfl rfl rfl (rfl) (may_any (qs := [⟨25, [.pointer (some ⟨b4, 0, none⟩)], 2, decide (0 ≤ n ∧ n < 4)⟩, ⟨27, [.pointer (some ⟨b5, 0, none⟩), .pointer (some ⟨b3, 0, none⟩)], 51, decide ((bs.length : Int) ≤ room - usedF fs)⟩]) h4 (by
    intro q hq
    simp only [List.mem_cons, List.not_mem_nil, or_false] at hq
    rcases hq with rfl | rfl
    · exact ⟨by rfl, fun W' h => ask_there ((hS.callN h).ownT (A := [(b4, C 3 [.int .i64 n])]) (by repeat constructor))⟩
    · exact ⟨by rfl, fun W' h => ask_fits hv hvm h4 hvf hroom (by omega) ((hS.callN h).ownT (A := [(b5, C 22 [v]), (b3, C 24 [.pointer (some ⟨b, 0, none⟩)]), (b, C 53 (dcs room fuse down fs))]) (by repeat constructor))⟩)
    (Sl.qs2 _ _ b15) (by simp) (hS.ownT (A := [(b15, C 61 [.func (.func 25) #[] #[.pointer (some ⟨b4, 0, none⟩)], .int .i64 2, .func (.func 27) #[] #[.pointer (some ⟨b5, 0, none⟩), .pointer (some ⟨b3, 0, none⟩)], .int .i64 51]), (b, C 53 (dcs room fuse down fs))]) (by repeat constructor))) ?_)
  rintro r5 w5 ⟨rfl, h⟩
  replace hS := St.callN hS h
  refine SatL.pu (RunV.assign rfl) rfl ?_
  refine SatL.nil (SatE.thenC ?_)
  refine SatC.seq ?_
  refine SatC.seq ?_
  refine SatC.region ?_
  refine SatL.pu (RunV.move rfl) rfl ?_
  refine SatL.pu (RunV.neq rfl rfl) rfl ?_
  refine SatL.nil (SatE.thenC ?_)
  refine SatC.cond rfl (fun h1 => ?_) (fun h1 => ?_)
  · (try simp only [cx, ne_eq] at h1)
    try (exfalso; (first | omega | exact h1 trivial | contradiction | (simp at h1; done)); done)
    all_goals
    refine SatC.seq ?_
    refine SatC.weak (e' := [(6, _), (7, _)]) (by repeat constructor) ?_
    refine SatC.region ?_
    refine SatL.pu (RunV.move rfl) rfl ?_
    refine SatL.pu (RunV.assign rfl) rfl ?_
    refine SatL.nil (SatE.thenC ?_)
    refine SatC.ret (SatE.then_ret ?_)
    refine SatE.ret1 rfl rfl ?_
    rw [hus] at *
    rw [app_no (d := ⟨room, fuse, down, fa⟩) (by assumption)]
    exact ⟨rfl, fs, ⟨hsl, hab⟩, hS.sel (by repeat constructor)⟩
  · (try simp only [cx, ne_eq] at h1)
    try (exfalso; (first | omega | exact h1 trivial | contradiction | (simp at h1; done)); done)
    all_goals
    refine SatC.skip (SatE.thenC ?_)
    refine SatC.seq ?_
    refine SatC.weak (e' := [(3, _), (4, _), (5, _), (6, _)]) (by repeat constructor) ?_
    obtain ⟨hdn, hn, hfit⟩ := mayE0_two (by assumption)
    obtain ⟨p, x, s, hfs, hp⟩ := split_at (l := fs) (n := n.toNat) (by omega)
    subst hfs
    have hxsl := hsl x (by simp)
    obtain ⟨xc, hxv⟩ := hxsl.slv
    rw [List.length_map] at hxv
    have hxl := used_mem (fs := p ++ x :: s) rfl
    simp only [PO, DO, dbl, List.flatMap_append, List.flatMap_cons, List.append_assoc, List.cons_append, List.nil_append] at hS
    refine SatC.drawnT 6 hS (hS) (by kernel_rfl) ?_
    clear hS
    intro w6 hh hS hD
    refine SatD.tk 0 rfl hD (fun _ hw => RunV.load1 hw rfl rfl (by repeat constructor) rfl) ?_
    refine SatD.tk 1 rfl hD (fun _ hw => RunV.load1 hw rfl rfl (by repeat constructor) rfl) ?_
    first | refine SatD.tk 2 rfl hD (fun _ hw => RunV.nil_ptr rfl) ?_ | refine SatD.tk 2 rfl hD (fun _ hw => RunV.nil_func rfl) ?_ | refine SatD.tk 2 rfl hD (fun _ hw => RunV.nil_yield rfl) ?_
    first | refine SatD.tk 3 rfl hD (fun _ hw => RunV.fieldAddrL rfl rfl rfl) ?_ | refine SatD.tk 3 rfl hD (fun _ hw => RunV.fieldAddr rfl rfl rfl) ?_
    refine SatD.tk 4 rfl hD (fun _ hw => RunV.indexA rfl rfl rfl (by omega) (by omega) rfl) ?_
    refine SatD.tk 5 rfl hD (fun _ hw => RunV.assign rfl) ?_
    refine SatD.done 0 (by kernel_rfl) (SatE.thenC ?_)
    clear hD
    refine SatC.seq ?_
    refine SatC.drawnT 10 hS (hS) (by kernel_rfl) ?_
    clear hS
    intro w7 hh hS hD
    refine SatD.tk 0 rfl hD (fun _ hw => RunV.move rfl) ?_
    first | refine SatD.tk 1 rfl hD (fun _ hw => RunV.nil_ptr rfl) ?_ | refine SatD.tk 1 rfl hD (fun _ hw => RunV.nil_func rfl) ?_ | refine SatD.tk 1 rfl hD (fun _ hw => RunV.nil_yield rfl) ?_
    first | refine SatD.tk 2 rfl hD (fun _ hw => RunV.fieldAddrL rfl rfl rfl) ?_ | refine SatD.tk 2 rfl hD (fun _ hw => RunV.fieldAddr rfl rfl rfl) ?_
    refine SatD.tk 3 rfl hD (fun _ hw => RunV.load1 hw rfl rfl (by repeat constructor) (dget (j := 0) (by omega) rfl)) ?_
    first | refine SatD.tk 4 rfl hD (fun _ hw => RunV.lenR (by assumption) rfl rfl) ?_ | refine SatD.tk 4 rfl hD (fun _ hw => RunV.lenS rfl rfl) ?_
    refine SatD.tk 5 rfl hD (fun _ hw => RunV.load1 hw rfl rfl (by repeat constructor) rfl) ?_
    first | refine SatD.tk 6 rfl hD (fun _ hw => RunV.lenR (by assumption) rfl rfl) ?_ | refine SatD.tk 6 rfl hD (fun _ hw => RunV.lenS rfl rfl) ?_
    refine SatD.tk 7 rfl hD (fun _ hw => RunV.add (r := ((x.b.length + bs.length : Nat) : Int)) rfl rfl (by rw [wrapI64 (by omega)]; omega)) ?_
    refine SatD.ef 8 rfl (OpW.makeSlice (n := x.b.length + bs.length) hS rfl rfl rfl rfl rfl rfl (.one rfl) rfl rfl (by omega) (by omega) ?_)
    clear hS
    intro v33 b33 w8 _ hv33 hsl33 hS
    subst hv33
    have hsv33 : SlV (.slice (some ⟨b33, 0, none⟩) (x.b.length + bs.length) (x.b.length + bs.length)) b33 0 (x.b.length + bs.length) (x.b.length + bs.length) := ⟨⟨_, rfl, fun _ => rfl⟩, Nat.le_refl _⟩
    simp only [List.cons_append, List.nil_append] at hS
    refine keepS (hS.sel (by repeat constructor)) (fun hD => ?_)
    refine SatD.tk 9 rfl hD (fun _ hw => RunV.assign rfl) ?_
    refine SatD.done 0 (by kernel_rfl) (SatE.thenC ?_)
    clear hD
    refine SatC.seq ?_
    refine SatC.weak (e' := [(3, _), (5, _), (6, _), (8, _), (9, _)]) (by repeat constructor) ?_
    refine SatC.drawnT 9 hS (hS.sel (R := (b3, C 24 [.pointer (some ⟨b, 0, none⟩)]) :: (b4, C 3 [.int .i64 n]) :: (b5, C 22 [v]) :: (b, C 53 (dcs room fuse down (p ++ x :: s))) :: []) (by repeat constructor)) (by kernel_rfl) ?_
    clear hS
    intro w9 hh hS hD
    refine SatD.tkp 0 rfl [7] hD (fun _ hw => RunV.move rfl) ?_
    refine SatD.tkp 1 rfl [6] hD (fun _ hw => RunV.move rfl) ?_
    refine SatD.tkp 2 rfl [6, 5, 4, 3] hD (fun _ hw => RunV.move rfl) ?_
    first | refine SatD.tkp 3 rfl [6, 5, 4] hD (fun _ hw => RunV.nil_ptr rfl) ?_ | refine SatD.tkp 3 rfl [6, 5, 4] hD (fun _ hw => RunV.nil_func rfl) ?_ | refine SatD.tkp 3 rfl [6, 5, 4] hD (fun _ hw => RunV.nil_yield rfl) ?_
    first | refine SatD.tkp 4 rfl [6, 5] hD (fun _ hw => RunV.fieldAddrL rfl rfl rfl) ?_ | refine SatD.tkp 4 rfl [6, 5] hD (fun _ hw => RunV.fieldAddr rfl rfl rfl) ?_
    refine SatD.tkp 5 rfl [6] hD (fun _ hw => RunV.load1 hw rfl rfl (by repeat constructor) (dget (j := 0) (by omega) rfl)) ?_
    refine SatD.tk 8 rfl hD (fun _ hw => RunV.load1 hw rfl rfl (by repeat constructor) rfl) ?_
    refine SatD.ef 6 rfl (OpW.copySl (i := 0) hsl33 hS (by repeat constructor) (by rw [hsl33.blk_of]; exact hsv33) (by simp) hxv (hxsl.rd hS (by repeat constructor)) (List.length_map _) rfl rfl rfl rfl rfl (by1c_one' _) rfl ?_)
    clear hS
    intro B40 w10 hsl40 hS
    rw [copy_fst rfl] at hsl40
    rw [show min x.b.length (x.b.length + bs.length) = x.b.length from by omega]
    have hcv := SlV.cutV 1 hsv33 (show x.b.length ≤ x.b.length + bs.length by omega) (Nat.le_refl _)
    rw [Nat.add_sub_cancel_left, Nat.zero_add] at hcv
    obtain ⟨vb2, vo2, vc2, hv2, _, hc2, _⟩ := (hr _ (hS.sel .nil)).open
    rw [List.length_map] at hv2
    refine keepS (hS.sel (by repeat constructor)) (fun hD => ?_)
    refine SatD.tk 7 rfl hD (fun _ hw => RunV.cutLv hsv33 rfl rfl rfl rfl (by omega) (by omega)) ?_
    refine SatD.effF (by kernel_rfl) rfl rfl (OpW.copySl (i := x.b.length) hsl40 hS (by repeat constructor) (by rw [hsl40.blk_of]; exact hcv) (by simp) hv2 hc2 (List.length_map _) rfl rfl rfl rfl rfl (by1c_one' _) rfl ?_)
    clear hS
    intro B43 w11 hsl43 hS
    rw [copy_snd rfl rfl _ (by simp)] at hsl43
    refine SatD.done 0 (by kernel_rfl) (SatE.thenC ?_)
    clear hD
    refine SatC.seq ?_
    refine SatC.region ?_
    refine SatL.pu (RunV.move rfl) rfl ?_
    refine SatL.pu (RunV.move rfl) rfl ?_
    first | refine SatL.pu (RunV.nil_ptr rfl) rfl ?_ | refine SatL.pu (RunV.nil_func rfl) rfl ?_ | refine SatL.pu (RunV.nil_yield rfl) rfl ?_
    first | refine SatL.pu (RunV.fieldAddrL rfl rfl rfl) rfl ?_ | refine SatL.pu (RunV.fieldAddr rfl rfl rfl) rfl ?_
    refine SatL.op rfl (OpW.storeAt (T := 53) (cs := dcs room fuse down (p ++ x :: s)) hS rfl rfl (by rw [dcs_len h4]; omega) (dset (y := ⟨.slice (some ⟨b33, 0, none⟩) (x.b.length + bs.length) (x.b.length + bs.length), x.b ++ bs, x.s, B43⟩) (j := 0) (by omega) (by decide) rfl) (by repeat constructor) rfl rfl ?_)
    clear hS
    intro w12 hS
    refine SatL.nil (SatE.thenC ?_)
    refine SatC.seq ?_
    refine SatC.seq ?_
    refine SatC.weak (e' := [(3, _), (6, _)]) (by repeat constructor) ?_
    refine SatC.region ?_
    refine SatL.pu (RunV.load1 hS rfl rfl (by repeat constructor) rfl) rfl ?_
    refine SatL.op rfl (OpW.enter rfl rfl rfl (rfl) (burns_any (fs := p ++ ⟨.slice (some ⟨b33, 0, none⟩) (x.b.length + bs.length) (x.b.length + bs.length), x.b ++ bs, x.s, B43⟩ :: s) (by simpa using h4) hfu.1 hfu.2 (hS.ownT (A := [(b, C 53 (dcs room fuse down (p ++ ⟨.slice (some ⟨b33, 0, none⟩) (x.b.length + bs.length) (x.b.length + bs.length), x.b ++ bs, x.s, B43⟩ :: s)))]) (by repeat constructor))) ?_)
    rintro r13 w13 ⟨rfl, h⟩
    replace hS := hS.callT (A := [(b, C 53 (dcs room fuse down (p ++ ⟨.slice (some ⟨b33, 0, none⟩) (x.b.length + bs.length) (x.b.length + bs.length), x.b ++ bs, x.s, B43⟩ :: s)))]) (by repeat constructor) h
    refine SatL.nil (SatE.thenC ?_)
    refine SatC.cond rfl (fun h2 => ?_) (fun h2 => ?_)
    · (try simp only [cx, ne_eq] at h2)
      try (exfalso; (first | omega | exact h2 trivial | contradiction | (simp at h2; done)); done)
      all_goals
      refine SatC.seq ?_
      refine SatC.region ?_
      refine SatL.pu (RunV.assign rfl) rfl ?_
      refine SatL.nil (SatE.thenC ?_)
      refine SatC.ret (SatE.then_ret ?_)
      refine SatE.ret1 rfl rfl ?_
      rw [app_yes (d := ⟨room, fuse, down, fa⟩) hdn hn (by rw [← hus]; exact hfit)]
      refine ⟨congrArg (Value.int .i64) ?_, p ++ ⟨.slice (some ⟨b33, 0, none⟩) (x.b.length + bs.length) (x.b.length + bs.length), x.b ++ bs, x.s, B43⟩ :: s, ⟨hsl.upd (by simpa using hsl43), by rw [← hab]; exact ab_upd hp rfl⟩, ?_⟩
      · first | rw [if_pos (by assumption)] | rw [if_neg (by assumption)]
      · simp only [PO, DO, burnD, dbl, List.flatMap_append, List.flatMap_cons, List.append_assoc, List.cons_append, List.nil_append]
        exact hS.sel (by repeat constructor)
    · (try simp only [cx, ne_eq] at h2)
      try (exfalso; (first | omega | exact h2 trivial | contradiction | (simp at h2; done)); done)
      all_goals
      refine SatC.skip (SatE.thenC ?_)
      refine SatC.seq ?_
      refine SatC.region ?_
      refine SatL.pu (RunV.assign rfl) rfl ?_
      refine SatL.nil (SatE.thenC ?_)
      refine SatC.ret ?_
      refine SatE.ret1 rfl rfl ?_
      rw [app_yes (d := ⟨room, fuse, down, fa⟩) hdn hn (by rw [← hus]; exact hfit)]
      refine ⟨congrArg (Value.int .i64) ?_, p ++ ⟨.slice (some ⟨b33, 0, none⟩) (x.b.length + bs.length) (x.b.length + bs.length), x.b ++ bs, x.s, B43⟩ :: s, ⟨hsl.upd (by simpa using hsl43), by rw [← hab]; exact ab_upd hp rfl⟩, ?_⟩
      · first | rw [if_pos (by assumption)] | rw [if_neg (by assumption)]
      · simp only [PO, DO, burnD, dbl, List.flatMap_append, List.flatMap_cons, List.append_assoc, List.cons_append, List.nil_append]
        exact hS.sel (by repeat constructor)
end
end Go.Proofs.Ytahholhggohbnaa
