/- The flight: packets with bodies of their own; none, count, the pick, a packet's clone, the number that is given. -/
import Derived.Test.YtpnkcoahbadnjaaProg
import Derived.Test.YtpnkcoahbadnjaaK22
import Derived.Test.YtpnkcoahbadnjaaK26
set_option linter.unusedSimpArgs false
set_option linter.unusedVariables false
set_option maxRecDepth 100000
set_option maxHeartbeats 4000000
namespace Go.Proofs.Ytpnkcoahbadnjaa
open Go.RowKit
/-- A packet in flight; v is where its body lies. -/
structure Fl where
  id : Int
  f : Int
  t : Int
  v : Value
  b : List UInt8
@[reducible] def fr (x : Fl) : List Value := [.int .i64 x.id, .int .i64 x.f, .int .i64 x.t, x.v]
/-- A body that lies in blocks of one's own. -/
def Bd (D : List (Nat × Obj)) (v : Value) (bs : List UInt8) : Prop := ∃ B, Sl 5 1 v (bs.map by1c) B ∧ ∀ c ∈ B, c ∈ D
theorem Bd.mono {D D' : List (Nat × Obj)} {v : Value} {bs : List UInt8} (h : Bd D v bs) (hd : ∀ c ∈ D, c ∈ D') : Bd D' v bs := by
  obtain ⟨B, h1, h2⟩ := h
  exact ⟨B, h1, fun c hc => hd c (h2 c hc)⟩
theorem Bd.one {D : List (Nat × Obj)} {v : Value} {bs : List UInt8} (h : Bd D v bs) : v.oneCell' = true := by
  obtain ⟨B, h1, _⟩ := h
  exact h1.one
theorem Bd.row {D : List (Nat × Obj)} {v : Value} {bs : List UInt8} {w : World} (h : Bd D v bs) (hD : ∀ c ∈ D, w.heap[c.1]? = some c.2) (hl : bs.length ≤ 9223372036854775807) : RdRow w v 1 (bs.map by1c) := by
  obtain ⟨B, h1, h2⟩ := h
  have hown : Own w B := ⟨fun c hc => hD c (h2 c hc), by generalize bs.map by1c = rows at h1; cases h1 <;> simp⟩
  exact h1.row (L' := []) (St.init hown) .all (by rw [List.length_map]; exact hl)
def AllBd (D : List (Nat × Obj)) (l : List Fl) : Prop := ∀ x ∈ l, Bd D x.v x.b ∧ x.b.length ≤ 1400
/-- What the flight has. -/
@[reducible] def FO (b : Nat) (v : Value) (most given : Int) (B D : List (Nat × Obj)) : List (Nat × Obj) := (b, C 59 [v, .int .i64 most, .int .i64 given]) :: (B ++ D)
theorem by1c_one (bs : List UInt8) : ∀ r ∈ bs.map by1c, ∀ u ∈ r, u.oneCell' = true := by
  intro r hr u hu
  obtain ⟨c, _, rfl⟩ := List.mem_map.1 hr
  simp only [by1c, List.mem_singleton] at hu
  subst hu
  rfl
theorem fnew_any (n : Int) (w : World) : Ret Try.prog 7 #[.int .i64 n] w fun u w' => ∃ b, u = .pointer (some ⟨b, 0, none⟩) ∧ St w [] (FO b (.slice none 0 0) (min (max n 1) 256) 0 [] []) w' := by
  have hS := St.init0 w
  refine Ret.enter Try.func7 Try.ntmps7 rfl rfl ?_
  simp only [argEnv, Nat.reduceAdd]
  refine SatC.seq ?_
  refine SatC.region ?_
  refine SatL.pu (RunV.assign rfl) rfl ?_
  refine SatL.nil (SatE.thenC ?_)
  refine SatC.seq ?_
  refine SatC.region ?_
  refine SatL.pu (RunV.move rfl) rfl ?_
  refine SatL.pu (RunV.max2 rfl rfl) rfl ?_
  refine SatL.pu (RunV.min2 rfl rfl) rfl ?_
  refine SatL.pu (RunV.build rfl (by simp [go_sem]; try rfl)) rfl ?_
  refine SatL.op rfl (OpW.box hS rfl rfl (by repeat constructor) ?_)
  clear hS
  intro b7 w1 _ hS
  refine SatL.pu (RunV.assign rfl) rfl ?_
  refine SatL.nil (SatE.thenC ?_)
  refine SatC.ret ?_
  refine SatE.ret1 rfl rfl ?_
  exact ⟨_, rfl, hS⟩
section
variable {b : Nat} {v : Value} {most given : Int} {B D : List (Nat × Obj)} {l : List Fl} {w : World}
theorem fnone_any (hm : ¬ most = 0) (hown : Own w (FO b v most given B D)) : Ret Try.prog 21 #[.pointer (some ⟨b, 0, none⟩)] w fun u w' => u = .bool false ∧ St w [] [] w' := by
  have hS := St.init hown
  simp only [List.map_cons, List.map_nil] at hS
  refine Ret.enter Try.func21 Try.ntmps21 rfl rfl ?_
  simp only [argEnv, Nat.reduceAdd]
  refine SatC.seq ?_
  refine SatC.region ?_
  refine SatL.pu (RunV.assign rfl) rfl ?_
  refine SatL.nil (SatE.thenC ?_)
  refine SatC.seq ?_
  refine SatC.region ?_
  refine SatL.pu (RunV.move rfl) rfl ?_
  refine SatL.pu (RunV.eqlPtrNil rfl rfl rfl) rfl ?_
  refine SatL.pu (RunV.move rfl) rfl ?_
  refine SatL.guard rfl rfl rfl (fun h1 => ?_) (fun h1 => ?_)
  · (try simp only [cx, ne_eq] at h1)
    try (exfalso; (first | omega | exact h1 trivial | contradiction); done)
    all_goals
    refine SatL.pu (RunV.move rfl) rfl ?_
    refine SatL.guard_y rfl rfl ?_
    first | refine SatL.pu (RunV.nil_ptr rfl) rfl ?_ | refine SatL.pu (RunV.nil_func rfl) rfl ?_ | refine SatL.pu (RunV.nil_yield rfl) rfl ?_
    refine SatL.guard_y rfl rfl ?_
    first | refine SatL.pu (RunV.fieldAddrL rfl rfl rfl) rfl ?_ | refine SatL.pu (RunV.fieldAddr rfl rfl rfl) rfl ?_
    refine SatL.guard_y rfl rfl ?_
    refine SatL.pu (RunV.load1 hS rfl rfl (by repeat constructor) rfl) rfl ?_
    refine SatL.guard_y rfl rfl ?_
    refine SatL.pu (RunV.eql rfl rfl) rfl ?_
    refine SatL.pu (RunV.pick_f rfl rfl) rfl ?_
    refine SatL.pu (RunV.assign rfl) rfl ?_
    refine SatL.nil (SatE.thenC ?_)
    refine SatC.ret ?_
    refine SatE.ret1 rfl rfl ?_
    exact ⟨by simp_all, St.ro hown hS (by repeat constructor)⟩
  · (try simp only [cx, ne_eq] at h1)
    try (exfalso; (first | omega | exact h1 trivial | contradiction); done)
    all_goals
    refine SatL.guard_n rfl rfl rfl rfl ?_
    refine SatL.guard_n rfl rfl rfl rfl ?_
    refine SatL.guard_n rfl rfl rfl rfl ?_
    refine SatL.guard_n rfl rfl rfl rfl ?_
    refine SatL.pu (RunV.pick_t rfl rfl) rfl ?_
    refine SatL.pu (RunV.assign rfl) rfl ?_
    refine SatL.nil (SatE.thenC ?_)
    refine SatC.ret ?_
    refine SatE.ret1 rfl rfl ?_
    exact ⟨by simp_all, St.ro hown hS (by repeat constructor)⟩
theorem count_any (hsl : Sl 32 4 v (l.map fr) B) (hown : Own w (FO b v most given B D)) : Ret Try.prog 22 #[.pointer (some ⟨b, 0, none⟩)] w fun u w' => u = .int .i64 (l.length : Int) ∧ St w [] [] w' := by
  have hS := St.init hown
  obtain ⟨c0, hv0⟩ := hsl.slv
  simp only [List.length_map] at hv0
  simp only [List.map_cons, List.map_nil] at hS
  refine Ret.enter Try.func22 Try.ntmps22 rfl rfl ?_
  simp only [argEnv, Nat.reduceAdd]
  refine SatC.seq ?_
  refine SatC.region ?_
  refine SatL.pu (RunV.assign rfl) rfl ?_
  refine SatL.nil (SatE.thenC ?_)
  refine SatC.seq ?_
  refine SatC.region ?_
  refine SatL.pu (RunV.move rfl) rfl ?_
  first | refine SatL.pu (RunV.nil_ptr rfl) rfl ?_ | refine SatL.pu (RunV.nil_func rfl) rfl ?_ | refine SatL.pu (RunV.nil_yield rfl) rfl ?_
  first | refine SatL.pu (RunV.fieldAddrL rfl rfl rfl) rfl ?_ | refine SatL.pu (RunV.fieldAddr rfl rfl rfl) rfl ?_
  refine SatL.pu (RunV.load1 hS rfl rfl (by repeat constructor) rfl) rfl ?_
  first | refine SatL.pu (RunV.lenR (by assumption) rfl rfl) rfl ?_ | refine SatL.pu (RunV.lenS rfl rfl) rfl ?_
  refine SatL.pu (RunV.assign rfl) rfl ?_
  refine SatL.nil (SatE.thenC ?_)
  refine SatC.ret ?_
  refine SatE.ret1 rfl rfl ?_
  exact ⟨rfl, St.ro hown hS (by repeat constructor)⟩
def pickF (n k : Int) : Int := ((k.tmod n) + n).tmod n
theorem picked_any (k : Int) (hl : l.length ≤ 100000) (hsl : Sl 32 4 v (l.map fr) B) (hown : Own w (FO b v most given B D)) : Ret Try.prog 25 #[.pointer (some ⟨b, 0, none⟩), .int .i64 k] w fun u w' => u = .tuple #[.int .i64 (if l = [] then 0 else pickF l.length k), .bool (!decide (l = []))] ∧ St w [] [] w' := by
  have hS := St.init hown
  obtain ⟨c0, hv0⟩ := hsl.slv
  simp only [List.length_map] at hv0
  simp only [List.map_cons, List.map_nil] at hS
  refine Ret.enter Try.func25 Try.ntmps25 rfl rfl ?_
  simp only [argEnv, Nat.reduceAdd]
  refine SatC.seq ?_
  refine SatC.region ?_
  refine SatL.pu (RunV.assign rfl) rfl ?_
  refine SatL.pu (RunV.assign rfl) rfl ?_
  refine SatL.nil (SatE.thenC ?_)
  refine SatC.seq ?_
  refine SatC.region ?_
  refine SatL.pu (RunV.move rfl) rfl ?_
  first | refine SatL.pu (RunV.nil_ptr rfl) rfl ?_ | refine SatL.pu (RunV.nil_func rfl) rfl ?_ | refine SatL.pu (RunV.nil_yield rfl) rfl ?_
  first | refine SatL.pu (RunV.fieldAddrL rfl rfl rfl) rfl ?_ | refine SatL.pu (RunV.fieldAddr rfl rfl rfl) rfl ?_
  refine SatL.pu (RunV.load1 hS rfl rfl (by repeat constructor) rfl) rfl ?_
  first | refine SatL.pu (RunV.lenR (by assumption) rfl rfl) rfl ?_ | refine SatL.pu (RunV.lenS rfl rfl) rfl ?_
  refine SatL.pu (RunV.assign rfl) rfl ?_
  refine SatL.nil (SatE.thenC ?_)
  refine SatC.seq ?_
  refine SatC.seq ?_
  refine SatC.region ?_
  refine SatL.pu (RunV.move rfl) rfl ?_
  refine SatL.pu (RunV.eql rfl rfl) rfl ?_
  refine SatL.nil (SatE.thenC ?_)
  refine SatC.cond rfl (fun h1 => ?_) (fun h1 => ?_)
  · (try simp only [cx, ne_eq] at h1)
    try (exfalso; (first | omega | exact h1 trivial | contradiction); done)
    all_goals
    refine SatC.seq ?_
    refine SatC.region ?_
    refine SatL.pu (RunV.assign rfl) rfl ?_
    refine SatL.pu (RunV.assign rfl) rfl ?_
    refine SatL.nil (SatE.thenC ?_)
    refine SatC.ret (SatE.then_ret ?_)
    refine SatE.ret2 rfl rfl rfl ?_
    have : l = [] := List.length_eq_zero_iff.1 (by omega)
    subst this
    exact ⟨rfl, St.ro hown hS (by repeat constructor)⟩
  · (try simp only [cx, ne_eq] at h1)
    try (exfalso; (first | omega | exact h1 trivial | contradiction); done)
    all_goals
    refine SatC.skip (SatE.thenC ?_)
    refine SatC.seq ?_
    have hn0 : 0 < (l.length : Int) := by omega
    have hb1 := Int.tmod_lt_of_pos k hn0
    have hb2 := Int.lt_tmod_of_pos k hn0
    refine SatC.region ?_
    refine SatL.pu (RunV.move rfl) rfl ?_
    refine SatL.pu (RunV.move rfl) rfl ?_
    refine SatL.pu (RunV.rem rfl rfl (by first | decide | omega) rfl) rfl ?_
    refine SatL.pu (RunV.move rfl) rfl ?_
    refine SatL.pu (RunV.add rfl rfl (wrapI64 (by omega))) rfl ?_
    refine SatL.pu (RunV.move rfl) rfl ?_
    refine SatL.pu (RunV.rem rfl rfl (by first | decide | omega) rfl) rfl ?_
    refine SatL.pu (RunV.assign rfl) rfl ?_
    refine SatL.pu (RunV.assign rfl) rfl ?_
    refine SatL.nil (SatE.thenC ?_)
    refine SatC.ret ?_
    refine SatE.ret2 rfl rfl rfl ?_
    have : ¬ l = [] := fun e => by subst e; simp at h1
    rw [if_neg this]
    exact ⟨by unfold pickF; simp_all, St.ro hown hS (by repeat constructor)⟩
theorem clone_any (f t : Int) (pv : Value) (bs : List UInt8) (hr : RdRow w pv 1 (bs.map by1c)) (hl : bs.length ≤ 1400) : Ret Try.prog 24 #[.agg #[.int .i64 f, .int .i64 t, pv]] w fun u w' => ∃ v' B', u = .agg #[.int .i64 f, .int .i64 t, v'] ∧ Sl 5 1 v' (bs.map by1c) B' ∧ St w [] B' w' := by
  have hS := St.init0 w
  obtain ⟨bl, ol, cl, hvl, hmaxl, hcl, hltl⟩ := hr.open
  have h1p : pv.oneCell' = true := by obtain ⟨A, _, rfl, _⟩ := hr; rfl
  simp only [List.length_map] at hvl hmaxl hltl
  refine Ret.enter Try.func24 Try.ntmps24 rfl rfl ?_
  simp only [argEnv, Nat.reduceAdd]
  refine SatC.seq ?_
  refine SatC.region ?_
  refine SatL.op rfl (OpW.box hS rfl rfl (by repeat constructor) ?_)
  clear hS
  intro b1 w1 _ hS
  refine SatL.op rfl (OpW.alloc hS rfl rfl (by repeat constructor) ?_)
  clear hS
  intro b2 w2 _ hS
  refine SatL.nil (SatE.thenC ?_)
  refine SatC.seq ?_
  refine SatC.region ?_
  refine SatL.op rfl (OpW.buildSlice0 hS rfl rfl rfl ?_)
  clear hS
  intro v3 b3 w3 _ hsl3 hv3 hS
  first | refine SatL.pu (RunV.fieldAddrL rfl rfl rfl) rfl ?_ | refine SatL.pu (RunV.fieldAddr rfl rfl rfl) rfl ?_
  refine SatL.pu (RunV.load1 hS rfl rfl (by repeat constructor) rfl) rfl ?_
  refine SatL.op rfl (OpW.appendB (news := bs.map by1c) hsl3 hS (by repeat constructor) hvl (hcl.st hS List.not_mem_nil) (by rw [List.length_map]) rfl rfl rfl rfl rfl rfl rfl (by1c_one _) (by simp only [List.length_nil]; omega) (by simp only [List.length_nil]; omega) rfl ?_)
  clear hS
  intro v6 B6 w4 hsl6 hS
  rw [List.nil_append] at hsl6
  first | refine SatL.pu (RunV.fieldAddrL rfl rfl rfl) rfl ?_ | refine SatL.pu (RunV.fieldAddr rfl rfl rfl) rfl ?_
  refine SatL.op rfl (OpW.storeSv hS rfl rfl (by assumption) (by repeat constructor) (by repeat constructor) rfl ?_)
  clear hS
  intro w5 hS
  refine SatL.nil (SatE.thenC ?_)
  refine SatC.seq ?_
  refine SatC.region ?_
  refine SatL.pu (RunV.loadN hS rfl rfl (by repeat constructor) (by repeat constructor)) rfl ?_
  refine SatL.op rfl (OpW.store hS rfl rfl (by repeat constructor) (by repeat constructor) (by repeat constructor) rfl (by simp only [List.all_cons, List.all_nil, hsl6.one, Bool.and_true]; rfl) ?_)
  clear hS
  intro w6 hS
  refine SatL.nil (SatE.thenC ?_)
  refine SatC.ret ?_
  refine SatE.retG1 hS rfl (.cellN rfl rfl (by repeat constructor) (by repeat constructor)) ?_
  exact ⟨v6, B6, rfl, hsl6, hS.sel (by repeat constructor)⟩
end
end Go.Proofs.Ytpnkcoahbadnjaa
