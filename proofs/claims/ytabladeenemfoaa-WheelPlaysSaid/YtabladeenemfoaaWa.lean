/- The wheel: three rims of places; none, New, where. -/
import Derived.Test.YtabladeenemfoaaProg
import Derived.Test.YtabladeenemfoaaChecked
import Derived.Test.YtabladeenemfoaaK22
import Derived.Test.YtabladeenemfoaaK27
import Derived.Test.YtabladeenemfoaaK29
import Derived.Test.YtabladeenemfoaaK30
import Derived.Test.YtabladeenemfoaaK31
import Derived.Test.YtabladeenemfoaaSti
set_option linter.unusedSimpArgs false
set_option linter.unusedVariables false
set_option maxRecDepth 100000
set_option maxHeartbeats 4000000
namespace Go.Proofs.Ytabladeenemfoaa
open Go.RowKit
/-- A place: where its numbers lie, the numbers, their blocks. -/
structure Pl where
  v : Value
  l : List Int
  B : List (Nat × Obj)
@[reducible] def plr (x : Pl) : List Value := [x.v]
theorem plr_len (x : Pl) : (plr x).length = 1 := rfl
def wcs (now m : Nat) (hs : List Pl) : List Value := [.int .i64 (now : Int), .map (some m)] ++ (hs.flatMap plr ++ [])
@[reducible] def hbl (hs : List Pl) : List (Nat × Obj) := hs.flatMap (·.B)
def zpl : Pl := ⟨.slice none 0 0, [], []⟩
/-- A timer: its number, when it is due, at which rim and place it hangs. -/
structure Tm where
  id : Int
  due : Nat
  rim : Nat
  at_ : Nat
@[reducible] def tkv (t : Tm) : Int × Value := (t.id, .agg #[.int .i64 (t.due : Int), .int .i64 (t.rim : Int), .int .i64 (t.at_ : Int)])
abbrev encI : Int → Value := fun n => Value.int .i64 n
section
variable {now m : Nat} {hs p s : List Pl} {x : Pl}
theorem wcs_len (h : hs.length = 192) : (wcs now m hs).length = 194 := by
  unfold wcs
  rw [List.length_append, List.length_append, slots_len plr_len, h]; rfl
theorem wget {o : Nat} (ho : o = 2 + p.length) : (wcs now m (p ++ x :: s))[o]? = some x.v := slots_get (j := 0) plr_len (by subst ho; simp) rfl
theorem wset {o : Nat} {y : Pl} (ho : o = 2 + p.length) : (wcs now m (p ++ x :: s)).set o y.v = wcs now m (p ++ y :: s) := slots_setj (j := 0) plr_len (by subst ho; simp) (by decide) rfl
end
def wrim (now due : Nat) : Nat := if due / 64 = now / 64 then 0 else if due / 4096 = now / 4096 then 1 else 2
def wat (now due : Nat) : Nat := due / 2 ^ (6 * wrim now due) % 64
theorem wnew_any (w : World) : Ret Try.prog 7 #[] w fun u w' => ∃ b m mo, u = .pointer (some ⟨b, 0, none⟩) ∧ Mp encI mo [] ∧ St w [] [(b, C 48 (wcs 0 m (List.replicate 192 zpl))), (m, mo)] w' := by
  have hS := St.init0 w
  refine Ret.enter Try.func7 Try.ntmps7 rfl rfl ?_
  simp only [argEnv, Nat.reduceAdd]
  refine SatC.seq ?_
  refine SatC.region ?_
  refine SatL.pu (RunV.assign rfl) rfl ?_
  refine SatL.nil (SatE.thenC ?_)
  refine SatC.seq ?_
  refine SatC.region ?_
  refine SatL.op rfl (OpW.makeMapM encI hS rfl ?_)
  clear hS
  intro b1 o1 w1 _ hmp hS
  refine SatL.pu (RunV.build (v := .agg (wcs 0 b1 (List.replicate 192 zpl)).toArray) rfl (by kernel_rfl)) rfl ?_
  refine SatL.op rfl (OpW.box (cs := wcs 0 b1 (List.replicate 192 zpl)) hS rfl rfl .agg ?_)
  clear hS
  intro b3 w2 _ hS
  refine SatL.pu (RunV.assign rfl) rfl ?_
  refine SatL.nil (SatE.thenC ?_)
  refine SatC.ret ?_
  refine SatE.ret1 rfl rfl ?_
  exact ⟨b3, b1, o1, rfl, hmp, hS⟩
section
variable {b m now : Nat} {hs : List Pl} {w : World}
theorem wnone_any (hown : Own w [(b, C 48 (wcs now m hs))]) : Ret Try.prog 22 #[.pointer (some ⟨b, 0, none⟩)] w fun u w' => u = .bool false ∧ St w [] [] w' := by
  have hS := St.init hown
  simp only [List.map_cons, List.map_nil] at hS
  refine Ret.enter Try.func22 Try.ntmps22 rfl rfl ?_
  simp only [argEnv, Nat.reduceAdd]
  refine SatC.seq ?_
  refine SatC.region ?_
  refine SatL.pu (RunV.assign rfl) rfl ?_
  refine SatL.nil (SatE.thenC ?_)
  refine SatC.seq ?_
  refine SatC.region ?_
  refine SatL.pu (RunV.move rfl) rfl ?_
  refine SatL.pu (RunV.eqlPtrNil rfl rfl rfl) rfl ?_
  refine SatL.pu (RunV.move rfl) rfl ?_
  refine SatL.guard rfl rfl rfl (fun h1 => ?_) (fun h1 => ?_)
  · (try simp only [cx, ne_eq] at h1)
    try (exfalso; (first | omega | exact h1 trivial | contradiction | (first | omega | (simp at h1; done))); done)
    all_goals
    refine SatL.pu (RunV.move rfl) rfl ?_
    refine SatL.guard_y rfl rfl ?_
    first | refine SatL.pu (RunV.nil_ptr rfl) rfl ?_ | refine SatL.pu (RunV.nil_func rfl) rfl ?_ | refine SatL.pu (RunV.nil_yield rfl) rfl ?_
    refine SatL.guard_y rfl rfl ?_
    first | refine SatL.pu (RunV.fieldAddrL rfl rfl rfl) rfl ?_ | refine SatL.pu (RunV.fieldAddr rfl rfl rfl) rfl ?_
    refine SatL.guard_y rfl rfl ?_
    refine SatL.pu (RunV.load1 hS rfl rfl (by repeat constructor) rfl) rfl ?_
    refine SatL.guard_y rfl rfl ?_
    refine SatL.pu (RunV.eqlMapNil rfl rfl rfl) rfl ?_
    refine SatL.pu (RunV.pick_f rfl rfl) rfl ?_
    refine SatL.pu (RunV.assign rfl) rfl ?_
    refine SatL.nil (SatE.thenC ?_)
    refine SatC.ret ?_
    refine SatE.ret1 rfl rfl ?_
    exact ⟨by simp_all, St.ro hown hS (by repeat constructor)⟩
  · (try simp only [cx, ne_eq] at h1)
    try (exfalso; (first | omega | exact h1 trivial | contradiction | (first | omega | (simp at h1; done))); done)
    all_goals
    refine SatL.guard_n rfl rfl rfl rfl ?_
    refine SatL.guard_n rfl rfl rfl rfl ?_
    refine SatL.guard_n rfl rfl rfl rfl ?_
    refine SatL.guard_n rfl rfl rfl rfl ?_
    refine SatL.pu (RunV.pick_t rfl rfl) rfl ?_
    refine SatL.pu (RunV.assign rfl) rfl ?_
    refine SatL.nil (SatE.thenC ?_)
    refine SatC.ret ?_
    refine SatE.ret1 rfl rfl ?_
    exact ⟨by simp_all, St.ro hown hS (by repeat constructor)⟩
theorem where_any (due : Nat) (hn : now ≤ 1000000000) (hd : due ≤ 1000000000) (hown : Own w [(b, C 48 (wcs now m hs))]) : Ret Try.prog 32 #[.pointer (some ⟨b, 0, none⟩), .int .i64 (due : Int)] w fun u w' => u = .agg #[.int .i64 (wrim now due : Int), .int .i64 (wat now due : Int)] ∧ St w [] [] w' := by
  have hS := St.init hown
  have hro : ∀ {L w'}, St w [b] (L ++ [(b, C 48 (wcs now m hs))]) w' → St w [] L w' := fun h => St.roL hown (by simpa only [List.map_cons, List.map_nil] using h.perm List.perm_append_comm) .here
  simp only [List.map_cons, List.map_nil] at hS
  refine Ret.enter Try.func32 Try.ntmps32 rfl rfl ?_
  simp only [argEnv, Nat.reduceAdd]
  refine SatC.seq ?_
  refine SatC.region ?_
  refine SatL.op rfl (OpW.alloc hS rfl rfl (by repeat constructor) ?_)
  clear hS
  intro b4 w1 _ hS
  refine SatL.nil (SatE.thenC ?_)
  refine SatC.seq ?_
  refine SatC.region ?_
  refine SatL.pu (RunV.assign rfl) rfl ?_
  refine SatL.nil (SatE.thenC ?_)
  refine SatC.seq ?_
  refine SatC.block ?_
  refine SatC.loopK (G := Nat) (V := fun r => [(5, .int .i64 (r : Int))]) (Cn := [(0, _), (1, _), (4, _)]) (I := fun r w' => r ≤ 2 ∧ (∀ q, q < r → ¬ due / 2 ^ (6 * (q + 1)) = now / 2 ^ (6 * (q + 1))) ∧ St w [b] [(b4, C 57 [.int .i64 0, .int .i64 0]), (b, C 48 (wcs now m hs))] w') (μ := fun r => 2 - r) 0 ?_ (by repeat constructor) ?_
  · exact ⟨Nat.zero_le _, (fun q hq => by omega), hS⟩
  clear hS
  rintro r w2 ⟨hr2, hall, hS⟩
  refine SatC.weak (e' := [(0, _), (1, _), (4, _), (5, _)]) (by repeat constructor) ?_
  refine SatC.seq ?_
  refine SatC.seq ?_
  refine SatC.drawnT 18 hS (hS) (by kernel_rfl) ?_
  clear hS
  intro w3 hh hS hD
  refine SatD.tk 0 rfl hD (fun _ hw => RunV.move rfl) ?_
  refine SatD.tk 1 rfl hD (fun _ hw => RunV.lss rfl rfl) ?_
  refine SatD.tk 2 rfl hD (fun _ hw => RunV.move rfl) ?_
  refine SatD.ways 8 rfl (fun h1 => ?_) (fun h1 => ?_)
  · (try simp only [cx, ne_eq] at h1)
    try (exfalso; (first | omega | exact h1 trivial | contradiction | (first | omega | (simp at h1; done))); done)
    all_goals
    refine SatD.tk 3 rfl hD (fun _ hw => RunV.move rfl) ?_
    refine SatD.tk 4 rfl hD (fun _ hw => RunV.move rfl) ?_
    refine SatD.tk 5 rfl hD (fun _ hw => RunV.add rfl rfl (by first | exact wrapI64 (by omega) | rfl)) ?_
    refine SatD.tk 6 rfl hD (fun _ hw => RunV.mul rfl rfl (by first | exact wrapI64 (by omega) | rfl)) ?_
    refine SatD.tk 7 rfl hD (fun _ hw => RunV.shrN (n := 6 * (r + 1)) rfl rfl (by omega) (by omega)) ?_
    refine SatD.tk 8 rfl hD (fun _ hw => RunV.move rfl) ?_
    first | refine SatD.tk 9 rfl hD (fun _ hw => RunV.nil_ptr rfl) ?_ | refine SatD.tk 9 rfl hD (fun _ hw => RunV.nil_func rfl) ?_ | refine SatD.tk 9 rfl hD (fun _ hw => RunV.nil_yield rfl) ?_
    first | refine SatD.tk 10 rfl hD (fun _ hw => RunV.fieldAddrL rfl rfl rfl) ?_ | refine SatD.tk 10 rfl hD (fun _ hw => RunV.fieldAddr rfl rfl rfl) ?_
    refine SatD.tk 11 rfl hD (fun _ hw => RunV.load1 hw rfl rfl (by repeat constructor) rfl) ?_
    refine SatD.tk 12 rfl hD (fun _ hw => RunV.move rfl) ?_
    refine SatD.tk 13 rfl hD (fun _ hw => RunV.add rfl rfl (by first | exact wrapI64 (by omega) | rfl)) ?_
    refine SatD.tk 14 rfl hD (fun _ hw => RunV.mul rfl rfl (by first | exact wrapI64 (by omega) | rfl)) ?_
    refine SatD.tk 15 rfl hD (fun _ hw => RunV.shrN (n := 6 * (r + 1)) rfl rfl (by omega) (by omega)) ?_
    refine SatD.tk 16 rfl hD (fun _ hw => RunV.neq rfl rfl) ?_
    refine SatD.tk 17 rfl hD (fun _ hw => RunV.pick_t rfl rfl) ?_
    refine SatD.done 0 (by kernel_rfl) (SatE.thenC ?_)
    clear hD
    refine SatC.weak (e' := [(0, _), (1, _), (4, _), (5, _), (23, _)]) (by repeat constructor) ?_
    refine SatC.cond rfl (fun h2 => ?_) (fun h2 => ?_)
    · (try simp only [cx, ne_eq] at h2)
      try (exfalso; (first | omega | exact h2 trivial | contradiction | (first | omega | (simp at h2; done))); done)
      all_goals
      refine SatC.skip (SatE.thenC ?_)
      refine SatC.block ?_
      refine SatC.region ?_
      refine SatL.pu (RunV.move rfl) rfl ?_
      refine SatL.pu (RunV.add rfl rfl (by first | exact wrapI64 (by omega) | rfl)) rfl ?_
      refine SatL.pu (RunV.assign rfl) rfl ?_
      refine SatL.nil (SatE.blk_normal ?_)
      refine SatE.again (r + 1) ?_ (by first | omega | (dsimp only; omega)) (by repeat constructor)
      refine ⟨by omega, fun q hq => ?_, hS⟩
      by_cases e : q = r
      · subst e; omega
      · exact hall q (by omega)
    · (try simp only [cx, ne_eq] at h2)
      try (exfalso; (first | omega | exact h2 trivial | contradiction | (first | omega | (simp at h2; done))); done)
      all_goals
      refine SatC.exit (SatE.then_exit (SatE.then_exit (SatE.blk_exit (SatE.thenC ?_))))
      refine SatC.seq ?_
      have hwr : r = wrim now due := by
        unfold wrim
        rcases (by omega : r = 0 ∨ r = 1 ∨ r = 2) with rfl | rfl | rfl
        · rw [if_pos (by omega)]
        · have := hall 0 (by omega)
          rw [if_neg (by omega), if_pos (by omega)]
        · have h0 := hall 0 (by omega)
          have h1 := hall 1 (by omega)
          rw [if_neg (by omega), if_neg (by omega)]
      have hdv : due / 2 ^ (6 * r) ≤ due := Nat.div_le_self _ _
      refine SatC.region ?_
      refine SatL.pu (RunV.move rfl) rfl ?_
      refine SatL.pu (RunV.move rfl) rfl ?_
      refine SatL.pu (RunV.move rfl) rfl ?_
      refine SatL.pu (RunV.mul rfl rfl (by first | exact wrapI64 (by omega) | rfl)) rfl ?_
      refine SatL.pu (RunV.shrN (n := 6 * r) rfl rfl (by omega) (by omega)) rfl ?_
      refine SatL.pu (RunV.andN (n := 6) rfl rfl rfl (by omega) (by decide)) rfl ?_
      refine SatL.pu (RunV.build rfl (by simp [go_sem]; try rfl)) rfl ?_
      refine SatL.op rfl (OpW.store hS rfl rfl (by repeat constructor) (by repeat constructor) (by repeat constructor) rfl rfl ?_)
      clear hS
      intro w4 hS
      refine SatL.nil (SatE.thenC ?_)
      refine SatC.ret ?_
      refine SatE.retG1 hS rfl (.cellN rfl rfl (by repeat constructor) (by repeat constructor)) ?_
      subst hwr
      exact ⟨rfl, hro (L := []) (hS.sel (by repeat constructor))⟩
  · (try simp only [cx, ne_eq] at h1)
    try (exfalso; (first | omega | exact h1 trivial | contradiction | (first | omega | (simp at h1; done))); done)
    all_goals
    refine SatD.sk 3 rfl [] hD ?_
    refine SatD.sk 4 rfl [] hD ?_
    refine SatD.sk 5 rfl [] hD ?_
    refine SatD.sk 6 rfl [] hD ?_
    refine SatD.sk 7 rfl [] hD ?_
    refine SatD.sk 8 rfl [] hD ?_
    refine SatD.sk 9 rfl [] hD ?_
    refine SatD.sk 10 rfl [] hD ?_
    refine SatD.sk 11 rfl [] hD ?_
    refine SatD.sk 12 rfl [] hD ?_
    refine SatD.sk 13 rfl [] hD ?_
    refine SatD.sk 14 rfl [] hD ?_
    refine SatD.sk 15 rfl [] hD ?_
    refine SatD.sk 16 rfl [] hD ?_
    refine SatD.tk 17 rfl hD (fun _ hw => RunV.pick_f rfl rfl) ?_
    refine SatD.done 0 (by kernel_rfl) (SatE.thenC ?_)
    clear hD
    refine SatC.weak (e' := [(0, _), (1, _), (4, _), (5, _), (23, _)]) (by repeat constructor) ?_
    refine SatC.cond_f rfl ?_
    refine SatC.exit (SatE.then_exit (SatE.then_exit (SatE.blk_exit (SatE.thenC ?_))))
    refine SatC.seq ?_
    have hwr : r = wrim now due := by
      unfold wrim
      rcases (by omega : r = 0 ∨ r = 1 ∨ r = 2) with rfl | rfl | rfl
      · rw [if_pos (by omega)]
      · have := hall 0 (by omega)
        rw [if_neg (by omega), if_pos (by omega)]
      · have h0 := hall 0 (by omega)
        have h1 := hall 1 (by omega)
        rw [if_neg (by omega), if_neg (by omega)]
    have hdv : due / 2 ^ (6 * r) ≤ due := Nat.div_le_self _ _
    refine SatC.region ?_
    refine SatL.pu (RunV.move rfl) rfl ?_
    refine SatL.pu (RunV.move rfl) rfl ?_
    refine SatL.pu (RunV.move rfl) rfl ?_
    refine SatL.pu (RunV.mul rfl rfl (by first | exact wrapI64 (by omega) | rfl)) rfl ?_
    refine SatL.pu (RunV.shrN (n := 6 * r) rfl rfl (by omega) (by omega)) rfl ?_
    refine SatL.pu (RunV.andN (n := 6) rfl rfl rfl (by omega) (by decide)) rfl ?_
    refine SatL.pu (RunV.build rfl (by simp [go_sem]; try rfl)) rfl ?_
    refine SatL.op rfl (OpW.store hS rfl rfl (by repeat constructor) (by repeat constructor) (by repeat constructor) rfl rfl ?_)
    clear hS
    intro w4 hS
    refine SatL.nil (SatE.thenC ?_)
    refine SatC.ret ?_
    refine SatE.retG1 hS rfl (.cellN rfl rfl (by repeat constructor) (by repeat constructor)) ?_
    subst hwr
    exact ⟨rfl, hro (L := []) (hS.sel (by repeat constructor))⟩
end
end Go.Proofs.Ytabladeenemfoaa
