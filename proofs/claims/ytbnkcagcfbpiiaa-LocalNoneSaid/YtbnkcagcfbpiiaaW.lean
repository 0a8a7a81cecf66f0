/- works. -/
import Derived.Test.YtbnkcagcfbpiiaaLi
set_option linter.unusedSimpArgs false
set_option linter.unusedVariables false
set_option maxRecDepth 100000
set_option maxHeartbeats 4000000
namespace Go.Proofs.Ytbnkcagcfbpiiaa
open Go.RowKit
section
variable {b : Nat} {S : Lc} {L : List (Nat × Obj)} {w : World}
theorem add_ok (sn port mk ix : Int) (id name : List UInt8) (tags : List (List UInt8)) (v : Value) (he : addE S id name tags port = 0) (hra : RdA w v 1 (tags.map rs) (L.map Prod.fst)) (hv1 : v.oneCell' = true) (h : Agt b S L) (hown : Own w L) :
    Ret Try.prog 24 #[.pointer (some ⟨b, 0, none⟩), .agg #[.int .i64 sn, str id, str name, v, .int .i64 port, .int .u64 mk, .int .u64 ix]] w fun u w' => u = .int .i64 0 ∧ ∃ tv B L', Agt b (aAdd S ⟨id, name, tags, port, tv, B⟩) L' ∧ St w (L.map Prod.fst) L' w' :=
  (add_d sn port mk ix id name tags v hra hv1 h hown).mono fun u w' ⟨h1, S', L', h2, _, h3, h4⟩ => by
    obtain ⟨tv, B, rfl⟩ := h2 he
    exact ⟨by rw [h1, he], tv, B, L', h3, h4⟩
theorem addc_ok (cn st mk ix : Int) (id sv note : List UInt8) (p : Pl) (hp : Pok p) (he : addCE S id sv note p = 0) (hnl : note.length ≤ 9223372036854775807) (h : Agt b S L) (hown : Own w L) :
    Ret Try.prog 16 #[.pointer (some ⟨b, 0, none⟩), .agg #[.int .i64 cn, str id, str sv, str note, .int .i64 st, .int .u64 mk, .int .u64 ix], .agg (plc p).toArray] w fun u w' => u = .int .i64 0 ∧ ∃ hb L', Agt b (aAddC S ⟨id, sv, note, hb, ck0 p⟩) L' ∧ St w (L.map Prod.fst) L' w' :=
  (addc_yes cn st mk ix id sv note p hp hnl h hown).mono fun u w' ⟨h1, S', L', h2, _, h3, h4⟩ => by
    obtain ⟨hb, rfl⟩ := h2 he
    exact ⟨by rw [h1, he], hb, L', h3, h4⟩
end
theorem addCE_0 {S : Lc} {id sv note : List UInt8} {p : Pl} (h1 : okN id = true) (h2 : okN sv = true) (h3 : note.length ≤ 32) (h4 : ¬ gt Sv.id S.sv sv = none) (h5 : Pok p) (h6 : ¬ (gt Ch.id S.ch id = none ∧ 16 ≤ S.ch.length)) : addCE S id sv note p = 0 := by
  unfold addCE
  rw [if_neg (fun h => h ⟨h1, .inr h2⟩), if_neg (by omega), if_neg (fun h => h4 h.2), if_neg (fun h => h h5), if_neg h6]
@[reducible] def wS (tv : Value) (B : List (Nat × Obj)) : Sv := ⟨[119, 101, 98, 45, 49], [119, 101, 98], [], 0, tv, B⟩
@[reducible] def wC (hb : Nat) : Ch := ⟨[99], [119, 101, 98, 45, 49], [], hb, ck0 ⟨1, 2, 0, 0, [], 0⟩⟩
@[reducible] def wL (tv : Value) (B : List (Nat × Obj)) (hb : Nat) : Lc := aAddC (aAdd ⟨2, [120], [], []⟩ (wS tv B)) (wC hb)
theorem health_two {b hb : Nat} {tv : Value} {B L : List (Nat × Obj)} {w : World} (h : Agt b (wL tv B hb) L) (hown : Own w L) : Ret Try.prog 22 #[.pointer (some ⟨b, 0, none⟩), str [119, 101, 98, 45, 49]] w fun u w' => u = .int .i64 2 ∧ St w [] [] w' :=
  (health_d [119, 101, 98, 45, 49] h hown).mono fun u w' ⟨h1, h2⟩ => ⟨by
    rw [h1]
    congr 1, h2⟩
theorem services_one {b hb : Nat} {tv : Value} {B L : List (Nat × Obj)} {w : World} (h : Agt b (wL tv B hb) L) (hown : Own w L) : Ret Try.prog 8 #[.pointer (some ⟨b, 0, none⟩)] w fun u w' => ∃ r AB, Sl 30 7 u [svc 2 r] AB ∧ St w [] AB w' :=
  (services_d h hown).mono fun u w' ⟨R, AB, h1, h2, h3, h4⟩ => by
    have hl := congrArg List.length h1
    rw [List.length_map, List.length_map] at hl
    have e : (ordS (wL tv B hb).sv).length = 1 := by
      show ((srt [[119, 101, 98, 45, 49]]).filterMap _).length = 1
      rw [show srt [[119, 101, 98, 45, 49]] = [[119, 101, 98, 45, 49]] from by simp [srt]]
      rfl
    rw [e] at hl
    obtain ⟨r, rfl⟩ := List.length_eq_one_iff.1 hl
    exact ⟨r, AB, h2, h4.sub (List.sublist_append_left _ _)⟩
def web1 : List UInt8 := [119, 101, 98, 45, 49]
theorem w_ok : okN [119, 101, 98, 45, 49] = true ∧ okN [119, 101, 98] = true ∧ okN [99] = true ∧ tagN [] = true := by decide +kernel
theorem w_pok : Pok ⟨1, 2, 0, 0, [], 0⟩ := by decide
theorem works_any (w : World) : Ret Try.prog 12 #[] w fun u w' => u = .bool true ∧ St w [] [] w' := by
  have hS := St.init0 w
  refine Ret.enter Try.func12 Try.ntmps12 rfl rfl ?_
  simp only [argEnv, Nat.reduceAdd]
  refine SatC.seq ?_
  refine SatC.region ?_
  refine SatL.pu (RunV.assign rfl) rfl ?_
  refine SatL.nil (SatE.thenC ?_)
  refine SatC.seq ?_
  refine SatC.region ?_
  refine SatL.op rfl (OpW.enter rfl rfl rfl (rfl) (lnew_any 2 [120] _ (by decide) (by decide)) ?_)
  rintro r1 w1 ⟨b, L1, rfl, hA1, h⟩
  replace hS := hS.callT (A := []) .nil h
  refine SatL.pu (RunV.move rfl) rfl ?_
  refine SatL.pu (RunV.extract rfl rfl) rfl ?_
  refine SatL.pu (RunV.extract rfl rfl) rfl ?_
  refine SatL.pu (RunV.assign rfl) rfl ?_
  refine SatL.pu (RunV.assign rfl) rfl ?_
  refine SatL.nil (SatE.thenC ?_)
  refine SatC.seq ?_
  refine SatC.region ?_
  refine SatL.pu (RunV.move rfl) rfl ?_
  refine SatL.pu (RunV.build rfl (by simp [go_sem]; try rfl)) rfl ?_
  refine SatL.op rfl (OpW.enter rfl rfl rfl (rfl) (add_ok 0 0 0 0 [119, 101, 98, 45, 49] [119, 101, 98] [] (.slice none 0 0) (addE_0 (by decide) ⟨w_ok.1, w_ok.2.1, w_ok.2.2.2⟩ (by decide)) (RdA.nil _ 1 L1 (hS.ownT (A := L1) (by repeat constructor))) rfl hA1 (hS.ownT (A := L1) (by repeat constructor))) ?_)
  rintro r2 w2 ⟨rfl, tv, B, L2, hA2, h⟩
  replace hS := hS.callT (A := L1) (by repeat constructor) h
  refine SatL.pu (RunV.assign rfl) rfl ?_
  refine SatL.nil (SatE.thenC ?_)
  refine SatC.seq ?_
  refine SatC.region ?_
  refine SatL.pu (RunV.move rfl) rfl ?_
  refine SatL.pu (RunV.build rfl (by simp [go_sem]; try rfl)) rfl ?_
  refine SatL.pu (RunV.build rfl (by simp [go_sem]; try rfl)) rfl ?_
  refine SatL.op rfl (OpW.enter rfl rfl rfl (rfl) (addc_ok 0 0 0 0 [99] [119, 101, 98, 45, 49] [] ⟨1, 2, 0, 0, [], 0⟩ w_pok (addCE_0 w_ok.2.2.1 w_ok.1 (by decide) (by simp [aAdd, pt, gt]) w_pok (by simp [aAdd, gt])) (by decide) hA2 (hS.ownT (A := L2) (by repeat constructor))) ?_)
  rintro r3 w3 ⟨rfl, hb, L3, hA3, h⟩
  replace hS := hS.callT (A := L2) (by repeat constructor) h
  refine SatL.pu (RunV.assign rfl) rfl ?_
  refine SatL.nil (SatE.thenC ?_)
  refine SatC.seq ?_
  refine SatC.region ?_
  refine SatL.pu (RunV.move rfl) rfl ?_
  refine SatL.pu (RunV.eql rfl rfl) rfl ?_
  refine SatL.pu (RunV.move rfl) rfl ?_
  refine SatL.guard rfl rfl rfl (fun h1 => ?_) (fun h1 => ?_)
  · (try simp only [cx, ne_eq] at h1)
    try (exfalso; (first | omega | exact h1 trivial | contradiction | (simp at h1; done)); done)
    all_goals
    refine SatL.pu (RunV.move rfl) rfl ?_
    refine SatL.guard_y rfl rfl ?_
    refine SatL.pu (RunV.eql rfl rfl) rfl ?_
    refine SatL.pu (RunV.pick_t rfl rfl) rfl ?_
    refine SatL.pu (RunV.move rfl) rfl ?_
    refine SatL.guard rfl rfl rfl (fun h2 => ?_) (fun h2 => ?_)
    · (try simp only [cx, ne_eq] at h2)
      try (exfalso; (first | omega | exact h2 trivial | contradiction | (simp at h2; done)); done)
      all_goals
      refine SatL.pu (RunV.move rfl) rfl ?_
      refine SatL.guard_y rfl rfl ?_
      refine SatL.pu (RunV.eql rfl rfl) rfl ?_
      refine SatL.pu (RunV.pick_t rfl rfl) rfl ?_
      refine SatL.pu (RunV.move rfl) rfl ?_
      refine SatL.guard rfl rfl rfl (fun h3 => ?_) (fun h3 => ?_)
      · (try simp only [cx, ne_eq] at h3)
        try (exfalso; (first | omega | exact h3 trivial | contradiction | (simp at h3; done)); done)
        all_goals
        refine SatL.pu (RunV.move rfl) rfl ?_
        refine SatL.guard_y rfl rfl ?_
        refine SatL.op rfl (OpW.enter rfl rfl rfl (rfl) (health_two hA3 (hS.ownT (A := L3) (by repeat constructor))) ?_)
        rintro r4 w4 ⟨rfl, h⟩
        replace hS := St.callN hS h
        refine SatL.guard_y rfl rfl ?_
        refine SatL.pu (RunV.eql rfl rfl) rfl ?_
        refine SatL.pu (RunV.pick_t rfl rfl) rfl ?_
        refine SatL.pu (RunV.move rfl) rfl ?_
        refine SatL.guard rfl rfl rfl (fun h4 => ?_) (fun h4 => ?_)
        · (try simp only [cx, ne_eq] at h4)
          try (exfalso; (first | omega | exact h4 trivial | contradiction | (simp at h4; done)); done)
          all_goals
          refine SatL.pu (RunV.move rfl) rfl ?_
          refine SatL.guard_y rfl rfl ?_
          refine SatL.op rfl (OpW.enter rfl rfl rfl (rfl) (services_one hA3 (hS.ownT (A := L3) (by repeat constructor))) ?_)
          rintro r5 w5 ⟨r, AR, hsl, h⟩
          replace hS := hS.callT (A := []) .nil h
          obtain ⟨vc, hv⟩ := hsl.slv
          rw [List.length_singleton] at hv
          refine SatL.guard_y rfl rfl ?_
          first | refine SatL.pu (RunV.lenR (by assumption) rfl rfl) rfl ?_ | refine SatL.pu (RunV.lenS rfl rfl) rfl ?_
          refine SatL.guard_y rfl rfl ?_
          refine SatL.pu (RunV.eql rfl rfl) rfl ?_
          refine SatL.pu (RunV.pick_t rfl rfl) rfl ?_
          refine SatL.pu (RunV.move rfl) rfl ?_
          refine SatL.guard rfl rfl rfl (fun h5 => ?_) (fun h5 => ?_)
          · (try simp only [cx, ne_eq] at h5)
            try (exfalso; (first | omega | exact h5 trivial | contradiction | (simp at h5; done)); done)
            all_goals
            refine SatL.pu (RunV.move rfl) rfl ?_
            refine SatL.guard_y rfl rfl ?_
            refine SatL.op rfl (OpW.enter rfl rfl rfl (rfl) (services_one hA3 (hS.ownT (A := L3) (by repeat constructor))) ?_)
            rintro r6 w6 ⟨r2, AR2, hsl2, h⟩
            replace hS := hS.callT (A := []) .nil h
            obtain ⟨vc2, hv2⟩ := hsl2.slv
            rw [List.length_singleton] at hv2
            refine SatL.guard_y rfl rfl ?_
            first | refine SatL.pu (RunV.indexR (by assumption) rfl rfl rfl (by omega) (by omega) rfl) rfl ?_ | refine SatL.pu (RunV.indexS rfl rfl rfl (by omega) (by omega) rfl) rfl ?_
            refine SatL.guard_y rfl rfl ?_
            first | refine SatL.pu (RunV.fieldAddrL rfl rfl rfl) rfl ?_ | refine SatL.pu (RunV.fieldAddr rfl rfl rfl) rfl ?_
            refine SatL.guard_y rfl rfl ?_
            refine SatL.pu (RunV.loadR1g 0 0 (Sl.rd hsl2 hS (by repeat constructor)) rfl rfl (by omega) rfl rfl) rfl ?_
            refine SatL.guard_y rfl rfl ?_
            refine SatL.pu (RunV.eql rfl rfl) rfl ?_
            refine SatL.pu (RunV.pick_t rfl rfl) rfl ?_
            refine SatL.pu (RunV.assign rfl) rfl ?_
            refine SatL.nil (SatE.thenC ?_)
            refine SatC.ret ?_
            refine SatE.ret1 rfl rfl ?_
            exact ⟨rfl, hS.sel (by repeat constructor)⟩
          · (try simp only [cx, ne_eq] at h5)
            try (exfalso; (first | omega | exact h5 trivial | contradiction | (simp at h5; done)); done)
            all_goals
            refine SatL.guard_n rfl rfl rfl rfl ?_
            refine SatL.guard_n rfl rfl rfl rfl ?_
            refine SatL.guard_n rfl rfl rfl rfl ?_
            refine SatL.guard_n rfl rfl rfl rfl ?_
            refine SatL.guard_n rfl rfl rfl rfl ?_
            refine SatL.pu (RunV.pick_f rfl rfl) rfl ?_
            refine SatL.pu (RunV.assign rfl) rfl ?_
            refine SatL.nil (SatE.thenC ?_)
            refine SatC.ret ?_
            refine SatE.ret1 rfl rfl ?_
            exact ⟨rfl, hS.sel (by repeat constructor)⟩
        · (try simp only [cx, ne_eq] at h4)
          try (exfalso; (first | omega | exact h4 trivial | contradiction | (simp at h4; done)); done)
          all_goals
          refine SatL.guard_n rfl rfl rfl rfl ?_
          refine SatL.guard_n rfl rfl rfl rfl ?_
          refine SatL.guard_n rfl rfl rfl rfl ?_
          refine SatL.pu (RunV.pick_f rfl rfl) rfl ?_
          refine SatL.pu (RunV.move rfl) rfl ?_
          refine SatL.guard_n rfl rfl rfl rfl ?_
          refine SatL.guard_n rfl rfl rfl rfl ?_
          refine SatL.guard_n rfl rfl rfl rfl ?_
          refine SatL.guard_n rfl rfl rfl rfl ?_
          refine SatL.guard_n rfl rfl rfl rfl ?_
          refine SatL.guard_n rfl rfl rfl rfl ?_
          refine SatL.pu (RunV.pick_f rfl rfl) rfl ?_
          refine SatL.pu (RunV.assign rfl) rfl ?_
          refine SatL.nil (SatE.thenC ?_)
          refine SatC.ret ?_
          refine SatE.ret1 rfl rfl ?_
          exact ⟨rfl, hS.sel (by repeat constructor)⟩
      · (try simp only [cx, ne_eq] at h3)
        try (exfalso; (first | omega | exact h3 trivial | contradiction | (simp at h3; done)); done)
        all_goals
        refine SatL.guard_n rfl rfl rfl rfl ?_
        refine SatL.guard_n rfl rfl rfl rfl ?_
        refine SatL.pu (RunV.pick_f rfl rfl) rfl ?_
        refine SatL.pu (RunV.move rfl) rfl ?_
        refine SatL.guard_n rfl rfl rfl rfl ?_
        refine SatL.guard_n rfl rfl rfl rfl ?_
        refine SatL.guard_n rfl rfl rfl rfl ?_
        refine SatL.guard_n rfl rfl rfl rfl ?_
        refine SatL.pu (RunV.pick_f rfl rfl) rfl ?_
        refine SatL.pu (RunV.move rfl) rfl ?_
        refine SatL.guard_n rfl rfl rfl rfl ?_
        refine SatL.guard_n rfl rfl rfl rfl ?_
        refine SatL.guard_n rfl rfl rfl rfl ?_
        refine SatL.guard_n rfl rfl rfl rfl ?_
        refine SatL.guard_n rfl rfl rfl rfl ?_
        refine SatL.guard_n rfl rfl rfl rfl ?_
        refine SatL.pu (RunV.pick_f rfl rfl) rfl ?_
        refine SatL.pu (RunV.assign rfl) rfl ?_
        refine SatL.nil (SatE.thenC ?_)
        refine SatC.ret ?_
        refine SatE.ret1 rfl rfl ?_
        exact ⟨rfl, hS.sel (by repeat constructor)⟩
    · (try simp only [cx, ne_eq] at h2)
      try (exfalso; (first | omega | exact h2 trivial | contradiction | (simp at h2; done)); done)
      all_goals
      refine SatL.guard_n rfl rfl rfl rfl ?_
      refine SatL.pu (RunV.pick_f rfl rfl) rfl ?_
      refine SatL.pu (RunV.move rfl) rfl ?_
      refine SatL.guard_n rfl rfl rfl rfl ?_
      refine SatL.guard_n rfl rfl rfl rfl ?_
      refine SatL.guard_n rfl rfl rfl rfl ?_
      refine SatL.pu (RunV.pick_f rfl rfl) rfl ?_
      refine SatL.pu (RunV.move rfl) rfl ?_
      refine SatL.guard_n rfl rfl rfl rfl ?_
      refine SatL.guard_n rfl rfl rfl rfl ?_
      refine SatL.guard_n rfl rfl rfl rfl ?_
      refine SatL.guard_n rfl rfl rfl rfl ?_
      refine SatL.pu (RunV.pick_f rfl rfl) rfl ?_
      refine SatL.pu (RunV.move rfl) rfl ?_
      refine SatL.guard_n rfl rfl rfl rfl ?_
      refine SatL.guard_n rfl rfl rfl rfl ?_
      refine SatL.guard_n rfl rfl rfl rfl ?_
      refine SatL.guard_n rfl rfl rfl rfl ?_
      refine SatL.guard_n rfl rfl rfl rfl ?_
      refine SatL.guard_n rfl rfl rfl rfl ?_
      refine SatL.pu (RunV.pick_f rfl rfl) rfl ?_
      refine SatL.pu (RunV.assign rfl) rfl ?_
      refine SatL.nil (SatE.thenC ?_)
      refine SatC.ret ?_
      refine SatE.ret1 rfl rfl ?_
      exact ⟨rfl, hS.sel (by repeat constructor)⟩
  · (try simp only [cx, ne_eq] at h1)
    try (exfalso; (first | omega | exact h1 trivial | contradiction | (simp at h1; done)); done)
    all_goals
    refine SatL.guard_n rfl rfl rfl rfl ?_
    refine SatL.pu (RunV.pick_f rfl rfl) rfl ?_
    refine SatL.pu (RunV.move rfl) rfl ?_
    refine SatL.guard_n rfl rfl rfl rfl ?_
    refine SatL.guard_n rfl rfl rfl rfl ?_
    refine SatL.pu (RunV.pick_f rfl rfl) rfl ?_
    refine SatL.pu (RunV.move rfl) rfl ?_
    refine SatL.guard_n rfl rfl rfl rfl ?_
    refine SatL.guard_n rfl rfl rfl rfl ?_
    refine SatL.guard_n rfl rfl rfl rfl ?_
    refine SatL.pu (RunV.pick_f rfl rfl) rfl ?_
    refine SatL.pu (RunV.move rfl) rfl ?_
    refine SatL.guard_n rfl rfl rfl rfl ?_
    refine SatL.guard_n rfl rfl rfl rfl ?_
    refine SatL.guard_n rfl rfl rfl rfl ?_
    refine SatL.guard_n rfl rfl rfl rfl ?_
    refine SatL.pu (RunV.pick_f rfl rfl) rfl ?_
    refine SatL.pu (RunV.move rfl) rfl ?_
    refine SatL.guard_n rfl rfl rfl rfl ?_
    refine SatL.guard_n rfl rfl rfl rfl ?_
    refine SatL.guard_n rfl rfl rfl rfl ?_
    refine SatL.guard_n rfl rfl rfl rfl ?_
    refine SatL.guard_n rfl rfl rfl rfl ?_
    refine SatL.guard_n rfl rfl rfl rfl ?_
    refine SatL.pu (RunV.pick_f rfl rfl) rfl ?_
    refine SatL.pu (RunV.assign rfl) rfl ?_
    refine SatL.nil (SatE.thenC ?_)
    refine SatC.ret ?_
    refine SatE.ret1 rfl rfl ?_
    exact ⟨rfl, hS.sel (by repeat constructor)⟩
end Go.Proofs.Ytbnkcagcfbpiiaa
