/- The disk's calls, what it holds behind a name; the works of chapter 23's laws. -/
import Derived.Test.YtahholhggohbnaaDi
set_option linter.unusedSimpArgs false
set_option linter.unusedVariables false
set_option maxRecDepth 100000
set_option maxHeartbeats 4000000
namespace Go.Proofs.Ytahholhggohbnaa
open Go.RowKit
/-- A disk in memory: all its blocks. -/
structure Dsk (b : Nat) (d : Dk) (L : List (Nat × Obj)) : Prop where
  ok : d.Ok
  rep : ∃ fs, Rep d fs ∧ L = PO b d fs
section
variable {b : Nat} {d : Dk} {L : List (Nat × Obj)} {w : World}
theorem own_str {o : Obj} {D : List (Nat × Obj)} (h : Own w ((b, o) :: D)) : Own w [(b, o)] := (St.init h).ownT (.cons .here .nil)
theorem append_d (n : Int) (v : Value) (bs : List UInt8) (h : Dsk b d L) (hr : ∀ W', St w (L.map Prod.fst) [] W' → RdRow W' v 1 (bs.map by1c)) (hown : Own w L) :
    Ret Try.prog 9 #[.pointer (some ⟨b, 0, none⟩), .int .i64 n, v] w fun u w' => u = .int .i64 (aAppend d n bs).1 ∧ ∃ L', Dsk b (aAppend d n bs).2 L' ∧ St w (L.map Prod.fst) L' w' := by
  obtain ⟨ho, fs, hrep, rfl⟩ := h
  refine (append_any n v bs ho hrep hr hown).mono ?_
  rintro u w' ⟨e, fs', hrep', h⟩
  exact ⟨e, _, ⟨ok_append ho n bs, fs', hrep', rfl⟩, h⟩
theorem sync_d (n : Int) (h : Dsk b d L) (hown : Own w L) :
    Ret Try.prog 10 #[.pointer (some ⟨b, 0, none⟩), .int .i64 n] w fun u w' => u = .int .i64 (aSync d n).1 ∧ ∃ L', Dsk b (aSync d n).2 L' ∧ St w (L.map Prod.fst) L' w' := by
  obtain ⟨ho, fs, hrep, rfl⟩ := h
  refine (sync_any n ho hrep hown).mono ?_
  rintro u w' ⟨e, fs', hrep', h⟩
  exact ⟨e, _, ⟨ok_sync ho n, fs', hrep', rfl⟩, h⟩
theorem cut_d (n m : Int) (h : Dsk b d L) (hown : Own w L) :
    Ret Try.prog 21 #[.pointer (some ⟨b, 0, none⟩), .int .i64 n, .int .i64 m] w fun u w' => u = .int .i64 (aCut d n m).1 ∧ ∃ L', Dsk b (aCut d n m).2 L' ∧ St w (L.map Prod.fst) L' w' := by
  obtain ⟨ho, fs, hrep, rfl⟩ := h
  refine (cut_any n m ho hrep hown).mono ?_
  rintro u w' ⟨e, fs', hrep', h⟩
  exact ⟨e, _, ⟨ok_cut ho n m, fs', hrep', rfl⟩, h⟩
theorem rename_d (n m : Int) (h : Dsk b d L) (hown : Own w L) :
    Ret Try.prog 22 #[.pointer (some ⟨b, 0, none⟩), .int .i64 n, .int .i64 m] w fun u w' => u = .int .i64 (aRename d n m).1 ∧ ∃ L', Dsk b (aRename d n m).2 L' ∧ St w (L.map Prod.fst) L' w' := by
  obtain ⟨ho, fs, hrep, rfl⟩ := h
  refine (rename_any n m ho hrep hown).mono ?_
  rintro u w' ⟨e, fs', hrep', h⟩
  exact ⟨e, _, ⟨ok_rename ho n m, fs', hrep', rfl⟩, h⟩
theorem spoil_d (n i : Int) (m : UInt8) (h : Dsk b d L) (hown : Own w L) :
    Ret Try.prog 23 #[.pointer (some ⟨b, 0, none⟩), .int .i64 n, .int .i64 i, byt m] w fun u w' => u = .bool (decide (spoilOk d n i)) ∧ ∃ L', Dsk b (aSpoil d n i m) L' ∧ St w (L.map Prod.fst) L' w' := by
  obtain ⟨ho, fs, hrep, rfl⟩ := h
  refine (spoil_any n i m ho hrep hown).mono ?_
  rintro u w' ⟨e, fs', hrep', h⟩
  exact ⟨e, _, ⟨ok_spoil ho n i m, fs', hrep', rfl⟩, h⟩
theorem crash_d (keep : Int) (h : Dsk b d L) (hown : Own w L) :
    Ret Try.prog 15 #[.pointer (some ⟨b, 0, none⟩), .int .i64 keep] w fun u w' => ∃ L', Dsk b (aCrash d keep) L' ∧ St w (L.map Prod.fst) L' w' := by
  obtain ⟨ho, fs, hrep, rfl⟩ := h
  refine (crash_any keep ho hrep hown).mono ?_
  rintro u w' ⟨fs', hrep', h⟩
  exact ⟨_, ⟨ok_crash ho keep, fs', hrep', rfl⟩, h⟩
theorem arm_d (n : Int) (hn : n ≤ 9223372036854775807) (h : Dsk b d L) (hown : Own w L) :
    Ret Try.prog 20 #[.pointer (some ⟨b, 0, none⟩), .int .i64 n] w fun u w' => ∃ L', Dsk b (aArm d n) L' ∧ St w (L.map Prod.fst) L' w' := by
  obtain ⟨ho, fs, hrep, rfl⟩ := h
  refine (arm_any n (hrep.four ho) (own_str hown)).mono ?_
  rintro u w' h
  refine ⟨_, ⟨ok_arm ho n hn, fs, hrep, rfl⟩, ?_⟩
  exact (St.init hown).call (A := [(b, C 53 (dcs d.room d.fuse d.down fs))]) (B := dbl fs) h
theorem read_d (n : Int) (h : Dsk b d L) (hown : Own w L) :
    Ret Try.prog 12 #[.pointer (some ⟨b, 0, none⟩), .int .i64 n] w fun u w' => ∃ B', Sl 5 1 u ((aFile d n).1.map by1c) B' ∧ St w [] B' w' := by
  obtain ⟨ho, fs, hrep, rfl⟩ := h
  exact read_any n ho hrep hown
theorem size_d (n : Int) (h : Dsk b d L) (hown : Own w L) :
    Ret Try.prog 19 #[.pointer (some ⟨b, 0, none⟩), .int .i64 n] w fun u w' => u = .int .i64 ((aFile d n).1.length : Int) ∧ St w [] [] w' := by
  obtain ⟨ho, fs, hrep, rfl⟩ := h
  exact size_any n ho hrep (own_str hown)
theorem synced_d (n : Int) (h : Dsk b d L) (hown : Own w L) :
    Ret Try.prog 14 #[.pointer (some ⟨b, 0, none⟩), .int .i64 n] w fun u w' => u = .int .i64 (aFile d n).2 ∧ St w [] [] w' := by
  obtain ⟨ho, fs, hrep, rfl⟩ := h
  exact synced_any n ho hrep (own_str hown)
theorem down_d (h : Dsk b d L) (hown : Own w L) : Ret Try.prog 16 #[.pointer (some ⟨b, 0, none⟩)] w fun u w' => u = .bool d.down ∧ St w [] [] w' := by
  obtain ⟨ho, fs, hrep, rfl⟩ := h
  exact down_any (hrep.four ho) (own_str hown)
theorem used_d (h : Dsk b d L) (hown : Own w L) : Ret Try.prog 17 #[.pointer (some ⟨b, 0, none⟩)] w fun u w' => u = .int .i64 (usedA d.fs : Int) ∧ St w [] [] w' := by
  obtain ⟨ho, fs, hrep, rfl⟩ := h
  have h1 := ho.used
  have h2 := ho.room
  rw [← hrep.used] at h1 ⊢
  exact used_any (hrep.four ho) hrep.1.vf (by omega) (own_str hown)
theorem new_d (n : Int) (w : World) : Ret Try.prog 7 #[.int .i64 n] w fun u w' => ∃ b L, u = .pointer (some ⟨b, 0, none⟩) ∧ Dsk b (newD n) L ∧ St w [] L w' := by
  refine (dnew_any n w).mono ?_
  rintro u w' ⟨b, fs, rfl, rfl, h⟩
  refine ⟨b, _, rfl, ⟨ok_new n, _, ⟨fun x hx => ?_, rfl⟩, rfl⟩, h⟩
  obtain rfl := (List.mem_replicate.1 hx).2
  exact .nil
end
theorem works_any (w : World) : Ret Try.prog 13 #[] w fun v w' => v = .bool true ∧ St w [] [] w' := by
  have hS := St.init0 w
  refine Ret.enter Try.func13 Try.ntmps13 rfl rfl ?_
  simp only [argEnv, Nat.reduceAdd]
  refine SatC.seq ?_
  refine SatC.region ?_
  refine SatL.pu (RunV.assign rfl) rfl ?_
  refine SatL.nil (SatE.thenC ?_)
  refine SatC.seq ?_
  refine SatC.region ?_
  refine SatL.op rfl (OpW.enter rfl rfl rfl (rfl) (new_d 9 _) ?_)
  rintro r1 w1 ⟨b, L0, rfl, hd0, h⟩
  replace hS := hS.call0 h
  refine SatL.pu (RunV.assign rfl) rfl ?_
  refine SatL.nil (SatE.thenC ?_)
  refine SatC.seq ?_
  refine SatC.region ?_
  refine SatL.pu (RunV.move rfl) rfl ?_
  refine SatL.op rfl (OpW.buildSliceV (vs := [_, _, _]) hS rfl rfl rfl rfl rfl rfl rfl rfl rfl ?_)
  clear hS
  intro b7 w2 _ hS
  refine SatL.op rfl (OpW.enter rfl rfl rfl (rfl) (append_d 0 _ [1, 2, 3] hd0 (fun W' h => RdRow.of ⟨⟨_, rfl, fun _ => rfl⟩, Nat.le_refl _⟩ rfl (by simp) (RdC.own (rows := [by1c 1, by1c 2, by1c 3]) (post := []) (hS.callT (A := L0) (by repeat constructor) h) (by repeat constructor) (by simp)) (by decide)) (hS.ownT (A := L0) (by repeat constructor))) ?_)
  rintro r3 w3 ⟨rfl, L1, hd1, h⟩
  replace hS := hS.callT (A := L0) (by repeat constructor) h
  rw [show (aAppend (newD 9) 0 [1, 2, 3]).1 = 0 from rfl]
  replace hS := hS.sel (R := L1) (by repeat constructor)
  refine SatL.pu (RunV.assign rfl) rfl ?_
  refine SatL.nil (SatE.thenC ?_)
  refine SatC.seq ?_
  refine SatC.region ?_
  refine SatL.pu (RunV.move rfl) rfl ?_
  refine SatL.op rfl (OpW.enter rfl rfl rfl (rfl) (sync_d 0 hd1 (hS.ownT (A := L1) (by repeat constructor))) ?_)
  rintro r4 w4 ⟨rfl, L2, hd2, h⟩
  replace hS := hS.callT (A := L1) (by repeat constructor) h
  rw [show (aSync (aAppend (newD 9) 0 [1, 2, 3]).2 0).1 = 0 from rfl]
  replace hS := hS.sel (R := L2) (by repeat constructor)
  refine SatL.pu (RunV.assign rfl) rfl ?_
  refine SatL.nil (SatE.thenC ?_)
  refine SatC.seq ?_
  refine SatC.region ?_
  refine SatL.pu (RunV.move rfl) rfl ?_
  refine SatL.op rfl (OpW.buildSliceV (vs := [_, _]) hS rfl rfl rfl rfl rfl rfl rfl rfl rfl ?_)
  clear hS
  intro b12 w5 _ hS
  refine SatL.op rfl (OpW.enter rfl rfl rfl (rfl) (append_d 0 _ [4, 5] hd2 (fun W' h => RdRow.of ⟨⟨_, rfl, fun _ => rfl⟩, Nat.le_refl _⟩ rfl (by simp) (RdC.own (rows := [by1c 4, by1c 5]) (post := []) (hS.callT (A := L2) (by repeat constructor) h) (by repeat constructor) (by simp)) (by decide)) (hS.ownT (A := L2) (by repeat constructor))) ?_)
  rintro r6 w6 ⟨rfl, L3, hd3, h⟩
  replace hS := hS.callT (A := L2) (by repeat constructor) h
  rw [show (aAppend (aSync (aAppend (newD 9) 0 [1, 2, 3]).2 0).2 0 [4, 5]).1 = 0 from rfl]
  replace hS := hS.sel (R := L3) (by repeat constructor)
  refine SatL.pu (RunV.assign rfl) rfl ?_
  refine SatL.nil (SatE.thenC ?_)
  refine SatC.seq ?_
  refine SatC.region ?_
  refine SatL.pu (RunV.move rfl) rfl ?_
  refine SatL.op rfl (OpW.enter rfl rfl rfl (rfl) (crash_d 1 hd3 (hS.ownT (A := L3) (by repeat constructor))) ?_)
  rintro r7 w7 ⟨L4, hd4, h⟩
  replace hS := hS.callT (A := L3) (by repeat constructor) h
  replace hS := hS.sel (R := L4) (by repeat constructor)
  refine SatL.nil (SatE.thenC ?_)
  refine SatC.seq ?_
  refine SatC.region ?_
  refine SatL.pu (RunV.move rfl) rfl ?_
  refine SatL.pu (RunV.eql rfl rfl) rfl ?_
  refine SatL.pu (RunV.move rfl) rfl ?_
  refine SatL.guard rfl rfl rfl (fun h1 => ?_) (fun h1 => ?_)
  · (try simp only [cx, ne_eq] at h1)
    try (exfalso; (first | omega | exact h1 trivial | contradiction | (simp at h1; done)); done)
    all_goals
    refine SatL.pu (RunV.move rfl) rfl ?_
    refine SatL.guard_y rfl rfl ?_
    refine SatL.pu (RunV.eql rfl rfl) rfl ?_
    refine SatL.pu (RunV.pick_t rfl rfl) rfl ?_
    refine SatL.pu (RunV.move rfl) rfl ?_
    refine SatL.guard rfl rfl rfl (fun h2 => ?_) (fun h2 => ?_)
    · (try simp only [cx, ne_eq] at h2)
      try (exfalso; (first | omega | exact h2 trivial | contradiction | (simp at h2; done)); done)
      all_goals
      refine SatL.pu (RunV.move rfl) rfl ?_
      refine SatL.guard_y rfl rfl ?_
      refine SatL.pu (RunV.eql rfl rfl) rfl ?_
      refine SatL.pu (RunV.pick_t rfl rfl) rfl ?_
      refine SatL.pu (RunV.move rfl) rfl ?_
      refine SatL.guard rfl rfl rfl (fun h3 => ?_) (fun h3 => ?_)
      · (try simp only [cx, ne_eq] at h3)
        try (exfalso; (first | omega | exact h3 trivial | contradiction | (simp at h3; done)); done)
        all_goals
        refine SatL.pu (RunV.move rfl) rfl ?_
        refine SatL.guard_y rfl rfl ?_
        refine SatL.op rfl (OpW.enter rfl rfl rfl (rfl) (read_d 0 hd4 (hS.ownT (A := L4) (by repeat constructor))) ?_)
        rintro r8 w8 ⟨B5, hsl5, h⟩
        replace hS := hS.call0 h
        rw [show (aFile (aCrash (aAppend (aSync (aAppend (newD 9) 0 [1, 2, 3]).2 0).2 0 [4, 5]).2 1) 0).1 = [1, 2, 3, 4] from rfl] at hsl5
        obtain ⟨c5, hv5⟩ := hsl5.slv
        refine SatL.guard_y rfl rfl ?_
        refine SatL.pu (RunV.b2s (cs := [1, 2, 3, 4]) hv5 (hsl5.rd hS (by repeat constructor)) rfl rfl rfl rfl rfl) rfl ?_
        refine SatL.guard_y rfl rfl ?_
        refine SatL.pu (RunV.seql rfl rfl) rfl ?_
        refine SatL.pu (RunV.pick_t rfl rfl) rfl ?_
        refine SatL.pu (RunV.assign rfl) rfl ?_
        refine SatL.nil (SatE.thenC ?_)
        refine SatC.ret ?_
        refine SatE.ret1 rfl rfl ?_
        exact ⟨rfl, hS.sel (by repeat constructor)⟩
      · (try simp only [cx, ne_eq] at h3)
        try (exfalso; (first | omega | exact h3 trivial | contradiction | (simp at h3; done)); done)
        all_goals
        refine SatL.guard_n rfl rfl rfl rfl ?_
        refine SatL.guard_n rfl rfl rfl rfl ?_
        refine SatL.guard_n rfl rfl rfl rfl ?_
        refine SatL.pu (RunV.pick_f rfl rfl) rfl ?_
        refine SatL.pu (RunV.assign rfl) rfl ?_
        refine SatL.nil (SatE.thenC ?_)
        refine SatC.ret ?_
        refine SatE.ret1 rfl rfl ?_
        exact ⟨rfl, hS.sel (by repeat constructor)⟩
    · (try simp only [cx, ne_eq] at h2)
      try (exfalso; (first | omega | exact h2 trivial | contradiction | (simp at h2; done)); done)
      all_goals
      refine SatL.guard_n rfl rfl rfl rfl ?_
      refine SatL.pu (RunV.pick_f rfl rfl) rfl ?_
      refine SatL.pu (RunV.move rfl) rfl ?_
      refine SatL.guard_n rfl rfl rfl rfl ?_
      refine SatL.guard_n rfl rfl rfl rfl ?_
      refine SatL.guard_n rfl rfl rfl rfl ?_
      refine SatL.guard_n rfl rfl rfl rfl ?_
      refine SatL.pu (RunV.pick_f rfl rfl) rfl ?_
      refine SatL.pu (RunV.assign rfl) rfl ?_
      refine SatL.nil (SatE.thenC ?_)
      refine SatC.ret ?_
      refine SatE.ret1 rfl rfl ?_
      exact ⟨rfl, hS.sel (by repeat constructor)⟩
  · (try simp only [cx, ne_eq] at h1)
    try (exfalso; (first | omega | exact h1 trivial | contradiction | (simp at h1; done)); done)
    all_goals
    refine SatL.guard_n rfl rfl rfl rfl ?_
    refine SatL.pu (RunV.pick_f rfl rfl) rfl ?_
    refine SatL.pu (RunV.move rfl) rfl ?_
    refine SatL.guard_n rfl rfl rfl rfl ?_
    refine SatL.guard_n rfl rfl rfl rfl ?_
    refine SatL.pu (RunV.pick_f rfl rfl) rfl ?_
    refine SatL.pu (RunV.move rfl) rfl ?_
    refine SatL.guard_n rfl rfl rfl rfl ?_
    refine SatL.guard_n rfl rfl rfl rfl ?_
    refine SatL.guard_n rfl rfl rfl rfl ?_
    refine SatL.guard_n rfl rfl rfl rfl ?_
    refine SatL.pu (RunV.pick_f rfl rfl) rfl ?_
    refine SatL.pu (RunV.assign rfl) rfl ?_
    refine SatL.nil (SatE.thenC ?_)
    refine SatC.ret ?_
    refine SatE.ret1 rfl rfl ?_
    exact ⟨rfl, hS.sel (by repeat constructor)⟩
end Go.Proofs.Ytahholhggohbnaa
