/- Add, RemoveCheck. -/
import Derived.Test.YtbnkcagcfbpiiaaTg
set_option linter.unusedSimpArgs false
set_option linter.unusedVariables false
set_option maxRecDepth 100000
set_option maxHeartbeats 4000000
namespace Go.Proofs.Ytbnkcagcfbpiiaa
open Go.RowKit
/-- Rows to be read that lie apart from one's own blocks. -/
def RdA (w : World) (v : Value) (k : Nat) (xs : List (List Value)) (X : List Nat) : Prop := ∃ b o c, SlV v b o xs.length c ∧ RdC w b o k xs ∧ xs.length ≤ 9223372036854775807 ∧ b ∉ X
theorem RdA.of {w0 w : World} {L : List (Nat × Obj)} {v : Value} {k : Nat} {xs : List (List Value)} (h : RdRow w0 v k xs) (hS : St w0 [] L w) : RdA w v k xs (L.map Prod.fst) := by
  obtain ⟨b, o, c, hv, hm, hc, hlt⟩ := h.open
  by_cases hp : 0 < xs.length
  · refine ⟨b, o, c, hv, hc.st hS List.not_mem_nil, hm, fun hb => ?_⟩
    obtain ⟨p, hp1, hp2⟩ := List.mem_map.1 hb
    have hl := hlt hp
    rcases hS.wr p hp1 with h' | h'
    · cases h'
    · omega
  · have h0 : xs = [] := List.eq_nil_of_length_eq_zero (by omega)
    subst h0
    refine ⟨w.heap.size, 0, c, ?_, fun i r hi => by simp at hi, hm, fun hb => ?_⟩
    · obtain ⟨A, rfl, hA⟩ := hv.eq
      exact ⟨⟨A, rfl, fun h => by simp at h⟩, hv.le⟩
    · obtain ⟨p, hp1, hp2⟩ := List.mem_map.1 hb
      have := hS.lt hp1
      omega
theorem RdA.rd {w w' : World} {L : List (Nat × Obj)} {v : Value} {k : Nat} {xs : List (List Value)} {X : List Nat} (h : RdA w v k xs X) (hS : St w X L w') (hk : 0 < k) : RdRow w' v k xs := by
  obtain ⟨b, o, c, hv, hc, hm, hb⟩ := h
  exact RdRow.of hv rfl hm (hc.st hS hb) hk
theorem RdA.nil (w : World) (k : Nat) (L : List (Nat × Obj)) (hown : Own w L) : RdA w (.slice none 0 0) k [] (L.map Prod.fst) := by
  refine ⟨w.heap.size, 0, 0, ⟨⟨none, rfl, fun h => by simp at h⟩, Nat.le_refl _⟩, fun i r hi => by simp at hi, by simp, fun hb => ?_⟩
  obtain ⟨p, hp1, hp2⟩ := List.mem_map.1 hb
  have := (Array.getElem?_eq_some_iff.1 (hown.1 p hp1)).1
  omega
def addE (S : Lc) (id name : List UInt8) (tags : List (List UInt8)) (port : Int) : Int :=
  if port < 0 ∨ 65535 < port then 2 else if ¬ (okN id = true ∧ okN name = true ∧ tagN tags = true) then 10 else if gt Sv.id S.sv id = none ∧ 16 ≤ S.sv.length then 5 else 0
theorem addE_2 {S : Lc} {id name : List UInt8} {tags : List (List UInt8)} {port : Int} (h : port < 0 ∨ 65535 < port) : addE S id name tags port = 2 := if_pos h
theorem addE_10 {S : Lc} {id name : List UInt8} {tags : List (List UInt8)} {port : Int} (h : ¬ (port < 0 ∨ 65535 < port)) (h2 : ¬ (okN id = true ∧ okN name = true ∧ tagN tags = true)) : addE S id name tags port = 10 := by rw [addE, if_neg h, if_pos h2]
theorem addE_5 {S : Lc} {id name : List UInt8} {tags : List (List UInt8)} {port : Int} (h : ¬ (port < 0 ∨ 65535 < port)) (h2 : okN id = true ∧ okN name = true ∧ tagN tags = true) (h3 : gt Sv.id S.sv id = none ∧ 16 ≤ S.sv.length) : addE S id name tags port = 5 := by rw [addE, if_neg h, if_neg (fun hn => hn h2), if_pos h3]
theorem addE_0 {S : Lc} {id name : List UInt8} {tags : List (List UInt8)} {port : Int} (h : ¬ (port < 0 ∨ 65535 < port)) (h2 : okN id = true ∧ okN name = true ∧ tagN tags = true) (h3 : ¬ (gt Sv.id S.sv id = none ∧ 16 ≤ S.sv.length)) : addE S id name tags port = 0 := by rw [addE, if_neg h, if_neg (fun hn => hn h2), if_neg h3]
def aAdd (S : Lc) (s : Sv) : Lc := { S with sv := pt Sv.id S.sv s }
theorem tbl_pt (l : List Sv) (t : Sv) : ∃ M, (t.B ++ tbl l).Perm (tbl (pt Sv.id l t) ++ M) := by
  induction l with
  | nil => exact ⟨[], by simp [tbl, pt]⟩
  | cons x l ih =>
    unfold pt
    split
    · refine ⟨x.B, ?_⟩
      simp only [tbl, List.flatMap_cons, List.append_assoc]
      exact List.Perm.append_left _ List.perm_append_comm
    · obtain ⟨M, hM⟩ := ih
      refine ⟨M, ?_⟩
      simp only [tbl, List.flatMap_cons, List.append_assoc] at hM ⊢
      refine List.Perm.trans ?_ (List.Perm.append_left x.B hM)
      rw [← List.append_assoc, ← List.append_assoc]
      exact List.Perm.append_right _ List.perm_append_comm
theorem Agt.add {b ms mc : Nat} {oC o' : Obj} {S : Lc} {t : Sv} (h1 : S.sv.length ≤ 16) (h2 : S.ch.length ≤ 16) (h3 : (S.sv.map Sv.id).Nodup) (h4 : (S.ch.map Ch.id).Nodup) (h5 : ∀ s ∈ S.sv, Sl 9 1 s.tv (s.tags.map rs) s.B ∧ s.tags.length ≤ 4) (h6 : ∀ c ∈ S.ch, ¬ c.h.p.kind = 0)
    (hmC : Mp str oC (ckv S.node S.ch)) (hf : ¬ (gt Sv.id S.sv t.id = none ∧ 16 ≤ S.sv.length)) (ht : Sl 9 1 t.tv (t.tags.map rs) t.B ∧ t.tags.length ≤ 4) (hm : Mp str o' (kput (skv S.node S.sv) t.id (.agg (svc S.node t).toArray))) :
    Agt b (aAdd S t) (LO b S.node S.addr ms mc o' oC (tbl (pt Sv.id S.sv t) ++ S.ch.map hblk)) := by
  refine ⟨?_, h2, pt_nodup h3, h4, fun s hs => ?_, h6, ms, mc, o', oC, ?_, hmC, rfl⟩
  · show (pt Sv.id S.sv t).length ≤ 16
    rw [pt_len]
    split
    · exact h1
    · rename_i hn
      have : gt Sv.id S.sv t.id = none := by simpa using hn
      have : ¬ 16 ≤ S.sv.length := fun h => hf ⟨this, h⟩
      omega
  · rcases pt_mem hs with rfl | hs
    · exact ht
    · exact h5 s hs
  · have := kput_v Sv.id (fun s : Sv => Value.agg (svc S.node s).toArray) S.sv t
    show Mp str o' (skv S.node (pt Sv.id S.sv t))
    rw [show skv S.node (pt Sv.id S.sv t) = _ from this.symm]
    exact hm
theorem rs_one (l : List (List UInt8)) : ∀ r ∈ l.map rs, ∀ u ∈ r, u.oneCell' = true := by
  intro r hr u hu
  obtain ⟨x, _, rfl⟩ := List.mem_map.1 hr
  rw [List.mem_singleton.1 hu]
  rfl
theorem add_perm {α : Type} {a b c : α} {B T H T' M : List α} (h : (B ++ T).Perm (T' ++ M)) : (B ++ a :: b :: c :: (T ++ H)).Perm ((a :: b :: c :: (T' ++ H)) ++ M) := by
  have e1 : (B ++ a :: b :: c :: (T ++ H)).Perm ([a, b, c] ++ ((B ++ T) ++ H)) := by
    rw [show B ++ a :: b :: c :: (T ++ H) = (B ++ [a, b, c]) ++ (T ++ H) from by simp, show [a, b, c] ++ ((B ++ T) ++ H) = ([a, b, c] ++ B) ++ (T ++ H) from by simp]
    exact List.Perm.append_right _ List.perm_append_comm
  refine e1.trans ?_
  refine (List.Perm.append_left _ (List.Perm.append_right H h)).trans ?_
  rw [show (a :: b :: c :: (T' ++ H)) ++ M = [a, b, c] ++ (T' ++ (H ++ M)) from by simp, show T' ++ M ++ H = T' ++ (M ++ H) from by simp]
  exact List.Perm.append_left _ (List.Perm.append_left _ List.perm_append_comm)
section
variable {b : Nat} {S : Lc} {L : List (Nat × Obj)} {w : World}
theorem add_d (sn port : Int) (mk ix : Int) (id name : List UInt8) (tags : List (List UInt8)) (v : Value) (hra : RdA w v 1 (tags.map rs) (L.map Prod.fst)) (hv1 : v.oneCell' = true) (h : Agt b S L) (hown : Own w L) :
    Ret Try.prog 24 #[.pointer (some ⟨b, 0, none⟩), .agg #[.int .i64 sn, str id, str name, v, .int .i64 port, .int .u64 mk, .int .u64 ix]] w fun u w' => u = .int .i64 (addE S id name tags port) ∧ ∃ S' L', (addE S id name tags port = 0 → ∃ tv B, S' = aAdd S ⟨id, name, tags, port, tv, B⟩) ∧ (¬ addE S id name tags port = 0 → S' = S) ∧ Agt b S' L' ∧ St w (L.map Prod.fst) L' w' := by
  have hw := h
  obtain ⟨hs16, hc16, hsu, hcu, htg, hck, ms, mc, oS, oC, hmS, hmC, rfl⟩ := h
  have hS := St.init hown
  generalize hX : (LO b S.node S.addr ms mc oS oC (tbl S.sv ++ S.ch.map hblk)).map Prod.fst = X at hS hra ⊢
  generalize hD : tbl S.sv ++ S.ch.map hblk = D at hS hw
  refine Ret.enter Try.func24 Try.ntmps24 rfl rfl ?_
  simp only [argEnv, Nat.reduceAdd]
  refine SatC.seq ?_
  refine SatC.region ?_
  refine SatL.op rfl (OpW.box hS rfl rfl (by repeat constructor) ?_)
  clear hS
  intro b3 w1 _ hS
  refine SatL.pu (RunV.assign rfl) rfl ?_
  refine SatL.nil (SatE.thenC ?_)
  refine SatC.seq ?_
  refine SatC.block ?_
  refine SatC.seq ?_
  refine SatC.region ?_
  refine SatL.pu (RunV.move rfl) rfl ?_
  refine SatL.op rfl (OpW.enter rfl rfl rfl (rfl) (lnone_any (hS.ownT (A := [(b, C 63 (lcc S.node S.addr ms mc))]) (by repeat constructor))) ?_)
  rintro r2 w2 ⟨rfl, h⟩
  replace hS := St.callN hS h
  refine SatL.pu (RunV.assign rfl) rfl ?_
  refine SatL.nil (SatE.thenC ?_)
  refine SatC.cond rfl (fun h1 => ?_) (fun h1 => ?_)
  · (try simp only [cx, ne_eq] at h1)
    try (exfalso; (first | omega | exact h1 trivial | contradiction | (first | omega | (simp at h1; done))); done)
    all_goals
    refine SatC.seq ?_
    refine SatC.region ?_
    refine SatL.pu (RunV.assign rfl) rfl ?_
    refine SatL.nil (SatE.thenC ?_)
    refine SatC.ret (SatE.blk_ret (SatE.then_ret ?_))
    refine SatE.ret1 rfl rfl ?_
    have e := addE_2 (S := S) (id := id) (name := name) (tags := tags) (port := port) (by omega)
    exact ⟨by rw [e], S, _, fun h0 => absurd h0 (by rw [e]; decide), fun _ => rfl, hw, hS.sel (by repeat constructor)⟩
  · (try simp only [cx, ne_eq] at h1)
    try (exfalso; (first | omega | exact h1 trivial | contradiction | (first | omega | (simp at h1; done))); done)
    all_goals
    refine SatC.seq ?_
    refine SatC.region ?_
    first | refine SatL.pu (RunV.fieldAddrL rfl rfl rfl) rfl ?_ | refine SatL.pu (RunV.fieldAddr rfl rfl rfl) rfl ?_
    refine SatL.pu (RunV.load1 hS rfl rfl (by repeat constructor) rfl) rfl ?_
    refine SatL.pu (RunV.lss rfl rfl) rfl ?_
    refine SatL.pu (RunV.move rfl) rfl ?_
    refine SatL.guard rfl rfl rfl (fun h2 => ?_) (fun h2 => ?_)
    · (try simp only [cx, ne_eq] at h2)
      try (exfalso; (first | omega | exact h2 trivial | contradiction | (first | omega | (simp at h2; done))); done)
      all_goals
      first | refine SatL.pu (RunV.fieldAddrL rfl rfl rfl) rfl ?_ | refine SatL.pu (RunV.fieldAddr rfl rfl rfl) rfl ?_
      refine SatL.guard_y rfl rfl ?_
      refine SatL.pu (RunV.load1 hS rfl rfl (by repeat constructor) rfl) rfl ?_
      refine SatL.guard_y rfl rfl ?_
      refine SatL.pu (RunV.gtr rfl rfl) rfl ?_
      refine SatL.pu (RunV.pick_f rfl rfl) rfl ?_
      refine SatL.pu (RunV.assign rfl) rfl ?_
      refine SatL.nil (SatE.thenC ?_)
      refine SatC.weak (e' := [(0, _), (3, _), (4, _), (8, _)]) (by repeat constructor) ?_
      refine SatC.cond rfl (fun h3 => ?_) (fun h3 => ?_)
      · (try simp only [cx, ne_eq] at h3)
        try (exfalso; (first | omega | exact h3 trivial | contradiction | (first | omega | (simp at h3; done))); done)
        all_goals
        refine SatC.seq ?_
        refine SatC.region ?_
        refine SatL.pu (RunV.assign rfl) rfl ?_
        refine SatL.nil (SatE.thenC ?_)
        refine SatC.ret (SatE.blk_ret (SatE.then_ret ?_))
        refine SatE.ret1 rfl rfl ?_
        have e := addE_2 (S := S) (id := id) (name := name) (tags := tags) (port := port) (by omega)
        exact ⟨by rw [e], S, _, fun h0 => absurd h0 (by rw [e]; decide), fun _ => rfl, hw, hS.sel (by repeat constructor)⟩
      · (try simp only [cx, ne_eq] at h3)
        try (exfalso; (first | omega | exact h3 trivial | contradiction | (first | omega | (simp at h3; done))); done)
        all_goals
        refine SatC.seq ?_
        refine SatC.region ?_
        first | refine SatL.pu (RunV.fieldAddrL rfl rfl rfl) rfl ?_ | refine SatL.pu (RunV.fieldAddr rfl rfl rfl) rfl ?_
        refine SatL.pu (RunV.load1 hS rfl rfl (by repeat constructor) rfl) rfl ?_
        refine SatL.op rfl (OpW.enter rfl rfl rfl (rfl) (right_any _ _) ?_)
        rintro r3 w3 ⟨rfl, h⟩
        replace hS := St.callN hS h
        refine SatL.pu (RunV.not rfl) rfl ?_
        refine SatL.pu (RunV.move rfl) rfl ?_
        refine SatL.guard rfl rfl rfl (fun h4 => ?_) (fun h4 => ?_)
        · (try simp only [cx, ne_eq] at h4)
          try (exfalso; (first | omega | exact h4 trivial | contradiction | (first | omega | (simp at h4; done))); done)
          all_goals
          first | refine SatL.pu (RunV.fieldAddrL rfl rfl rfl) rfl ?_ | refine SatL.pu (RunV.fieldAddr rfl rfl rfl) rfl ?_
          refine SatL.guard_y rfl rfl ?_
          refine SatL.pu (RunV.load1 hS rfl rfl (by repeat constructor) rfl) rfl ?_
          refine SatL.guard_y rfl rfl ?_
          refine SatL.op rfl (OpW.enter rfl rfl rfl (rfl) (right_any _ _) ?_)
          rintro r4 w4 ⟨rfl, h⟩
          replace hS := St.callN hS h
          refine SatL.guard_y rfl rfl ?_
          refine SatL.pu (RunV.not rfl) rfl ?_
          refine SatL.pu (RunV.pick_f rfl rfl) rfl ?_
          refine SatL.pu (RunV.move rfl) rfl ?_
          refine SatL.guard rfl rfl rfl (fun h5 => ?_) (fun h5 => ?_)
          · (try simp only [cx, ne_eq] at h5)
            try (exfalso; (first | omega | exact h5 trivial | contradiction | (first | omega | (simp at h5; done))); done)
            all_goals
            first | refine SatL.pu (RunV.fieldAddrL rfl rfl rfl) rfl ?_ | refine SatL.pu (RunV.fieldAddr rfl rfl rfl) rfl ?_
            refine SatL.guard_y rfl rfl ?_
            refine SatL.pu (RunV.load1 hS rfl rfl (by repeat constructor) rfl) rfl ?_
            refine SatL.guard_y rfl rfl ?_
            refine SatL.op rfl (OpW.enter rfl rfl rfl (rfl) (tags_any _ _ _ (hra.rd hS Nat.one_pos)) ?_)
            rintro r5 w5 ⟨rfl, h⟩
            replace hS := St.callN hS h
            refine SatL.guard_y rfl rfl ?_
            refine SatL.pu (RunV.not rfl) rfl ?_
            refine SatL.pu (RunV.pick_f rfl rfl) rfl ?_
            refine SatL.pu (RunV.assign rfl) rfl ?_
            refine SatL.nil (SatE.thenC ?_)
            refine SatC.weak (e' := [(0, _), (3, _), (4, _), (17, _)]) (by repeat constructor) ?_
            refine SatC.cond rfl (fun h6 => ?_) (fun h6 => ?_)
            · (try simp only [cx, ne_eq] at h6)
              try (exfalso; (first | omega | exact h6 trivial | contradiction | (first | omega | (simp at h6; done))); done)
              all_goals
              refine SatC.seq ?_
              refine SatC.region ?_
              refine SatL.pu (RunV.assign rfl) rfl ?_
              refine SatL.nil (SatE.thenC ?_)
              refine SatC.ret (SatE.blk_ret (SatE.then_ret ?_))
              refine SatE.ret1 rfl rfl ?_
              have e := addE_10 (S := S) (id := id) (name := name) (tags := tags) (port := port) (by omega) (by simp_all)
              exact ⟨by rw [e], S, _, fun h0 => absurd h0 (by rw [e]; decide), fun _ => rfl, hw, hS.sel (by repeat constructor)⟩
            · (try simp only [cx, ne_eq] at h6)
              try (exfalso; (first | omega | exact h6 trivial | contradiction | (first | omega | (simp at h6; done))); done)
              all_goals
              refine SatC.seq ?_
              refine SatC.drawnT 8 hS (hS) (by kernel_rfl) ?_
              clear hS
              intro w6 hh hS hD
              refine SatD.tk 0 rfl hD (fun _ hw => RunV.move rfl) ?_
              first | refine SatD.tk 1 rfl hD (fun _ hw => RunV.nil_ptr rfl) ?_ | refine SatD.tk 1 rfl hD (fun _ hw => RunV.nil_func rfl) ?_ | refine SatD.tk 1 rfl hD (fun _ hw => RunV.nil_yield rfl) ?_
              first | refine SatD.tk 2 rfl hD (fun _ hw => RunV.fieldAddrL rfl rfl rfl) ?_ | refine SatD.tk 2 rfl hD (fun _ hw => RunV.fieldAddr rfl rfl rfl) ?_
              refine SatD.tk 3 rfl hD (fun _ hw => RunV.load1 hw rfl rfl (by repeat constructor) rfl) ?_
              first | refine SatD.tk 4 rfl hD (fun _ hw => RunV.fieldAddrL rfl rfl rfl) ?_ | refine SatD.tk 4 rfl hD (fun _ hw => RunV.fieldAddr rfl rfl rfl) ?_
              refine SatD.tk 5 rfl hD (fun _ hw => RunV.load1 hw rfl rfl (by repeat constructor) rfl) ?_
              refine SatD.ef 6 rfl (OpW.enter rfl rfl rfl (rfl) (fullS_any S.sv (fun s hs => (htg s hs).1.one) _ _ _ hmS (hS.ownT (A := [(ms, oS)]) (by repeat constructor))) ?_)
              rintro r7 w7 ⟨rfl, h⟩
              replace hS := St.callN hS h
              refine keepS (hS.sel (by repeat constructor)) (fun hD => ?_)
              refine SatD.tk 7 rfl hD (fun _ hw => RunV.assign rfl) ?_
              refine SatD.done 0 (by kernel_rfl) (SatE.thenC ?_)
              clear hD
              refine SatC.cond rfl (fun h7 => ?_) (fun h7 => ?_)
              · (try simp only [cx, ne_eq] at h7)
                try (exfalso; (first | omega | exact h7 trivial | contradiction | (first | omega | (simp at h7; done))); done)
                all_goals
                refine SatC.seq ?_
                refine SatC.region ?_
                refine SatL.pu (RunV.assign rfl) rfl ?_
                refine SatL.nil (SatE.thenC ?_)
                refine SatC.ret (SatE.blk_ret (SatE.then_ret ?_))
                refine SatE.ret1 rfl rfl ?_
                have e := addE_5 (S := S) (id := id) (name := name) (tags := tags) (port := port) (by omega) ⟨by assumption, by assumption, by assumption⟩ (by assumption)
                exact ⟨by rw [e], S, _, fun h0 => absurd h0 (by rw [e]; decide), fun _ => rfl, hw, hS.sel (by repeat constructor)⟩
              · (try simp only [cx, ne_eq] at h7)
                try (exfalso; (first | omega | exact h7 trivial | contradiction | (first | omega | (simp at h7; done))); done)
                all_goals
                refine SatC.skip (SatE.blk_normal (SatE.thenC ?_))
                refine SatC.seq ?_
                have ht4 : tags.length ≤ 4 := (tagN_iff tags).1 (by assumption) |>.1
                obtain ⟨bt, ot, ct, htv, htc, htm, htx⟩ := hra
                rw [List.length_map] at htv
                refine SatC.drawnT 21 hS (hS) (by kernel_rfl) ?_
                clear hS
                intro w8 hh hS hD
                refine SatD.tk 0 rfl hD (fun _ hw => RunV.move rfl) ?_
                first | refine SatD.tk 1 rfl hD (fun _ hw => RunV.nil_ptr rfl) ?_ | refine SatD.tk 1 rfl hD (fun _ hw => RunV.nil_func rfl) ?_ | refine SatD.tk 1 rfl hD (fun _ hw => RunV.nil_yield rfl) ?_
                first | refine SatD.tk 2 rfl hD (fun _ hw => RunV.fieldAddrL rfl rfl rfl) ?_ | refine SatD.tk 2 rfl hD (fun _ hw => RunV.fieldAddr rfl rfl rfl) ?_
                refine SatD.tk 3 rfl hD (fun _ hw => RunV.load1 hw rfl rfl (by repeat constructor) rfl) ?_
                first | refine SatD.tk 4 rfl hD (fun _ hw => RunV.fieldAddrL rfl rfl rfl) ?_ | refine SatD.tk 4 rfl hD (fun _ hw => RunV.fieldAddr rfl rfl rfl) ?_
                refine SatD.tk 5 rfl hD (fun _ hw => RunV.load1 hw rfl rfl (by repeat constructor) rfl) ?_
                refine SatD.tk 6 rfl hD (fun _ hw => RunV.move rfl) ?_
                first | refine SatD.tk 7 rfl hD (fun _ hw => RunV.nil_ptr rfl) ?_ | refine SatD.tk 7 rfl hD (fun _ hw => RunV.nil_func rfl) ?_ | refine SatD.tk 7 rfl hD (fun _ hw => RunV.nil_yield rfl) ?_
                first | refine SatD.tk 8 rfl hD (fun _ hw => RunV.fieldAddrL rfl rfl rfl) ?_ | refine SatD.tk 8 rfl hD (fun _ hw => RunV.fieldAddr rfl rfl rfl) ?_
                refine SatD.tk 9 rfl hD (fun _ hw => RunV.load1 hw rfl rfl (by repeat constructor) rfl) ?_
                first | refine SatD.tk 10 rfl hD (fun _ hw => RunV.fieldAddrL rfl rfl rfl) ?_ | refine SatD.tk 10 rfl hD (fun _ hw => RunV.fieldAddr rfl rfl rfl) ?_
                refine SatD.tk 11 rfl hD (fun _ hw => RunV.load1 hw rfl rfl (by repeat constructor) rfl) ?_
                first | refine SatD.tk 12 rfl hD (fun _ hw => RunV.fieldAddrL rfl rfl rfl) ?_ | refine SatD.tk 12 rfl hD (fun _ hw => RunV.fieldAddr rfl rfl rfl) ?_
                refine SatD.tk 13 rfl hD (fun _ hw => RunV.load1 hw rfl rfl (by repeat constructor) rfl) ?_
                first | refine SatD.tk 15 rfl hD (fun _ hw => RunV.fieldAddrL rfl rfl rfl) ?_ | refine SatD.tk 15 rfl hD (fun _ hw => RunV.fieldAddr rfl rfl rfl) ?_
                refine SatD.tk 16 rfl hD (fun _ hw => RunV.load1 hw rfl rfl (by repeat constructor) rfl) ?_
                first | refine SatD.tk 18 rfl hD (fun _ hw => RunV.fieldAddrL rfl rfl rfl) ?_ | refine SatD.tk 18 rfl hD (fun _ hw => RunV.fieldAddr rfl rfl rfl) ?_
                refine SatD.tk 19 rfl hD (fun _ hw => RunV.load1 hw rfl rfl (by repeat constructor) rfl) ?_
                refine SatD.ef 14 rfl (OpW.buildSlice0 hS rfl rfl rfl ?_)
                clear hS
                intro v56 b56 w9 _ hsl56 hv56 hS
                refine keepS (hS.sel (by repeat constructor)) (fun hD => ?_)
                refine SatD.ef 17 rfl (OpW.appendN (rows := []) hsl56 hS (by repeat constructor) htv (htc.st (hS.sel (by repeat constructor)) htx) (by rw [List.length_map]) rfl rfl rfl rfl rfl rfl rfl (rs_one _) (by simp; omega) rfl ?_)
                clear hS
                intro v59 B59 w59 hsl59 hS
                refine keepS (hS.sel (by repeat constructor)) (fun hD => ?_)
                refine SatD.tk 20 rfl hD (fun _ hw => RunV.build (v := .agg (svc S.node ⟨id, name, tags, port, v59, B59⟩).toArray) rfl (by obtain ⟨c1, h1⟩ := hsl59.slv; obtain ⟨A1, rfl, _⟩ := h1.eq; simp [go_sem]; try rfl)) ?_
                refine SatD.effF (by kernel_rfl) rfl rfl (OpW.mapUpdateM (keyL rfl) hS rfl rfl rfl rfl hmS _ (fun o' => by repeat constructor) ?_)
                clear hS
                intro o8 w11 hmp8 hS
                refine SatD.done 0 (by kernel_rfl) (SatE.thenC ?_)
                clear hD
                refine SatC.seq ?_
                refine SatC.weak (e' := [(4, _)]) (by repeat constructor) ?_
                refine SatC.region ?_
                refine SatL.pu (RunV.assign rfl) rfl ?_
                refine SatL.nil (SatE.thenC ?_)
                refine SatC.ret ?_
                refine SatE.ret1 rfl rfl ?_
                have e := addE_0 (S := S) (id := id) (name := name) (tags := tags) (port := port) (by omega) ⟨by assumption, by assumption, by assumption⟩ (by assumption)
                refine ⟨by rw [e], _, _, fun _ => ⟨v59, B59, rfl⟩, fun h0 => absurd e h0, Agt.add (mc := mc) (ms := ms) (o' := o8) (oC := oC) hs16 hc16 hsu hcu htg hck hmC (by assumption) ⟨hsl59, ht4⟩ hmp8, ?_⟩
                have hS2 := hS.sel (R := B59 ++ LO b S.node S.addr ms mc o8 oC D) (by repeat constructor)
                obtain ⟨M, hM⟩ := tbl_pt S.sv ⟨id, name, tags, port, v59, B59⟩
                refine (hS2.perm (L' := LO b S.node S.addr ms mc o8 oC (tbl (pt Sv.id S.sv ⟨id, name, tags, port, v59, B59⟩) ++ S.ch.map hblk) ++ M) ?_).sub (List.sublist_append_left _ _)
                subst D
                exact add_perm hM
          · (try simp only [cx, ne_eq] at h5)
            try (exfalso; (first | omega | exact h5 trivial | contradiction | (first | omega | (simp at h5; done))); done)
            all_goals
            refine SatL.guard_n rfl rfl rfl rfl ?_
            refine SatL.guard_n rfl rfl rfl rfl ?_
            refine SatL.guard_n rfl rfl rfl rfl ?_
            refine SatL.pu (RunV.pick_t rfl rfl) rfl ?_
            refine SatL.pu (RunV.assign rfl) rfl ?_
            refine SatL.nil (SatE.thenC ?_)
            refine SatC.weak (e' := [(0, _), (3, _), (4, _), (17, _)]) (by repeat constructor) ?_
            refine SatC.cond_t rfl ?_
            refine SatC.seq ?_
            refine SatC.region ?_
            refine SatL.pu (RunV.assign rfl) rfl ?_
            refine SatL.nil (SatE.thenC ?_)
            refine SatC.ret (SatE.blk_ret (SatE.then_ret ?_))
            refine SatE.ret1 rfl rfl ?_
            have e := addE_10 (S := S) (id := id) (name := name) (tags := tags) (port := port) (by omega) (by simp_all)
            exact ⟨by rw [e], S, _, fun h0 => absurd h0 (by rw [e]; decide), fun _ => rfl, hw, hS.sel (by repeat constructor)⟩
        · (try simp only [cx, ne_eq] at h4)
          try (exfalso; (first | omega | exact h4 trivial | contradiction | (first | omega | (simp at h4; done))); done)
          all_goals
          refine SatL.guard_n rfl rfl rfl rfl ?_
          refine SatL.guard_n rfl rfl rfl rfl ?_
          refine SatL.guard_n rfl rfl rfl rfl ?_
          refine SatL.pu (RunV.pick_t rfl rfl) rfl ?_
          refine SatL.pu (RunV.move rfl) rfl ?_
          refine SatL.guard_n rfl rfl rfl rfl ?_
          refine SatL.guard_n rfl rfl rfl rfl ?_
          refine SatL.guard_n rfl rfl rfl rfl ?_
          refine SatL.guard_n rfl rfl rfl rfl ?_
          refine SatL.pu (RunV.pick_t rfl rfl) rfl ?_
          refine SatL.pu (RunV.assign rfl) rfl ?_
          refine SatL.nil (SatE.thenC ?_)
          refine SatC.weak (e' := [(0, _), (3, _), (4, _), (17, _)]) (by repeat constructor) ?_
          refine SatC.cond_t rfl ?_
          refine SatC.seq ?_
          refine SatC.region ?_
          refine SatL.pu (RunV.assign rfl) rfl ?_
          refine SatL.nil (SatE.thenC ?_)
          refine SatC.ret (SatE.blk_ret (SatE.then_ret ?_))
          refine SatE.ret1 rfl rfl ?_
          have e := addE_10 (S := S) (id := id) (name := name) (tags := tags) (port := port) (by omega) (by simp_all)
          exact ⟨by rw [e], S, _, fun h0 => absurd h0 (by rw [e]; decide), fun _ => rfl, hw, hS.sel (by repeat constructor)⟩
    · (try simp only [cx, ne_eq] at h2)
      try (exfalso; (first | omega | exact h2 trivial | contradiction | (first | omega | (simp at h2; done))); done)
      all_goals
      refine SatL.guard_n rfl rfl rfl rfl ?_
      refine SatL.guard_n rfl rfl rfl rfl ?_
      refine SatL.pu (RunV.pick_t rfl rfl) rfl ?_
      refine SatL.pu (RunV.assign rfl) rfl ?_
      refine SatL.nil (SatE.thenC ?_)
      refine SatC.weak (e' := [(0, _), (3, _), (4, _), (8, _)]) (by repeat constructor) ?_
      refine SatC.cond_t rfl ?_
      refine SatC.seq ?_
      refine SatC.region ?_
      refine SatL.pu (RunV.assign rfl) rfl ?_
      refine SatL.nil (SatE.thenC ?_)
      refine SatC.ret (SatE.blk_ret (SatE.then_ret ?_))
      refine SatE.ret1 rfl rfl ?_
      have e := addE_2 (S := S) (id := id) (name := name) (tags := tags) (port := port) (by omega)
      exact ⟨by rw [e], S, _, fun h0 => absurd h0 (by rw [e]; decide), fun _ => rfl, hw, hS.sel (by repeat constructor)⟩
end
end Go.Proofs.Ytbnkcagcfbpiiaa
