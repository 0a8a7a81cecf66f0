/- Add, RemoveCheck. RemoveCheck, Told, Maintain, AddCheck. worst, Health. Services, Checks. -/
import Derived.Test.YtbnkcagcfbpiiaaMa
set_option linter.unusedSimpArgs false
set_option linter.unusedVariables false
set_option maxRecDepth 100000
set_option maxHeartbeats 4000000
namespace Go.Proofs.Ytbnkcagcfbpiiaa
open Go.RowKit
/-- Rows to be read that lie apart from one's own blocks. -/
def RdA (w : World) (v : Value) (k : Nat) (xs : List (List Value)) (X : List Nat) : Prop := ∃ b o c, SlV v b o xs.length c ∧ RdC w b o k xs ∧ xs.length ≤ 9223372036854775807 ∧ b ∉ X
theorem RdA.of {w0 w : World} {L : List (Nat × Obj)} {v : Value} {k : Nat} {xs : List (List Value)} (h : RdRow w0 v k xs) (hS : St w0 [] L w) : RdA w v k xs (L.map Prod.fst) := by
  obtain ⟨b, o, c, hv, hm, hc, hlt⟩ := h.open
  by_cases hp : 0 < xs.length
  · refine ⟨b, o, c, hv, hc.st hS List.not_mem_nil, hm, fun hb => ?_⟩
    obtain ⟨p, hp1, hp2⟩ := List.mem_map.1 hb
    have hl := hlt hp
    rcases hS.wr p hp1 with h' | h'
    · cases h'
    · omega
  · have h0 : xs = [] := List.eq_nil_of_length_eq_zero (by omega)
    subst h0
    refine ⟨w.heap.size, 0, c, ?_, fun i r hi => by simp at hi, hm, fun hb => ?_⟩
    · obtain ⟨A, rfl, hA⟩ := hv.eq
      exact ⟨⟨A, rfl, fun h => by simp at h⟩, hv.le⟩
    · obtain ⟨p, hp1, hp2⟩ := List.mem_map.1 hb
      have := hS.lt hp1
      omega
theorem RdA.rd {w w' : World} {L : List (Nat × Obj)} {v : Value} {k : Nat} {xs : List (List Value)} {X : List Nat} (h : RdA w v k xs X) (hS : St w X L w') (hk : 0 < k) : RdRow w' v k xs := by
  obtain ⟨b, o, c, hv, hc, hm, hb⟩ := h
  exact RdRow.of hv rfl hm (hc.st hS hb) hk
theorem RdA.nil (w : World) (k : Nat) (L : List (Nat × Obj)) (hown : Own w L) : RdA w (.slice none 0 0) k [] (L.map Prod.fst) := by
  refine ⟨w.heap.size, 0, 0, ⟨⟨none, rfl, fun h => by simp at h⟩, Nat.le_refl _⟩, fun i r hi => by simp at hi, by simp, fun hb => ?_⟩
  obtain ⟨p, hp1, hp2⟩ := List.mem_map.1 hb
  have := (Array.getElem?_eq_some_iff.1 (hown.1 p hp1)).1
  omega
def addE (S : Lc) (id name : List UInt8) (tags : List (List UInt8)) (port : Int) : Int :=
  if port < 0 ∨ 65535 < port then 2 else if ¬ (okN id = true ∧ okN name = true ∧ tagN tags = true) then 10 else if gt Sv.id S.sv id = none ∧ 16 ≤ S.sv.length then 5 else 0
theorem addE_2 {S : Lc} {id name : List UInt8} {tags : List (List UInt8)} {port : Int} (h : port < 0 ∨ 65535 < port) : addE S id name tags port = 2 := if_pos h
theorem addE_10 {S : Lc} {id name : List UInt8} {tags : List (List UInt8)} {port : Int} (h : ¬ (port < 0 ∨ 65535 < port)) (h2 : ¬ (okN id = true ∧ okN name = true ∧ tagN tags = true)) : addE S id name tags port = 10 := by rw [addE, if_neg h, if_pos h2]
theorem addE_5 {S : Lc} {id name : List UInt8} {tags : List (List UInt8)} {port : Int} (h : ¬ (port < 0 ∨ 65535 < port)) (h2 : okN id = true ∧ okN name = true ∧ tagN tags = true) (h3 : gt Sv.id S.sv id = none ∧ 16 ≤ S.sv.length) : addE S id name tags port = 5 := by rw [addE, if_neg h, if_neg (fun hn => hn h2), if_pos h3]
theorem addE_0 {S : Lc} {id name : List UInt8} {tags : List (List UInt8)} {port : Int} (h : ¬ (port < 0 ∨ 65535 < port)) (h2 : okN id = true ∧ okN name = true ∧ tagN tags = true) (h3 : ¬ (gt Sv.id S.sv id = none ∧ 16 ≤ S.sv.length)) : addE S id name tags port = 0 := by rw [addE, if_neg h, if_neg (fun hn => hn h2), if_neg h3]
def aAdd (S : Lc) (s : Sv) : Lc := { S with sv := pt Sv.id S.sv s }
theorem tbl_pt (l : List Sv) (t : Sv) : ∃ M, (t.B ++ tbl l).Perm (tbl (pt Sv.id l t) ++ M) := by
  induction l with
  | nil => exact ⟨[], by simp [tbl, pt]⟩
  | cons x l ih =>
    unfold pt
    split
    · refine ⟨x.B, ?_⟩
      simp only [tbl, List.flatMap_cons, List.append_assoc]
      exact List.Perm.append_left _ List.perm_append_comm
    · obtain ⟨M, hM⟩ := ih
      refine ⟨M, ?_⟩
      simp only [tbl, List.flatMap_cons, List.append_assoc] at hM ⊢
      refine List.Perm.trans ?_ (List.Perm.append_left x.B hM)
      rw [← List.append_assoc, ← List.append_assoc]
      exact List.Perm.append_right _ List.perm_append_comm
theorem Agt.add {b ms mc : Nat} {oC o' : Obj} {S : Lc} {t : Sv} (h1 : S.sv.length ≤ 16) (h2 : S.ch.length ≤ 16) (h3 : (S.sv.map Sv.id).Nodup) (h4 : (S.ch.map Ch.id).Nodup) (h5 : ∀ s ∈ S.sv, Sl 9 1 s.tv (s.tags.map rs) s.B ∧ s.tags.length ≤ 4) (h6 : ∀ c ∈ S.ch, ¬ c.h.p.kind = 0)
    (hmC : Mp str oC (ckv S.node S.ch)) (hf : ¬ (gt Sv.id S.sv t.id = none ∧ 16 ≤ S.sv.length)) (ht : Sl 9 1 t.tv (t.tags.map rs) t.B ∧ t.tags.length ≤ 4) (hm : Mp str o' (kput (skv S.node S.sv) t.id (.agg (svc S.node t).toArray))) :
    Agt b (aAdd S t) (LO b S.node S.addr ms mc o' oC (tbl (pt Sv.id S.sv t) ++ S.ch.map hblk)) := by
  refine ⟨?_, h2, pt_nodup h3, h4, fun s hs => ?_, h6, ms, mc, o', oC, ?_, hmC, rfl⟩
  · show (pt Sv.id S.sv t).length ≤ 16
    rw [pt_len]
    split
    · exact h1
    · rename_i hn
      have : gt Sv.id S.sv t.id = none := by simpa using hn
      have : ¬ 16 ≤ S.sv.length := fun h => hf ⟨this, h⟩
      omega
  · rcases pt_mem hs with rfl | hs
    · exact ht
    · exact h5 s hs
  · have := kput_v Sv.id (fun s : Sv => Value.agg (svc S.node s).toArray) S.sv t
    show Mp str o' (skv S.node (pt Sv.id S.sv t))
    rw [show skv S.node (pt Sv.id S.sv t) = _ from this.symm]
    exact hm
theorem rs_one (l : List (List UInt8)) : ∀ r ∈ l.map rs, ∀ u ∈ r, u.oneCell' = true := by
  intro r hr u hu
  obtain ⟨x, _, rfl⟩ := List.mem_map.1 hr
  rw [List.mem_singleton.1 hu]
  rfl
theorem add_perm {α : Type} {a b c : α} {B T H T' M : List α} (h : (B ++ T).Perm (T' ++ M)) : (B ++ a :: b :: c :: (T ++ H)).Perm ((a :: b :: c :: (T' ++ H)) ++ M) := by
  have e1 : (B ++ a :: b :: c :: (T ++ H)).Perm ([a, b, c] ++ ((B ++ T) ++ H)) := by
    rw [show B ++ a :: b :: c :: (T ++ H) = (B ++ [a, b, c]) ++ (T ++ H) from by simp, show [a, b, c] ++ ((B ++ T) ++ H) = ([a, b, c] ++ B) ++ (T ++ H) from by simp]
    exact List.Perm.append_right _ List.perm_append_comm
  refine e1.trans ?_
  refine (List.Perm.append_left _ (List.Perm.append_right H h)).trans ?_
  rw [show (a :: b :: c :: (T' ++ H)) ++ M = [a, b, c] ++ (T' ++ (H ++ M)) from by simp, show T' ++ M ++ H = T' ++ (M ++ H) from by simp]
  exact List.Perm.append_left _ (List.Perm.append_left _ List.perm_append_comm)
section
variable {b : Nat} {S : Lc} {L : List (Nat × Obj)} {w : World}
theorem add_d (sn port : Int) (mk ix : Int) (id name : List UInt8) (tags : List (List UInt8)) (v : Value) (hra : RdA w v 1 (tags.map rs) (L.map Prod.fst)) (hv1 : v.oneCell' = true) (h : Agt b S L) (hown : Own w L) :
    Ret Try.prog 24 #[.pointer (some ⟨b, 0, none⟩), .agg #[.int .i64 sn, str id, str name, v, .int .i64 port, .int .u64 mk, .int .u64 ix]] w fun u w' => u = .int .i64 (addE S id name tags port) ∧ ∃ S' L', (addE S id name tags port = 0 → ∃ tv B, S' = aAdd S ⟨id, name, tags, port, tv, B⟩) ∧ (¬ addE S id name tags port = 0 → S' = S) ∧ Agt b S' L' ∧ St w (L.map Prod.fst) L' w' := by
  have hw := h
  obtain ⟨hs16, hc16, hsu, hcu, htg, hck, ms, mc, oS, oC, hmS, hmC, rfl⟩ := h
  have hS := St.init hown
  generalize hX : (LO b S.node S.addr ms mc oS oC (tbl S.sv ++ S.ch.map hblk)).map Prod.fst = X at hS hra ⊢
  generalize hD : tbl S.sv ++ S.ch.map hblk = D at hS hw
  refine Ret.enter Try.func24 Try.ntmps24 rfl rfl ?_
  simp only [argEnv, Nat.reduceAdd]
  refine SatC.seq ?_
  refine SatC.region ?_
  refine SatL.op rfl (OpW.box hS rfl rfl (by repeat constructor) ?_)
  clear hS
  intro b3 w1 _ hS
  refine SatL.pu (RunV.assign rfl) rfl ?_
  refine SatL.nil (SatE.thenC ?_)
  refine SatC.seq ?_
  refine SatC.block ?_
  refine SatC.seq ?_
  refine SatC.region ?_
  refine SatL.pu (RunV.move rfl) rfl ?_
  refine SatL.op rfl (OpW.enter rfl rfl rfl (rfl) (lnone_any (hS.ownT (A := [(b, C 63 (lcc S.node S.addr ms mc))]) (by repeat constructor))) ?_)
  rintro r2 w2 ⟨rfl, h⟩
  replace hS := St.callN hS h
  refine SatL.pu (RunV.assign rfl) rfl ?_
  refine SatL.nil (SatE.thenC ?_)
  refine SatC.cond rfl (fun h1 => ?_) (fun h1 => ?_)
  · (try simp only [cx, ne_eq] at h1)
    try (exfalso; (first | omega | exact h1 trivial | contradiction | (first | omega | (simp at h1; done))); done)
    all_goals
    refine SatC.seq ?_
    refine SatC.region ?_
    refine SatL.pu (RunV.assign rfl) rfl ?_
    refine SatL.nil (SatE.thenC ?_)
    refine SatC.ret (SatE.blk_ret (SatE.then_ret ?_))
    refine SatE.ret1 rfl rfl ?_
    have e := addE_2 (S := S) (id := id) (name := name) (tags := tags) (port := port) (by omega)
    exact ⟨by rw [e], S, _, fun h0 => absurd h0 (by rw [e]; decide), fun _ => rfl, hw, hS.sel (by repeat constructor)⟩
  · (try simp only [cx, ne_eq] at h1)
    try (exfalso; (first | omega | exact h1 trivial | contradiction | (first | omega | (simp at h1; done))); done)
    all_goals
    refine SatC.seq ?_
    refine SatC.region ?_
    first | refine SatL.pu (RunV.fieldAddrL rfl rfl rfl) rfl ?_ | refine SatL.pu (RunV.fieldAddr rfl rfl rfl) rfl ?_
    refine SatL.pu (RunV.load1 hS rfl rfl (by repeat constructor) rfl) rfl ?_
    refine SatL.pu (RunV.lss rfl rfl) rfl ?_
    refine SatL.pu (RunV.move rfl) rfl ?_
    refine SatL.guard rfl rfl rfl (fun h2 => ?_) (fun h2 => ?_)
    · (try simp only [cx, ne_eq] at h2)
      try (exfalso; (first | omega | exact h2 trivial | contradiction | (first | omega | (simp at h2; done))); done)
      all_goals
      first | refine SatL.pu (RunV.fieldAddrL rfl rfl rfl) rfl ?_ | refine SatL.pu (RunV.fieldAddr rfl rfl rfl) rfl ?_
      refine SatL.guard_y rfl rfl ?_
      refine SatL.pu (RunV.load1 hS rfl rfl (by repeat constructor) rfl) rfl ?_
      refine SatL.guard_y rfl rfl ?_
      refine SatL.pu (RunV.gtr rfl rfl) rfl ?_
      refine SatL.pu (RunV.pick_f rfl rfl) rfl ?_
      refine SatL.pu (RunV.assign rfl) rfl ?_
      refine SatL.nil (SatE.thenC ?_)
      refine SatC.weak (e' := [(0, _), (3, _), (4, _), (8, _)]) (by repeat constructor) ?_
      refine SatC.cond rfl (fun h3 => ?_) (fun h3 => ?_)
      · (try simp only [cx, ne_eq] at h3)
        try (exfalso; (first | omega | exact h3 trivial | contradiction | (first | omega | (simp at h3; done))); done)
        all_goals
        refine SatC.seq ?_
        refine SatC.region ?_
        refine SatL.pu (RunV.assign rfl) rfl ?_
        refine SatL.nil (SatE.thenC ?_)
        refine SatC.ret (SatE.blk_ret (SatE.then_ret ?_))
        refine SatE.ret1 rfl rfl ?_
        have e := addE_2 (S := S) (id := id) (name := name) (tags := tags) (port := port) (by omega)
        exact ⟨by rw [e], S, _, fun h0 => absurd h0 (by rw [e]; decide), fun _ => rfl, hw, hS.sel (by repeat constructor)⟩
      · (try simp only [cx, ne_eq] at h3)
        try (exfalso; (first | omega | exact h3 trivial | contradiction | (first | omega | (simp at h3; done))); done)
        all_goals
        refine SatC.seq ?_
        refine SatC.region ?_
        first | refine SatL.pu (RunV.fieldAddrL rfl rfl rfl) rfl ?_ | refine SatL.pu (RunV.fieldAddr rfl rfl rfl) rfl ?_
        refine SatL.pu (RunV.load1 hS rfl rfl (by repeat constructor) rfl) rfl ?_
        refine SatL.op rfl (OpW.enter rfl rfl rfl (rfl) (right_any _ _) ?_)
        rintro r3 w3 ⟨rfl, h⟩
        replace hS := St.callN hS h
        refine SatL.pu (RunV.not rfl) rfl ?_
        refine SatL.pu (RunV.move rfl) rfl ?_
        refine SatL.guard rfl rfl rfl (fun h4 => ?_) (fun h4 => ?_)
        · (try simp only [cx, ne_eq] at h4)
          try (exfalso; (first | omega | exact h4 trivial | contradiction | (first | omega | (simp at h4; done))); done)
          all_goals
          first | refine SatL.pu (RunV.fieldAddrL rfl rfl rfl) rfl ?_ | refine SatL.pu (RunV.fieldAddr rfl rfl rfl) rfl ?_
          refine SatL.guard_y rfl rfl ?_
          refine SatL.pu (RunV.load1 hS rfl rfl (by repeat constructor) rfl) rfl ?_
          refine SatL.guard_y rfl rfl ?_
          refine SatL.op rfl (OpW.enter rfl rfl rfl (rfl) (right_any _ _) ?_)
          rintro r4 w4 ⟨rfl, h⟩
          replace hS := St.callN hS h
          refine SatL.guard_y rfl rfl ?_
          refine SatL.pu (RunV.not rfl) rfl ?_
          refine SatL.pu (RunV.pick_f rfl rfl) rfl ?_
          refine SatL.pu (RunV.move rfl) rfl ?_
          refine SatL.guard rfl rfl rfl (fun h5 => ?_) (fun h5 => ?_)
          · (try simp only [cx, ne_eq] at h5)
            try (exfalso; (first | omega | exact h5 trivial | contradiction | (first | omega | (simp at h5; done))); done)
            all_goals
            first | refine SatL.pu (RunV.fieldAddrL rfl rfl rfl) rfl ?_ | refine SatL.pu (RunV.fieldAddr rfl rfl rfl) rfl ?_
            refine SatL.guard_y rfl rfl ?_
            refine SatL.pu (RunV.load1 hS rfl rfl (by repeat constructor) rfl) rfl ?_
            refine SatL.guard_y rfl rfl ?_
            refine SatL.op rfl (OpW.enter rfl rfl rfl (rfl) (tags_any _ _ _ (hra.rd hS Nat.one_pos)) ?_)
            rintro r5 w5 ⟨rfl, h⟩
            replace hS := St.callN hS h
            refine SatL.guard_y rfl rfl ?_
            refine SatL.pu (RunV.not rfl) rfl ?_
            refine SatL.pu (RunV.pick_f rfl rfl) rfl ?_
            refine SatL.pu (RunV.assign rfl) rfl ?_
            refine SatL.nil (SatE.thenC ?_)
            refine SatC.weak (e' := [(0, _), (3, _), (4, _), (17, _)]) (by repeat constructor) ?_
            refine SatC.cond rfl (fun h6 => ?_) (fun h6 => ?_)
            · (try simp only [cx, ne_eq] at h6)
              try (exfalso; (first | omega | exact h6 trivial | contradiction | (first | omega | (simp at h6; done))); done)
              all_goals
              refine SatC.seq ?_
              refine SatC.region ?_
              refine SatL.pu (RunV.assign rfl) rfl ?_
              refine SatL.nil (SatE.thenC ?_)
              refine SatC.ret (SatE.blk_ret (SatE.then_ret ?_))
              refine SatE.ret1 rfl rfl ?_
              have e := addE_10 (S := S) (id := id) (name := name) (tags := tags) (port := port) (by omega) (by simp_all)
              exact ⟨by rw [e], S, _, fun h0 => absurd h0 (by rw [e]; decide), fun _ => rfl, hw, hS.sel (by repeat constructor)⟩
            · (try simp only [cx, ne_eq] at h6)
              try (exfalso; (first | omega | exact h6 trivial | contradiction | (first | omega | (simp at h6; done))); done)
              all_goals
              refine SatC.seq ?_
              refine SatC.drawnT 8 hS (hS) (by kernel_rfl) ?_
              clear hS
              intro w6 hh hS hD
              refine SatD.tk 0 rfl hD (fun _ hw => RunV.move rfl) ?_
              first | refine SatD.tk 1 rfl hD (fun _ hw => RunV.nil_ptr rfl) ?_ | refine SatD.tk 1 rfl hD (fun _ hw => RunV.nil_func rfl) ?_ | refine SatD.tk 1 rfl hD (fun _ hw => RunV.nil_yield rfl) ?_
              first | refine SatD.tk 2 rfl hD (fun _ hw => RunV.fieldAddrL rfl rfl rfl) ?_ | refine SatD.tk 2 rfl hD (fun _ hw => RunV.fieldAddr rfl rfl rfl) ?_
              refine SatD.tk 3 rfl hD (fun _ hw => RunV.load1 hw rfl rfl (by repeat constructor) rfl) ?_
              first | refine SatD.tk 4 rfl hD (fun _ hw => RunV.fieldAddrL rfl rfl rfl) ?_ | refine SatD.tk 4 rfl hD (fun _ hw => RunV.fieldAddr rfl rfl rfl) ?_
              refine SatD.tk 5 rfl hD (fun _ hw => RunV.load1 hw rfl rfl (by repeat constructor) rfl) ?_
              refine SatD.ef 6 rfl (OpW.enter rfl rfl rfl (rfl) (fullS_any S.sv (fun s hs => (htg s hs).1.one) _ _ _ hmS (hS.ownT (A := [(ms, oS)]) (by repeat constructor))) ?_)
              rintro r7 w7 ⟨rfl, h⟩
              replace hS := St.callN hS h
              refine keepS (hS.sel (by repeat constructor)) (fun hD => ?_)
              refine SatD.tk 7 rfl hD (fun _ hw => RunV.assign rfl) ?_
              refine SatD.done 0 (by kernel_rfl) (SatE.thenC ?_)
              clear hD
              refine SatC.cond rfl (fun h7 => ?_) (fun h7 => ?_)
              · (try simp only [cx, ne_eq] at h7)
                try (exfalso; (first | omega | exact h7 trivial | contradiction | (first | omega | (simp at h7; done))); done)
                all_goals
                refine SatC.seq ?_
                refine SatC.region ?_
                refine SatL.pu (RunV.assign rfl) rfl ?_
                refine SatL.nil (SatE.thenC ?_)
                refine SatC.ret (SatE.blk_ret (SatE.then_ret ?_))
                refine SatE.ret1 rfl rfl ?_
                have e := addE_5 (S := S) (id := id) (name := name) (tags := tags) (port := port) (by omega) ⟨by assumption, by assumption, by assumption⟩ (by assumption)
                exact ⟨by rw [e], S, _, fun h0 => absurd h0 (by rw [e]; decide), fun _ => rfl, hw, hS.sel (by repeat constructor)⟩
              · (try simp only [cx, ne_eq] at h7)
                try (exfalso; (first | omega | exact h7 trivial | contradiction | (first | omega | (simp at h7; done))); done)
                all_goals
                refine SatC.skip (SatE.blk_normal (SatE.thenC ?_))
                refine SatC.seq ?_
                have ht4 : tags.length ≤ 4 := (tagN_iff tags).1 (by assumption) |>.1
                obtain ⟨bt, ot, ct, htv, htc, htm, htx⟩ := hra
                rw [List.length_map] at htv
                refine SatC.drawnT 21 hS (hS) (by kernel_rfl) ?_
                clear hS
                intro w8 hh hS hD
                refine SatD.tk 0 rfl hD (fun _ hw => RunV.move rfl) ?_
                first | refine SatD.tk 1 rfl hD (fun _ hw => RunV.nil_ptr rfl) ?_ | refine SatD.tk 1 rfl hD (fun _ hw => RunV.nil_func rfl) ?_ | refine SatD.tk 1 rfl hD (fun _ hw => RunV.nil_yield rfl) ?_
                first | refine SatD.tk 2 rfl hD (fun _ hw => RunV.fieldAddrL rfl rfl rfl) ?_ | refine SatD.tk 2 rfl hD (fun _ hw => RunV.fieldAddr rfl rfl rfl) ?_
                refine SatD.tk 3 rfl hD (fun _ hw => RunV.load1 hw rfl rfl (by repeat constructor) rfl) ?_
                first | refine SatD.tk 4 rfl hD (fun _ hw => RunV.fieldAddrL rfl rfl rfl) ?_ | refine SatD.tk 4 rfl hD (fun _ hw => RunV.fieldAddr rfl rfl rfl) ?_
                refine SatD.tk 5 rfl hD (fun _ hw => RunV.load1 hw rfl rfl (by repeat constructor) rfl) ?_
                refine SatD.tk 6 rfl hD (fun _ hw => RunV.move rfl) ?_
                first | refine SatD.tk 7 rfl hD (fun _ hw => RunV.nil_ptr rfl) ?_ | refine SatD.tk 7 rfl hD (fun _ hw => RunV.nil_func rfl) ?_ | refine SatD.tk 7 rfl hD (fun _ hw => RunV.nil_yield rfl) ?_
                first | refine SatD.tk 8 rfl hD (fun _ hw => RunV.fieldAddrL rfl rfl rfl) ?_ | refine SatD.tk 8 rfl hD (fun _ hw => RunV.fieldAddr rfl rfl rfl) ?_
                refine SatD.tk 9 rfl hD (fun _ hw => RunV.load1 hw rfl rfl (by repeat constructor) rfl) ?_
                first | refine SatD.tk 10 rfl hD (fun _ hw => RunV.fieldAddrL rfl rfl rfl) ?_ | refine SatD.tk 10 rfl hD (fun _ hw => RunV.fieldAddr rfl rfl rfl) ?_
                refine SatD.tk 11 rfl hD (fun _ hw => RunV.load1 hw rfl rfl (by repeat constructor) rfl) ?_
                first | refine SatD.tk 12 rfl hD (fun _ hw => RunV.fieldAddrL rfl rfl rfl) ?_ | refine SatD.tk 12 rfl hD (fun _ hw => RunV.fieldAddr rfl rfl rfl) ?_
                refine SatD.tk 13 rfl hD (fun _ hw => RunV.load1 hw rfl rfl (by repeat constructor) rfl) ?_
                first | refine SatD.tk 15 rfl hD (fun _ hw => RunV.fieldAddrL rfl rfl rfl) ?_ | refine SatD.tk 15 rfl hD (fun _ hw => RunV.fieldAddr rfl rfl rfl) ?_
                refine SatD.tk 16 rfl hD (fun _ hw => RunV.load1 hw rfl rfl (by repeat constructor) rfl) ?_
                first | refine SatD.tk 18 rfl hD (fun _ hw => RunV.fieldAddrL rfl rfl rfl) ?_ | refine SatD.tk 18 rfl hD (fun _ hw => RunV.fieldAddr rfl rfl rfl) ?_
                refine SatD.tk 19 rfl hD (fun _ hw => RunV.load1 hw rfl rfl (by repeat constructor) rfl) ?_
                refine SatD.ef 14 rfl (OpW.buildSlice0 hS rfl rfl rfl ?_)
                clear hS
                intro v56 b56 w9 _ hsl56 hv56 hS
                refine keepS (hS.sel (by repeat constructor)) (fun hD => ?_)
                refine SatD.ef 17 rfl (OpW.appendN (rows := []) hsl56 hS (by repeat constructor) htv (htc.st (hS.sel (by repeat constructor)) htx) (by rw [List.length_map]) rfl rfl rfl rfl rfl rfl rfl (rs_one _) (by simp; omega) rfl ?_)
                clear hS
                intro v59 B59 w59 hsl59 hS
                refine keepS (hS.sel (by repeat constructor)) (fun hD => ?_)
                refine SatD.tk 20 rfl hD (fun _ hw => RunV.build (v := .agg (svc S.node ⟨id, name, tags, port, v59, B59⟩).toArray) rfl (by obtain ⟨c1, h1⟩ := hsl59.slv; obtain ⟨A1, rfl, _⟩ := h1.eq; simp [go_sem]; try rfl)) ?_
                refine SatD.effF (by kernel_rfl) rfl rfl (OpW.mapUpdateM (keyL rfl) hS rfl rfl rfl rfl hmS _ (fun o' => by repeat constructor) ?_)
                clear hS
                intro o8 w11 hmp8 hS
                refine SatD.done 0 (by kernel_rfl) (SatE.thenC ?_)
                clear hD
                refine SatC.seq ?_
                refine SatC.weak (e' := [(4, _)]) (by repeat constructor) ?_
                refine SatC.region ?_
                refine SatL.pu (RunV.assign rfl) rfl ?_
                refine SatL.nil (SatE.thenC ?_)
                refine SatC.ret ?_
                refine SatE.ret1 rfl rfl ?_
                have e := addE_0 (S := S) (id := id) (name := name) (tags := tags) (port := port) (by omega) ⟨by assumption, by assumption, by assumption⟩ (by assumption)
                refine ⟨by rw [e], _, _, fun _ => ⟨v59, B59, rfl⟩, fun h0 => absurd e h0, Agt.add (mc := mc) (ms := ms) (o' := o8) (oC := oC) hs16 hc16 hsu hcu htg hck hmC (by assumption) ⟨hsl59, ht4⟩ hmp8, ?_⟩
                have hS2 := hS.sel (R := B59 ++ LO b S.node S.addr ms mc o8 oC D) (by repeat constructor)
                obtain ⟨M, hM⟩ := tbl_pt S.sv ⟨id, name, tags, port, v59, B59⟩
                refine (hS2.perm (L' := LO b S.node S.addr ms mc o8 oC (tbl (pt Sv.id S.sv ⟨id, name, tags, port, v59, B59⟩) ++ S.ch.map hblk) ++ M) ?_).sub (List.sublist_append_left _ _)
                subst D
                exact add_perm hM
          · (try simp only [cx, ne_eq] at h5)
            try (exfalso; (first | omega | exact h5 trivial | contradiction | (first | omega | (simp at h5; done))); done)
            all_goals
            refine SatL.guard_n rfl rfl rfl rfl ?_
            refine SatL.guard_n rfl rfl rfl rfl ?_
            refine SatL.guard_n rfl rfl rfl rfl ?_
            refine SatL.pu (RunV.pick_t rfl rfl) rfl ?_
            refine SatL.pu (RunV.assign rfl) rfl ?_
            refine SatL.nil (SatE.thenC ?_)
            refine SatC.weak (e' := [(0, _), (3, _), (4, _), (17, _)]) (by repeat constructor) ?_
            refine SatC.cond_t rfl ?_
            refine SatC.seq ?_
            refine SatC.region ?_
            refine SatL.pu (RunV.assign rfl) rfl ?_
            refine SatL.nil (SatE.thenC ?_)
            refine SatC.ret (SatE.blk_ret (SatE.then_ret ?_))
            refine SatE.ret1 rfl rfl ?_
            have e := addE_10 (S := S) (id := id) (name := name) (tags := tags) (port := port) (by omega) (by simp_all)
            exact ⟨by rw [e], S, _, fun h0 => absurd h0 (by rw [e]; decide), fun _ => rfl, hw, hS.sel (by repeat constructor)⟩
        · (try simp only [cx, ne_eq] at h4)
          try (exfalso; (first | omega | exact h4 trivial | contradiction | (first | omega | (simp at h4; done))); done)
          all_goals
          refine SatL.guard_n rfl rfl rfl rfl ?_
          refine SatL.guard_n rfl rfl rfl rfl ?_
          refine SatL.guard_n rfl rfl rfl rfl ?_
          refine SatL.pu (RunV.pick_t rfl rfl) rfl ?_
          refine SatL.pu (RunV.move rfl) rfl ?_
          refine SatL.guard_n rfl rfl rfl rfl ?_
          refine SatL.guard_n rfl rfl rfl rfl ?_
          refine SatL.guard_n rfl rfl rfl rfl ?_
          refine SatL.guard_n rfl rfl rfl rfl ?_
          refine SatL.pu (RunV.pick_t rfl rfl) rfl ?_
          refine SatL.pu (RunV.assign rfl) rfl ?_
          refine SatL.nil (SatE.thenC ?_)
          refine SatC.weak (e' := [(0, _), (3, _), (4, _), (17, _)]) (by repeat constructor) ?_
          refine SatC.cond_t rfl ?_
          refine SatC.seq ?_
          refine SatC.region ?_
          refine SatL.pu (RunV.assign rfl) rfl ?_
          refine SatL.nil (SatE.thenC ?_)
          refine SatC.ret (SatE.blk_ret (SatE.then_ret ?_))
          refine SatE.ret1 rfl rfl ?_
          have e := addE_10 (S := S) (id := id) (name := name) (tags := tags) (port := port) (by omega) (by simp_all)
          exact ⟨by rw [e], S, _, fun h0 => absurd h0 (by rw [e]; decide), fun _ => rfl, hw, hS.sel (by repeat constructor)⟩
    · (try simp only [cx, ne_eq] at h2)
      try (exfalso; (first | omega | exact h2 trivial | contradiction | (first | omega | (simp at h2; done))); done)
      all_goals
      refine SatL.guard_n rfl rfl rfl rfl ?_
      refine SatL.guard_n rfl rfl rfl rfl ?_
      refine SatL.pu (RunV.pick_t rfl rfl) rfl ?_
      refine SatL.pu (RunV.assign rfl) rfl ?_
      refine SatL.nil (SatE.thenC ?_)
      refine SatC.weak (e' := [(0, _), (3, _), (4, _), (8, _)]) (by repeat constructor) ?_
      refine SatC.cond_t rfl ?_
      refine SatC.seq ?_
      refine SatC.region ?_
      refine SatL.pu (RunV.assign rfl) rfl ?_
      refine SatL.nil (SatE.thenC ?_)
      refine SatC.ret (SatE.blk_ret (SatE.then_ret ?_))
      refine SatE.ret1 rfl rfl ?_
      have e := addE_2 (S := S) (id := id) (name := name) (tags := tags) (port := port) (by omega)
      exact ⟨by rw [e], S, _, fun h0 => absurd h0 (by rw [e]; decide), fun _ => rfl, hw, hS.sel (by repeat constructor)⟩
end
end Go.Proofs.Ytbnkcagcfbpiiaa
set_option linter.unusedSimpArgs false
set_option linter.unusedVariables false
set_option maxRecDepth 100000
set_option maxHeartbeats 4000000
namespace Go.Proofs.Ytbnkcagcfbpiiaa
open Go.RowKit
section
variable {α : Type} {key : α → List UInt8}
theorem dl_filter {l : List α} {k : List UInt8} (h : (l.map key).Nodup) : dl key l k = l.filter fun x => decide (¬ key x = k) := by
  induction l with
  | nil => rfl
  | cons y l ih =>
    rw [List.map_cons, List.nodup_cons] at h
    unfold dl
    split
    · rename_i e
      rw [List.filter_cons_of_neg (by simp [e]), List.filter_eq_self.2]
      intro x hx
      simp only [decide_eq_true_eq]
      intro e2
      exact h.1 (by rw [← e, ← e2]; exact List.mem_map_of_mem hx)
    · rename_i e
      rw [List.filter_cons_of_pos (by simp only [decide_eq_true_eq]; exact fun h => e h.symm), ih h.2]
theorem gt_split {l : List α} {k : List UInt8} {x : α} (hx : gt key l k = some x) (h : (l.map key).Nodup) : ∃ A D, l = A ++ x :: D ∧ key x = k ∧ (∀ y ∈ A, ¬ key y = k) ∧ ∀ y ∈ D, ¬ key y = k := by
  induction l with
  | nil => cases hx
  | cons y l ih =>
    rw [List.map_cons, List.nodup_cons] at h
    unfold gt at hx
    split at hx
    · rename_i e
      cases hx
      exact ⟨[], l, rfl, e.symm, fun y hy => (by cases hy), fun z hz e2 => h.1 (by rw [← e, ← e2]; exact List.mem_map_of_mem hz)⟩
    · rename_i e
      obtain ⟨A, D, rfl, h1, h2, h3⟩ := ih hx h.2
      refine ⟨y :: A, D, rfl, h1, fun z hz => ?_, h3⟩
      rcases List.mem_cons.1 hz with rfl | hz
      · exact fun e2 => e e2.symm
      · exact h2 z hz
end
theorem fv_p {c d : Ck} (h : c.p = d.p) : fv c = fv d := by rw [fv, fv, h]
def hup (k : List UInt8) (g : Ck → Ck) (l : List Ch) : List Ch := l.map fun c => if c.id = k then { c with h := g c.h } else c
theorem hup_split {k : List UInt8} {g : Ck → Ck} {A D : List Ch} {c : Ch} (h1 : c.id = k) (h2 : ∀ y ∈ A, ¬ y.id = k) (h3 : ∀ y ∈ D, ¬ y.id = k) : hup k g (A ++ c :: D) = A ++ { c with h := g c.h } :: D := by
  have e : ∀ l : List Ch, (∀ y ∈ l, ¬ y.id = k) → (l.map fun c => if c.id = k then { c with h := g c.h } else c) = l := by
    intro l hl
    induction l with
    | nil => rfl
    | cons y l ih => rw [List.map_cons, if_neg (hl y List.mem_cons_self), ih fun z hz => hl z (List.mem_cons_of_mem _ hz)]
  unfold hup
  rw [List.map_append, List.map_cons, if_pos h1, e A h2, e D h3]
theorem hup_ids (k : List UInt8) (g : Ck → Ck) (l : List Ch) : (hup k g l).map Ch.id = l.map Ch.id := by
  unfold hup
  rw [List.map_map]
  refine List.map_congr_left fun c _ => ?_
  simp only [Function.comp]
  split <;> rfl
theorem hup_kv (n : Int) (k : List UInt8) (g : Ck → Ck) (l : List Ch) : ckv n (hup k g l) = ckv n l := by
  unfold hup
  simp only [ckv, kvs, List.map_map]
  refine List.map_congr_left fun c _ => ?_
  simp only [Function.comp]
  split <;> rfl
theorem hup_len (k : List UInt8) (g : Ck → Ck) (l : List Ch) : (hup k g l).length = l.length := List.length_map ..
theorem hup_mem {k : List UInt8} {g : Ck → Ck} {l : List Ch} {x : Ch} (h : x ∈ hup k g l) : ∃ c ∈ l, x = (if c.id = k then { c with h := g c.h } else c) := by
  obtain ⟨c, hc, rfl⟩ := List.mem_map.1 h
  exact ⟨c, hc, rfl⟩
def aHup (S : Lc) (k : List UInt8) (g : Ck → Ck) : Lc := { S with ch := hup k g S.ch }
theorem Agt.hup {b : Nat} {S : Lc} {ms mc : Nat} {oS oC : Obj} {k : List UInt8} {g : Ck → Ck} (h1 : S.sv.length ≤ 16) (h2 : S.ch.length ≤ 16) (h3 : (S.sv.map Sv.id).Nodup) (h4 : (S.ch.map Ch.id).Nodup) (h5 : ∀ s ∈ S.sv, Sl 9 1 s.tv (s.tags.map rs) s.B ∧ s.tags.length ≤ 4) (h6 : ∀ c ∈ S.ch, ¬ c.h.p.kind = 0) (hg : ∀ c, (g c).p = c.p)
    (hmS : Mp str oS (skv S.node S.sv)) (hmC : Mp str oC (ckv S.node S.ch)) : Agt b (aHup S k g) (LO b S.node S.addr ms mc oS oC (tbl S.sv ++ (hup k g S.ch).map hblk)) := by
  refine ⟨h1, by rw [aHup, hup_len]; exact h2, h3, by rw [aHup, hup_ids]; exact h4, h5, fun c hc => ?_, ms, mc, oS, oC, hmS, by rw [aHup, hup_kv]; exact hmC, rfl⟩
  obtain ⟨d, hd, rfl⟩ := hup_mem hc
  split
  · rw [hg]; exact h6 d hd
  · exact h6 d hd
theorem mid_perm {α : Type} {a b c x : α} {T A D : List α} : (a :: b :: c :: (T ++ (A ++ x :: D))).Perm (x :: a :: b :: c :: (T ++ (A ++ D))) := by
  have e : (T ++ (A ++ x :: D)).Perm (x :: (T ++ (A ++ D))) := by
    rw [show T ++ (A ++ x :: D) = (T ++ A) ++ x :: D from by simp, show T ++ (A ++ D) = (T ++ A) ++ D from by simp]
    exact List.perm_middle
  exact (((e.cons c).trans (.swap ..)).cons b |>.trans (.swap ..)).cons a |>.trans (.swap ..)
def addCE (S : Lc) (id sv note : List UInt8) (p : Pl) : Int :=
  if ¬ (okN id = true ∧ (sv = [] ∨ okN sv = true)) then 10 else if 32 < note.length then 3 else if ¬ sv = [] ∧ gt Sv.id S.sv sv = none then 4 else if ¬ Pok p then 2 else if gt Ch.id S.ch id = none ∧ 16 ≤ S.ch.length then 5 else 0
@[reducible] def ck0 (p : Pl) : Ck := ⟨p, 2, 0, 0, 0, 0, false⟩
def aAddC (S : Lc) (c : Ch) : Lc := { S with ch := pt Ch.id S.ch c }
def aDelC (S : Lc) (k : List UInt8) : Lc := { S with ch := dl Ch.id S.ch k }
theorem hbl_pt (l : List Ch) (t : Ch) : ∃ M, (hblk t :: l.map hblk).Perm ((pt Ch.id l t).map hblk ++ M) := by
  induction l with
  | nil => exact ⟨[], by simp [pt]⟩
  | cons x l ih =>
    unfold pt
    split
    · refine ⟨[hblk x], ?_⟩
      simp only [List.map_cons, List.cons_append]
      refine List.Perm.cons _ ?_
      exact (List.perm_append_comm (l₁ := [hblk x]) (l₂ := l.map hblk))
    · obtain ⟨M, hM⟩ := ih
      refine ⟨M, ?_⟩
      simp only [List.map_cons, List.cons_append]
      exact (List.Perm.swap ..).trans (hM.cons _)
theorem addc_perm {α : Type} {a b c x : α} {T H H' M : List α} (h : (x :: H).Perm (H' ++ M)) : (x :: a :: b :: c :: (T ++ H)).Perm ((a :: b :: c :: (T ++ H')) ++ M) := by
  have e1 := (mid_perm (a := a) (b := b) (c := c) (x := x) (T := T) (A := []) (D := H)).symm
  rw [List.nil_append, List.nil_append] at e1
  refine e1.trans ?_
  rw [show (a :: b :: c :: (T ++ H')) ++ M = a :: b :: c :: (T ++ (H' ++ M)) from by simp]
  exact (((h.append_left T).cons c).cons b).cons a
theorem Agt.addC {b ms mc : Nat} {oS o' : Obj} {S : Lc} {t : Ch} (h1 : S.sv.length ≤ 16) (h2 : S.ch.length ≤ 16) (h3 : (S.sv.map Sv.id).Nodup) (h4 : (S.ch.map Ch.id).Nodup) (h5 : ∀ s ∈ S.sv, Sl 9 1 s.tv (s.tags.map rs) s.B ∧ s.tags.length ≤ 4) (h6 : ∀ c ∈ S.ch, ¬ c.h.p.kind = 0)
    (hmS : Mp str oS (skv S.node S.sv)) (hf : ¬ (gt Ch.id S.ch t.id = none ∧ 16 ≤ S.ch.length)) (ht : ¬ t.h.p.kind = 0) (hm : Mp str o' (kput (ckv S.node S.ch) t.id (.agg (chv S.node t).toArray))) :
    Agt b (aAddC S t) (LO b S.node S.addr ms mc oS o' (tbl S.sv ++ (pt Ch.id S.ch t).map hblk)) := by
  refine ⟨h1, ?_, h3, pt_nodup h4, h5, fun c hc => ?_, ms, mc, oS, o', hmS, ?_, rfl⟩
  · show (pt Ch.id S.ch t).length ≤ 16
    rw [pt_len]
    split
    · exact h2
    · rename_i hn
      have : gt Ch.id S.ch t.id = none := by simpa using hn
      have : ¬ 16 ≤ S.ch.length := fun h => hf ⟨this, h⟩
      omega
  · rcases pt_mem hc with rfl | hc
    · exact ht
    · exact h6 c hc
  · have := kput_v Ch.id (fun c : Ch => Value.agg (chv S.node c).toArray) S.ch t
    show Mp str o' (ckv S.node (pt Ch.id S.ch t))
    rw [show ckv S.node (pt Ch.id S.ch t) = _ from this.symm]
    exact hm
theorem lookS (n : Int) (l : List Sv) (k : List UInt8) (h : ∀ s ∈ l, s.tv.oneCell' = true) : ∃ c0 c1 c2 c3 c4 c5 c6, (kget (skv n l) k).getD (.agg #[.int .i64 0, str [], str [], .slice none 0 0, .int .i64 0, .int .u64 0, .int .u64 0]) = .agg #[c0, c1, c2, c3, c4, c5, c6] ∧ ([c0, c1, c2, c3, c4, c5, c6].all fun x => x.oneCell') = true ∧ (kget (skv n l) k).isSome = (gt Sv.id l k).isSome := by
  rw [kget_v]
  cases hq : gt Sv.id l k with
  | none => exact ⟨_, _, _, _, _, _, _, rfl, rfl, rfl⟩
  | some x => exact ⟨_, _, _, _, _, _, _, rfl, svc_one (n := n) (h x (gt_mem hq).1), rfl⟩
theorem addc_err {S : Lc} {id sv note : List UInt8} {p : Pl} {b : Nat} {L X} {w w' : World} {K : Int} {Z : Lc → Prop} (e : addCE S id sv note p = K) (hK : ¬ K = 0) (hw : Agt b S L) (hS : St w X L w') : Value.int .i64 K = .int .i64 (addCE S id sv note p) ∧ ∃ S' L', (addCE S id sv note p = 0 → Z S') ∧ (¬ addCE S id sv note p = 0 → S' = S) ∧ Agt b S' L' ∧ St w X L' w' :=
  ⟨by rw [e], S, L, fun h => absurd (e.symm.trans h) hK, fun _ => rfl, hw, hS⟩
theorem pok_kind {p : Pl} (h : Pok p) : ¬ p.kind = 0 := by
  unfold Pok at h
  omega
section
variable {b : Nat} {S : Lc} {L : List (Nat × Obj)} {w : World}
theorem delc_d (k : List UInt8) (h : Agt b S L) (hown : Own w L) :
    Ret Try.prog 13 #[.pointer (some ⟨b, 0, none⟩), str k] w fun u w' => u = .int .i64 (if (gt Ch.id S.ch k).isSome = true then 0 else 4) ∧ ∃ L', Agt b (aDelC S k) L' ∧ St w (L.map Prod.fst) L' w' := by
  have hw := h
  obtain ⟨hs16, hc16, hsu, hcu, htg, hck, ms, mc, oS, oC, hmS, hmC, rfl⟩ := h
  have hS := St.init hown
  generalize hX : (LO b S.node S.addr ms mc oS oC (tbl S.sv ++ S.ch.map hblk)).map Prod.fst = X at hS ⊢
  cases hq : gt Ch.id S.ch k with
  | none =>
    have e : dl Ch.id S.ch k = S.ch := by
      rw [dl_filter hcu, List.filter_eq_self.2]
      intro x hx
      simp only [decide_eq_true_eq]
      rintro rfl
      exact gt_none.1 hq (List.mem_map_of_mem hx)
    generalize hD : tbl S.sv ++ S.ch.map hblk = D at hS hw
    refine Ret.enter Try.func13 Try.ntmps13 rfl rfl ?_
    simp only [argEnv, Nat.reduceAdd]
    refine SatC.seq ?_
    refine SatC.region ?_
    refine SatL.pu (RunV.assign rfl) rfl ?_
    refine SatL.nil (SatE.thenC ?_)
    refine SatC.seq ?_
    refine SatC.seq ?_
    refine SatC.region ?_
    refine SatL.pu (RunV.move rfl) rfl ?_
    refine SatL.op rfl (OpW.enter rfl rfl rfl (rfl) (lnone_any (hS.ownT (A := [(b, C 63 (lcc S.node S.addr ms mc))]) (by repeat constructor))) ?_)
    rintro r1 w1 ⟨rfl, h⟩
    replace hS := St.callN hS h
    refine SatL.nil (SatE.thenC ?_)
    refine SatC.cond rfl (fun h1 => ?_) (fun h1 => ?_)
    · (try simp only [cx, ne_eq] at h1)
      try (exfalso; (first | omega | exact h1 trivial | contradiction | (first | omega | (simp at h1; done))); done)
      all_goals
      refine SatC.seq ?_
      refine SatC.region ?_
      refine SatL.pu (RunV.assign rfl) rfl ?_
      refine SatL.nil (SatE.thenC ?_)
      refine SatC.ret (SatE.then_ret ?_)
      refine SatE.ret1 rfl rfl ?_
      exact ⟨rfl, _, by rw [show aDelC S k = S from by rw [aDelC, e]]; exact hw, hS.sel (by repeat constructor)⟩
    · (try simp only [cx, ne_eq] at h1)
      try (exfalso; (first | omega | exact h1 trivial | contradiction | (first | omega | (simp at h1; done))); done)
      all_goals
      refine SatC.skip (SatE.thenC ?_)
      refine SatC.seq ?_
      refine SatC.seq ?_
      refine SatC.region ?_
      refine SatL.pu (RunV.move rfl) rfl ?_
      first | refine SatL.pu (RunV.nil_ptr rfl) rfl ?_ | refine SatL.pu (RunV.nil_func rfl) rfl ?_ | refine SatL.pu (RunV.nil_yield rfl) rfl ?_
      first | refine SatL.pu (RunV.fieldAddrL rfl rfl rfl) rfl ?_ | refine SatL.pu (RunV.fieldAddr rfl rfl rfl) rfl ?_
      refine SatL.pu (RunV.load1 hS rfl rfl (by repeat constructor) rfl) rfl ?_
      refine SatL.pu (RunV.move rfl) rfl ?_
      refine SatL.pu (RunV.cast (RunV.lookup2 (keyL rfl) hS rfl rfl rfl rfl (by repeat constructor) hmC.is) (by rw [kget_v, hq])) rfl ?_
      refine SatL.pu (RunV.move rfl) rfl ?_
      refine SatL.pu (RunV.extract rfl rfl) rfl ?_
      refine SatL.pu (RunV.extract rfl rfl) rfl ?_
      refine SatL.op rfl (OpW.alloc hS rfl rfl (by repeat constructor) ?_)
      clear hS
      intro b5 w2 _ hS
      refine SatL.op rfl (OpW.store hS rfl rfl (by repeat constructor) (by repeat constructor) (by repeat constructor) rfl rfl ?_)
      clear hS
      intro w3 hS
      refine SatL.pu (RunV.assign rfl) rfl ?_
      refine SatL.nil (SatE.thenC ?_)
      refine SatC.seq ?_
      refine SatC.weak (e' := [(0, _), (1, _), (4, _), (6, _)]) (by repeat constructor) ?_
      refine SatC.region ?_
      refine SatL.pu (RunV.move rfl) rfl ?_
      refine SatL.pu (RunV.not rfl) rfl ?_
      refine SatL.nil (SatE.thenC ?_)
      refine SatC.cond rfl (fun h2 => ?_) (fun h2 => ?_)
      · (try simp only [cx, ne_eq] at h2)
        try (exfalso; (first | omega | exact h2 trivial | contradiction | (first | omega | (simp at h2; done))); done)
        all_goals
        refine SatC.seq ?_
        refine SatC.region ?_
        refine SatL.pu (RunV.assign rfl) rfl ?_
        refine SatL.nil (SatE.thenC ?_)
        refine SatC.ret (SatE.then_ret ?_)
        refine SatE.ret1 rfl rfl ?_
        exact ⟨rfl, _, by rw [show aDelC S k = S from by rw [aDelC, e]]; exact hw, hS.sel (by repeat constructor)⟩
      · (try simp only [cx, ne_eq] at h2)
        try (exfalso; (first | omega | exact h2 trivial | contradiction | (first | omega | (simp at h2; done))); done)
        all_goals
        refine SatC.skip (SatE.thenC ?_)
        refine SatC.seq ?_
        refine SatC.region ?_
        refine SatL.pu (RunV.move rfl) rfl ?_
        first | refine SatL.pu (RunV.nil_ptr rfl) rfl ?_ | refine SatL.pu (RunV.nil_func rfl) rfl ?_ | refine SatL.pu (RunV.nil_yield rfl) rfl ?_
        first | refine SatL.pu (RunV.fieldAddrL rfl rfl rfl) rfl ?_ | refine SatL.pu (RunV.fieldAddr rfl rfl rfl) rfl ?_
        refine SatL.pu (RunV.load1 hS rfl rfl (by repeat constructor) rfl) rfl ?_
        refine SatL.pu (RunV.move rfl) rfl ?_
        refine SatL.op rfl (OpW.delete (keyStr rfl) hS rfl rfl rfl (by assumption) _ (fun o' => by repeat constructor) ?_)
        clear hS
        intro o4 w4 ho4 hS
        refine SatL.nil (SatE.thenC ?_)
        refine SatC.seq ?_
        refine SatC.region ?_
        refine SatL.pu (RunV.assign rfl) rfl ?_
        refine SatL.nil (SatE.thenC ?_)
        refine SatC.ret ?_
        refine SatE.ret1 rfl rfl ?_
        exact ⟨rfl, _, by rw [show aDelC S k = S from by rw [aDelC, e]]; exact hw, hS.sel (by repeat constructor)⟩
  | some x =>
    generalize hD : tbl S.sv ++ S.ch.map hblk = D at hS hw
    refine Ret.enter Try.func13 Try.ntmps13 rfl rfl ?_
    simp only [argEnv, Nat.reduceAdd]
    refine SatC.seq ?_
    refine SatC.region ?_
    refine SatL.pu (RunV.assign rfl) rfl ?_
    refine SatL.nil (SatE.thenC ?_)
    refine SatC.seq ?_
    refine SatC.seq ?_
    refine SatC.region ?_
    refine SatL.pu (RunV.move rfl) rfl ?_
    refine SatL.op rfl (OpW.enter rfl rfl rfl (rfl) (lnone_any (hS.ownT (A := [(b, C 63 (lcc S.node S.addr ms mc))]) (by repeat constructor))) ?_)
    rintro r1 w1 ⟨rfl, h⟩
    replace hS := St.callN hS h
    refine SatL.nil (SatE.thenC ?_)
    refine SatC.cond rfl (fun h1 => ?_) (fun h1 => ?_)
    · (try simp only [cx, ne_eq] at h1)
      try (exfalso; (first | omega | exact h1 trivial | contradiction | (first | omega | (simp at h1; done))); done)
      all_goals
      refine SatC.seq ?_
      refine SatC.region ?_
      refine SatL.pu (RunV.assign rfl) rfl ?_
      refine SatL.nil (SatE.thenC ?_)
      refine SatC.ret (SatE.then_ret ?_)
      refine SatE.ret1 rfl rfl ?_
      subst D
      refine ⟨rfl, LO b S.node S.addr ms mc oS o8 (tbl S.sv ++ (dl Ch.id S.ch k).map hblk), ⟨hs16, Nat.le_trans (dl_sub _ _).length_le hc16, hsu, dl_nodup hcu, htg, fun c hc => hck c ((dl_sub _ _).subset hc), ms, mc, oS, o8, hmS, by rw [show aDelC S k = { S with ch := dl Ch.id S.ch k } from rfl, show ckv S.node (dl Ch.id S.ch k) = _ from (kdel_v Ch.id _ S.ch k).symm]; exact hmp8, rfl⟩, ?_⟩
      exact (hS.sel (R := LO b S.node S.addr ms mc oS o8 (tbl S.sv ++ S.ch.map hblk)) (by repeat constructor)).sub ((((List.Sublist.append_left ((dl_sub S.ch k).map hblk) (tbl S.sv)).cons_cons _).cons_cons _).cons_cons _)
    · (try simp only [cx, ne_eq] at h1)
      try (exfalso; (first | omega | exact h1 trivial | contradiction | (first | omega | (simp at h1; done))); done)
      all_goals
      refine SatC.skip (SatE.thenC ?_)
      refine SatC.seq ?_
      refine SatC.seq ?_
      refine SatC.region ?_
      refine SatL.pu (RunV.move rfl) rfl ?_
      first | refine SatL.pu (RunV.nil_ptr rfl) rfl ?_ | refine SatL.pu (RunV.nil_func rfl) rfl ?_ | refine SatL.pu (RunV.nil_yield rfl) rfl ?_
      first | refine SatL.pu (RunV.fieldAddrL rfl rfl rfl) rfl ?_ | refine SatL.pu (RunV.fieldAddr rfl rfl rfl) rfl ?_
      refine SatL.pu (RunV.load1 hS rfl rfl (by repeat constructor) rfl) rfl ?_
      refine SatL.pu (RunV.move rfl) rfl ?_
      refine SatL.pu (RunV.cast (v' := .tuple #[.agg (chv S.node x).toArray, .bool true]) (RunV.lookup2 (keyL rfl) hS rfl rfl rfl rfl (by repeat constructor) hmC.is) (by rw [kget_v, hq]; rfl)) rfl ?_
      refine SatL.pu (RunV.move rfl) rfl ?_
      refine SatL.pu (RunV.extract rfl rfl) rfl ?_
      refine SatL.pu (RunV.extract rfl rfl) rfl ?_
      refine SatL.op rfl (OpW.alloc hS rfl rfl (by repeat constructor) ?_)
      clear hS
      intro b5 w2 _ hS
      refine SatL.op rfl (OpW.store hS rfl rfl (by repeat constructor) (by repeat constructor) (by repeat constructor) rfl rfl ?_)
      clear hS
      intro w3 hS
      refine SatL.pu (RunV.assign rfl) rfl ?_
      refine SatL.nil (SatE.thenC ?_)
      refine SatC.seq ?_
      refine SatC.weak (e' := [(0, _), (1, _), (4, _), (6, _)]) (by repeat constructor) ?_
      refine SatC.region ?_
      refine SatL.pu (RunV.move rfl) rfl ?_
      refine SatL.pu (RunV.not rfl) rfl ?_
      refine SatL.nil (SatE.thenC ?_)
      refine SatC.cond rfl (fun h2 => ?_) (fun h2 => ?_)
      · (try simp only [cx, ne_eq] at h2)
        try (exfalso; (first | omega | exact h2 trivial | contradiction | (first | omega | (simp at h2; done))); done)
        all_goals
        refine SatC.seq ?_
        refine SatC.region ?_
        refine SatL.pu (RunV.assign rfl) rfl ?_
        refine SatL.nil (SatE.thenC ?_)
        refine SatC.ret (SatE.then_ret ?_)
        refine SatE.ret1 rfl rfl ?_
        subst D
        refine ⟨rfl, LO b S.node S.addr ms mc oS o8 (tbl S.sv ++ (dl Ch.id S.ch k).map hblk), ⟨hs16, Nat.le_trans (dl_sub _ _).length_le hc16, hsu, dl_nodup hcu, htg, fun c hc => hck c ((dl_sub _ _).subset hc), ms, mc, oS, o8, hmS, by rw [show aDelC S k = { S with ch := dl Ch.id S.ch k } from rfl, show ckv S.node (dl Ch.id S.ch k) = _ from (kdel_v Ch.id _ S.ch k).symm]; exact hmp8, rfl⟩, ?_⟩
        exact (hS.sel (R := LO b S.node S.addr ms mc oS o8 (tbl S.sv ++ S.ch.map hblk)) (by repeat constructor)).sub ((((List.Sublist.append_left ((dl_sub S.ch k).map hblk) (tbl S.sv)).cons_cons _).cons_cons _).cons_cons _)
      · (try simp only [cx, ne_eq] at h2)
        try (exfalso; (first | omega | exact h2 trivial | contradiction | (first | omega | (simp at h2; done))); done)
        all_goals
        refine SatC.skip (SatE.thenC ?_)
        refine SatC.seq ?_
        refine SatC.region ?_
        refine SatL.pu (RunV.move rfl) rfl ?_
        first | refine SatL.pu (RunV.nil_ptr rfl) rfl ?_ | refine SatL.pu (RunV.nil_func rfl) rfl ?_ | refine SatL.pu (RunV.nil_yield rfl) rfl ?_
        first | refine SatL.pu (RunV.fieldAddrL rfl rfl rfl) rfl ?_ | refine SatL.pu (RunV.fieldAddr rfl rfl rfl) rfl ?_
        refine SatL.pu (RunV.load1 hS rfl rfl (by repeat constructor) rfl) rfl ?_
        refine SatL.pu (RunV.move rfl) rfl ?_
        refine SatL.op rfl (OpW.deleteM (keyL rfl) hS rfl rfl rfl hmC _ (fun o' => by repeat constructor) ?_)
        clear hS
        intro o8 w4 hmp8 hS
        refine SatL.nil (SatE.thenC ?_)
        refine SatC.seq ?_
        refine SatC.region ?_
        refine SatL.pu (RunV.assign rfl) rfl ?_
        refine SatL.nil (SatE.thenC ?_)
        refine SatC.ret ?_
        refine SatE.ret1 rfl rfl ?_
        subst D
        refine ⟨rfl, LO b S.node S.addr ms mc oS o8 (tbl S.sv ++ (dl Ch.id S.ch k).map hblk), ⟨hs16, Nat.le_trans (dl_sub _ _).length_le hc16, hsu, dl_nodup hcu, htg, fun c hc => hck c ((dl_sub _ _).subset hc), ms, mc, oS, o8, hmS, by rw [show aDelC S k = { S with ch := dl Ch.id S.ch k } from rfl, show ckv S.node (dl Ch.id S.ch k) = _ from (kdel_v Ch.id _ S.ch k).symm]; exact hmp8, rfl⟩, ?_⟩
        exact (hS.sel (R := LO b S.node S.addr ms mc oS o8 (tbl S.sv ++ S.ch.map hblk)) (by repeat constructor)).sub ((((List.Sublist.append_left ((dl_sub S.ch k).map hblk) (tbl S.sv)).cons_cons _).cons_cons _).cons_cons _)
theorem ofT_d (k : List UInt8) (s : Int) (hbd : ∀ c ∈ S.ch, Bd 1000000 c.h) (h : Agt b S L) (hown : Own w L) :
    Ret Try.prog 60 #[.pointer (some ⟨b, 0, none⟩), str k, .func (.func 61) #[] #[], .int .i64 s] w fun u w' => u = .int .i64 (match gt Ch.id S.ch k with | none => 4 | some x => toldA x.h s) ∧ ∃ L', Agt b (aHup S k (fun c => toldC c s)) L' ∧ St w (L.map Prod.fst) L' w' := by
  have hw := h
  obtain ⟨hs16, hc16, hsu, hcu, htg, hck, ms, mc, oS, oC, hmS, hmC, rfl⟩ := h
  have hS := St.init hown
  generalize hX : (LO b S.node S.addr ms mc oS oC (tbl S.sv ++ S.ch.map hblk)).map Prod.fst = X at hS ⊢
  cases hq : gt Ch.id S.ch k with
  | none =>
    have e : hup k (fun c => toldC c s) S.ch = S.ch := by
      unfold hup
      conv => rhs; rw [← List.map_id S.ch]
      refine List.map_congr_left fun c hc => ?_
      rw [if_neg (fun e => gt_none.1 hq (by rw [← e]; exact List.mem_map_of_mem hc))]
      rfl
    generalize hD : tbl S.sv ++ S.ch.map hblk = D at hS hw
    refine Ret.enter Try.func60 Try.ntmps60 rfl rfl ?_
    simp only [argEnv, Nat.reduceAdd]
    refine SatC.seq ?_
    refine SatC.region ?_
    refine SatL.pu (RunV.assign rfl) rfl ?_
    refine SatL.nil (SatE.thenC ?_)
    refine SatC.seq ?_
    refine SatC.seq ?_
    refine SatC.region ?_
    refine SatL.pu (RunV.move rfl) rfl ?_
    refine SatL.op rfl (OpW.enter rfl rfl rfl (rfl) (lnone_any (hS.ownT (A := [(b, C 63 (lcc S.node S.addr ms mc))]) (by repeat constructor))) ?_)
    rintro r1 w1 ⟨rfl, h⟩
    replace hS := St.callN hS h
    refine SatL.nil (SatE.thenC ?_)
    refine SatC.cond rfl (fun h1 => ?_) (fun h1 => ?_)
    · (try simp only [cx, ne_eq] at h1)
      try (exfalso; (first | omega | exact h1 trivial | contradiction | (first | omega | (simp at h1; done))); done)
      all_goals
      refine SatC.seq ?_
      refine SatC.region ?_
      refine SatL.pu (RunV.assign rfl) rfl ?_
      refine SatL.nil (SatE.thenC ?_)
      refine SatC.ret (SatE.then_ret ?_)
      refine SatE.ret1 rfl rfl ?_
      exact ⟨rfl, _, by rw [show aHup S k (fun c => toldC c s) = S from by rw [aHup, e]]; exact hw, hS.sel (by repeat constructor)⟩
    · (try simp only [cx, ne_eq] at h1)
      try (exfalso; (first | omega | exact h1 trivial | contradiction | (first | omega | (simp at h1; done))); done)
      all_goals
      refine SatC.skip (SatE.thenC ?_)
      refine SatC.seq ?_
      refine SatC.region ?_
      refine SatL.pu (RunV.move rfl) rfl ?_
      first | refine SatL.pu (RunV.nil_ptr rfl) rfl ?_ | refine SatL.pu (RunV.nil_func rfl) rfl ?_ | refine SatL.pu (RunV.nil_yield rfl) rfl ?_
      first | refine SatL.pu (RunV.fieldAddrL rfl rfl rfl) rfl ?_ | refine SatL.pu (RunV.fieldAddr rfl rfl rfl) rfl ?_
      refine SatL.pu (RunV.load1 hS rfl rfl (by repeat constructor) rfl) rfl ?_
      refine SatL.pu (RunV.move rfl) rfl ?_
      refine SatL.pu (RunV.cast (RunV.lookup2 (keyL rfl) hS rfl rfl rfl rfl (by repeat constructor) hmC.is) (by rw [kget_v, hq])) rfl ?_
      refine SatL.pu (RunV.move rfl) rfl ?_
      refine SatL.pu (RunV.extract rfl rfl) rfl ?_
      refine SatL.pu (RunV.extract rfl rfl) rfl ?_
      refine SatL.op rfl (OpW.alloc hS rfl rfl (by repeat constructor) ?_)
      clear hS
      intro b9 w2 _ hS
      refine SatL.op rfl (OpW.store hS rfl rfl (by repeat constructor) (by repeat constructor) (by repeat constructor) rfl rfl ?_)
      clear hS
      intro w3 hS
      refine SatL.pu (RunV.assign rfl) rfl ?_
      refine SatL.nil (SatE.thenC ?_)
      refine SatC.seq ?_
      refine SatC.seq ?_
      refine SatC.weak (e' := [(2, _), (3, _), (8, _), (9, _), (10, _)]) (by repeat constructor) ?_
      refine SatC.region ?_
      refine SatL.pu (RunV.move rfl) rfl ?_
      refine SatL.pu (RunV.not rfl) rfl ?_
      refine SatL.nil (SatE.thenC ?_)
      refine SatC.cond rfl (fun h2 => ?_) (fun h2 => ?_)
      · (try simp only [cx, ne_eq] at h2)
        try (exfalso; (first | omega | exact h2 trivial | contradiction | (first | omega | (simp at h2; done))); done)
        all_goals
        refine SatC.seq ?_
        refine SatC.region ?_
        refine SatL.pu (RunV.assign rfl) rfl ?_
        refine SatL.nil (SatE.thenC ?_)
        refine SatC.ret (SatE.then_ret ?_)
        refine SatE.ret1 rfl rfl ?_
        exact ⟨rfl, _, by rw [show aHup S k (fun c => toldC c s) = S from by rw [aHup, e]]; exact hw, hS.sel (by repeat constructor)⟩
      · (try simp only [cx, ne_eq] at h2)
        try (exfalso; (first | omega | exact h2 trivial | contradiction | (first | omega | (simp at h2; done))); done)
        all_goals
        refine SatC.skip (SatE.thenC ?_)
        refine SatC.seq ?_
        refine SatC.region ?_
        refine SatL.pu (RunV.move rfl) rfl ?_
        first | refine SatL.pu (RunV.fieldAddrL rfl rfl rfl) rfl ?_ | refine SatL.pu (RunV.fieldAddr rfl rfl rfl) rfl ?_
        refine SatL.pu (RunV.load1 hS rfl rfl (by repeat constructor) rfl) rfl ?_
        refine SatL.pu (RunV.move rfl) rfl ?_
        -- STOP -- CALL t24
        done
  | some x =>
    obtain ⟨A, D, hl, hxk, hA, hDk⟩ := gt_split hq hcu
    have hup' := hup_split (g := (fun c => toldC c s)) hxk hA hDk
    rw [← hl] at hup'
    have hkx := hck x (by rw [hl]; simp)
    have hbx := hbd x (by rw [hl]; simp)
    have hS2 : St w X (hblk x :: LO b S.node S.addr ms mc oS oC (tbl S.sv ++ (A.map hblk ++ D.map hblk))) w := by
      refine hS.perm ?_
      rw [hl, List.map_append, List.map_cons]
      exact mid_perm
    clear hS
    have hS := hS2
    clear hS2
    generalize hE : tbl S.sv ++ (A.map hblk ++ D.map hblk) = E at hS
    unfold hblk at hS
    refine Ret.enter Try.func60 Try.ntmps60 rfl rfl ?_
    simp only [argEnv, Nat.reduceAdd]
    refine SatC.seq ?_
    refine SatC.region ?_
    refine SatL.pu (RunV.assign rfl) rfl ?_
    refine SatL.nil (SatE.thenC ?_)
    refine SatC.seq ?_
    refine SatC.seq ?_
    refine SatC.region ?_
    refine SatL.pu (RunV.move rfl) rfl ?_
    refine SatL.op rfl (OpW.enter rfl rfl rfl (rfl) (lnone_any (hS.ownT (A := [(b, C 63 (lcc S.node S.addr ms mc))]) (by repeat constructor))) ?_)
    rintro r1 w1 ⟨rfl, h⟩
    replace hS := St.callN hS h
    refine SatL.nil (SatE.thenC ?_)
    refine SatC.cond rfl (fun h1 => ?_) (fun h1 => ?_)
    · (try simp only [cx, ne_eq] at h1)
      try (exfalso; (first | omega | exact h1 trivial | contradiction | (first | omega | (simp at h1; done))); done)
      all_goals
      refine SatC.seq ?_
      refine SatC.region ?_
      refine SatL.pu (RunV.assign rfl) rfl ?_
      refine SatL.nil (SatE.thenC ?_)
      refine SatC.ret (SatE.then_ret ?_)
      refine SatE.ret1 rfl rfl ?_
      refine ⟨rfl, _, Agt.hup (ms := ms) (mc := mc) hs16 hc16 hsu hcu htg hck (by intro c; exact toldC_p c _) hmS hmC, ?_⟩
      rw [hup', List.map_append, List.map_cons]
      subst E
      exact (hS.sel (R := hblk { x with h := (fun c => toldC c s) x.h } :: LO b S.node S.addr ms mc oS oC (tbl S.sv ++ (A.map hblk ++ D.map hblk))) (by repeat constructor)).perm mid_perm.symm
    · (try simp only [cx, ne_eq] at h1)
      try (exfalso; (first | omega | exact h1 trivial | contradiction | (first | omega | (simp at h1; done))); done)
      all_goals
      refine SatC.skip (SatE.thenC ?_)
      refine SatC.seq ?_
      refine SatC.region ?_
      refine SatL.pu (RunV.move rfl) rfl ?_
      first | refine SatL.pu (RunV.nil_ptr rfl) rfl ?_ | refine SatL.pu (RunV.nil_func rfl) rfl ?_ | refine SatL.pu (RunV.nil_yield rfl) rfl ?_
      first | refine SatL.pu (RunV.fieldAddrL rfl rfl rfl) rfl ?_ | refine SatL.pu (RunV.fieldAddr rfl rfl rfl) rfl ?_
      refine SatL.pu (RunV.load1 hS rfl rfl (by repeat constructor) rfl) rfl ?_
      refine SatL.pu (RunV.move rfl) rfl ?_
      refine SatL.pu (RunV.cast (v' := .tuple #[.agg (chv S.node x).toArray, .bool true]) (RunV.lookup2 (keyL rfl) hS rfl rfl rfl rfl (by repeat constructor) hmC.is) (by rw [kget_v, hq]; rfl)) rfl ?_
      refine SatL.pu (RunV.move rfl) rfl ?_
      refine SatL.pu (RunV.extract rfl rfl) rfl ?_
      refine SatL.pu (RunV.extract rfl rfl) rfl ?_
      refine SatL.op rfl (OpW.alloc hS rfl rfl (by repeat constructor) ?_)
      clear hS
      intro b9 w2 _ hS
      refine SatL.op rfl (OpW.store hS rfl rfl (by repeat constructor) (by repeat constructor) (by repeat constructor) rfl rfl ?_)
      clear hS
      intro w3 hS
      refine SatL.pu (RunV.assign rfl) rfl ?_
      refine SatL.nil (SatE.thenC ?_)
      refine SatC.seq ?_
      refine SatC.seq ?_
      refine SatC.weak (e' := [(2, _), (3, _), (8, _), (9, _), (10, _)]) (by repeat constructor) ?_
      refine SatC.region ?_
      refine SatL.pu (RunV.move rfl) rfl ?_
      refine SatL.pu (RunV.not rfl) rfl ?_
      refine SatL.nil (SatE.thenC ?_)
      refine SatC.cond rfl (fun h2 => ?_) (fun h2 => ?_)
      · (try simp only [cx, ne_eq] at h2)
        try (exfalso; (first | omega | exact h2 trivial | contradiction | (first | omega | (simp at h2; done))); done)
        all_goals
        refine SatC.seq ?_
        refine SatC.region ?_
        refine SatL.pu (RunV.assign rfl) rfl ?_
        refine SatL.nil (SatE.thenC ?_)
        refine SatC.ret (SatE.then_ret ?_)
        refine SatE.ret1 rfl rfl ?_
        refine ⟨rfl, _, Agt.hup (ms := ms) (mc := mc) hs16 hc16 hsu hcu htg hck (by intro c; exact toldC_p c _) hmS hmC, ?_⟩
        rw [hup', List.map_append, List.map_cons]
        subst E
        exact (hS.sel (R := hblk { x with h := (fun c => toldC c s) x.h } :: LO b S.node S.addr ms mc oS oC (tbl S.sv ++ (A.map hblk ++ D.map hblk))) (by repeat constructor)).perm mid_perm.symm
      · (try simp only [cx, ne_eq] at h2)
        try (exfalso; (first | omega | exact h2 trivial | contradiction | (first | omega | (simp at h2; done))); done)
        all_goals
        refine SatC.skip (SatE.thenC ?_)
        refine SatC.seq ?_
        refine SatC.region ?_
        refine SatL.pu (RunV.move rfl) rfl ?_
        first | refine SatL.pu (RunV.fieldAddrL rfl rfl rfl) rfl ?_ | refine SatL.pu (RunV.fieldAddr rfl rfl rfl) rfl ?_
        refine SatL.pu (RunV.load1 hS rfl rfl (by repeat constructor) rfl) rfl ?_
        refine SatL.pu (RunV.move rfl) rfl ?_
        refine SatL.op rfl (OpW.enter rfl rfl rfl (rfl) (told_any s rfl (hS.ownOf (by repeat constructor)) hkx hbx) ?_)
        rintro r4 w4 ⟨rfl, h⟩
        replace hS := hS.callR (A := [(x.hb, C 108 (hc (fv x.h) x.h))]) (by repeat constructor) h
        rw [fv_p (toldC_p x.h s).symm] at hS
        refine SatL.pu (RunV.assign rfl) rfl ?_
        refine SatL.nil (SatE.thenC ?_)
        refine SatC.ret ?_
        refine SatE.ret1 rfl rfl ?_
        refine ⟨rfl, _, Agt.hup (ms := ms) (mc := mc) hs16 hc16 hsu hcu htg hck (by intro c; exact toldC_p c _) hmS hmC, ?_⟩
        rw [hup', List.map_append, List.map_cons]
        subst E
        exact (hS.sel (R := hblk { x with h := (fun c => toldC c s) x.h } :: LO b S.node S.addr ms mc oS oC (tbl S.sv ++ (A.map hblk ++ D.map hblk))) (by repeat constructor)).perm mid_perm.symm
theorem mtn_any {c : Ck} {b : Nat} {f : Value} {w : World} (on : Bool) (hown : Own w [(b, C 108 (hc f c))]) (hk : ¬ c.p.kind = 0) : Ret Try.prog 63 #[.pointer (some ⟨b, 0, none⟩), .bool on] w fun v w' => v = .int .i64 0 ∧ St w [b] [(b, C 108 (hc f { c with maint := on }))] w' := by
  have hS := St.init hown
  simp only [List.map_cons, List.map_nil] at hS
  refine Ret.enter Try.func63 Try.ntmps63 rfl rfl ?_
  simp only [argEnv, Nat.reduceAdd]
  refine SatC.seq ?_
  refine SatC.region ?_
  refine SatL.pu (RunV.assign rfl) rfl ?_
  refine SatL.nil (SatE.thenC ?_)
  refine SatC.seq ?_
  refine SatC.region ?_
  refine SatL.pu (RunV.move rfl) rfl ?_
  refine SatL.pu (RunV.move rfl) rfl ?_
  refine SatL.op rfl (OpW.enter rfl rfl rfl (rfl) (maint_any on (hS.ownOf (by repeat constructor)) hk) ?_)
  rintro r1 w1 h
  replace hS := hS.callR (A := [(b, C 108 (hc f c))]) (by repeat constructor) h
  refine SatL.nil (SatE.thenC ?_)
  refine SatC.seq ?_
  refine SatC.region ?_
  refine SatL.pu (RunV.assign rfl) rfl ?_
  refine SatL.nil (SatE.thenC ?_)
  refine SatC.ret ?_
  refine SatE.ret1 rfl rfl ?_
  exact ⟨rfl, hS⟩
theorem ofM_d (k : List UInt8) (on : Bool) (hbd : ∀ c ∈ S.ch, Bd 1000000 c.h) (h : Agt b S L) (hown : Own w L) :
    Ret Try.prog 62 #[.pointer (some ⟨b, 0, none⟩), str k, .func (.func 63) #[] #[], .bool on] w fun u w' => u = .int .i64 (match gt Ch.id S.ch k with | none => 4 | some _ => 0) ∧ ∃ L', Agt b (aHup S k (fun c => { c with maint := on })) L' ∧ St w (L.map Prod.fst) L' w' := by
  have hw := h
  obtain ⟨hs16, hc16, hsu, hcu, htg, hck, ms, mc, oS, oC, hmS, hmC, rfl⟩ := h
  have hS := St.init hown
  generalize hX : (LO b S.node S.addr ms mc oS oC (tbl S.sv ++ S.ch.map hblk)).map Prod.fst = X at hS ⊢
  cases hq : gt Ch.id S.ch k with
  | none =>
    have e : hup k (fun c => { c with maint := on }) S.ch = S.ch := by
      unfold hup
      conv => rhs; rw [← List.map_id S.ch]
      refine List.map_congr_left fun c hc => ?_
      rw [if_neg (fun e => gt_none.1 hq (by rw [← e]; exact List.mem_map_of_mem hc))]
      rfl
    generalize hD : tbl S.sv ++ S.ch.map hblk = D at hS hw
    refine Ret.enter Try.func62 Try.ntmps62 rfl rfl ?_
    simp only [argEnv, Nat.reduceAdd]
    refine SatC.seq ?_
    refine SatC.region ?_
    refine SatL.pu (RunV.assign rfl) rfl ?_
    refine SatL.nil (SatE.thenC ?_)
    refine SatC.seq ?_
    refine SatC.seq ?_
    refine SatC.region ?_
    refine SatL.pu (RunV.move rfl) rfl ?_
    refine SatL.op rfl (OpW.enter rfl rfl rfl (rfl) (lnone_any (hS.ownT (A := [(b, C 63 (lcc S.node S.addr ms mc))]) (by repeat constructor))) ?_)
    rintro r1 w1 ⟨rfl, h⟩
    replace hS := St.callN hS h
    refine SatL.nil (SatE.thenC ?_)
    refine SatC.cond rfl (fun h1 => ?_) (fun h1 => ?_)
    · (try simp only [cx, ne_eq] at h1)
      try (exfalso; (first | omega | exact h1 trivial | contradiction | (first | omega | (simp at h1; done))); done)
      all_goals
      refine SatC.seq ?_
      refine SatC.region ?_
      refine SatL.pu (RunV.assign rfl) rfl ?_
      refine SatL.nil (SatE.thenC ?_)
      refine SatC.ret (SatE.then_ret ?_)
      refine SatE.ret1 rfl rfl ?_
      exact ⟨rfl, _, by rw [show aHup S k (fun c => { c with maint := on }) = S from by rw [aHup, e]]; exact hw, hS.sel (by repeat constructor)⟩
    · (try simp only [cx, ne_eq] at h1)
      try (exfalso; (first | omega | exact h1 trivial | contradiction | (first | omega | (simp at h1; done))); done)
      all_goals
      refine SatC.skip (SatE.thenC ?_)
      refine SatC.seq ?_
      refine SatC.region ?_
      refine SatL.pu (RunV.move rfl) rfl ?_
      first | refine SatL.pu (RunV.nil_ptr rfl) rfl ?_ | refine SatL.pu (RunV.nil_func rfl) rfl ?_ | refine SatL.pu (RunV.nil_yield rfl) rfl ?_
      first | refine SatL.pu (RunV.fieldAddrL rfl rfl rfl) rfl ?_ | refine SatL.pu (RunV.fieldAddr rfl rfl rfl) rfl ?_
      refine SatL.pu (RunV.load1 hS rfl rfl (by repeat constructor) rfl) rfl ?_
      refine SatL.pu (RunV.move rfl) rfl ?_
      refine SatL.pu (RunV.cast (RunV.lookup2 (keyL rfl) hS rfl rfl rfl rfl (by repeat constructor) hmC.is) (by rw [kget_v, hq])) rfl ?_
      refine SatL.pu (RunV.move rfl) rfl ?_
      refine SatL.pu (RunV.extract rfl rfl) rfl ?_
      refine SatL.pu (RunV.extract rfl rfl) rfl ?_
      refine SatL.op rfl (OpW.alloc hS rfl rfl (by repeat constructor) ?_)
      clear hS
      intro b9 w2 _ hS
      refine SatL.op rfl (OpW.store hS rfl rfl (by repeat constructor) (by repeat constructor) (by repeat constructor) rfl rfl ?_)
      clear hS
      intro w3 hS
      refine SatL.pu (RunV.assign rfl) rfl ?_
      refine SatL.nil (SatE.thenC ?_)
      refine SatC.seq ?_
      refine SatC.seq ?_
      refine SatC.weak (e' := [(2, _), (3, _), (8, _), (9, _), (10, _)]) (by repeat constructor) ?_
      refine SatC.region ?_
      refine SatL.pu (RunV.move rfl) rfl ?_
      refine SatL.pu (RunV.not rfl) rfl ?_
      refine SatL.nil (SatE.thenC ?_)
      refine SatC.cond rfl (fun h2 => ?_) (fun h2 => ?_)
      · (try simp only [cx, ne_eq] at h2)
        try (exfalso; (first | omega | exact h2 trivial | contradiction | (first | omega | (simp at h2; done))); done)
        all_goals
        refine SatC.seq ?_
        refine SatC.region ?_
        refine SatL.pu (RunV.assign rfl) rfl ?_
        refine SatL.nil (SatE.thenC ?_)
        refine SatC.ret (SatE.then_ret ?_)
        refine SatE.ret1 rfl rfl ?_
        exact ⟨rfl, _, by rw [show aHup S k (fun c => { c with maint := on }) = S from by rw [aHup, e]]; exact hw, hS.sel (by repeat constructor)⟩
      · (try simp only [cx, ne_eq] at h2)
        try (exfalso; (first | omega | exact h2 trivial | contradiction | (first | omega | (simp at h2; done))); done)
        all_goals
        refine SatC.skip (SatE.thenC ?_)
        refine SatC.seq ?_
        refine SatC.region ?_
        refine SatL.pu (RunV.move rfl) rfl ?_
        first | refine SatL.pu (RunV.fieldAddrL rfl rfl rfl) rfl ?_ | refine SatL.pu (RunV.fieldAddr rfl rfl rfl) rfl ?_
        refine SatL.pu (RunV.load1 hS rfl rfl (by repeat constructor) rfl) rfl ?_
        refine SatL.pu (RunV.move rfl) rfl ?_
        -- STOP -- CALL t24
        done
  | some x =>
    obtain ⟨A, D, hl, hxk, hA, hDk⟩ := gt_split hq hcu
    have hup' := hup_split (g := (fun c => { c with maint := on })) hxk hA hDk
    rw [← hl] at hup'
    have hkx := hck x (by rw [hl]; simp)
    have hbx := hbd x (by rw [hl]; simp)
    have hS2 : St w X (hblk x :: LO b S.node S.addr ms mc oS oC (tbl S.sv ++ (A.map hblk ++ D.map hblk))) w := by
      refine hS.perm ?_
      rw [hl, List.map_append, List.map_cons]
      exact mid_perm
    clear hS
    have hS := hS2
    clear hS2
    generalize hE : tbl S.sv ++ (A.map hblk ++ D.map hblk) = E at hS
    unfold hblk at hS
    refine Ret.enter Try.func62 Try.ntmps62 rfl rfl ?_
    simp only [argEnv, Nat.reduceAdd]
    refine SatC.seq ?_
    refine SatC.region ?_
    refine SatL.pu (RunV.assign rfl) rfl ?_
    refine SatL.nil (SatE.thenC ?_)
    refine SatC.seq ?_
    refine SatC.seq ?_
    refine SatC.region ?_
    refine SatL.pu (RunV.move rfl) rfl ?_
    refine SatL.op rfl (OpW.enter rfl rfl rfl (rfl) (lnone_any (hS.ownT (A := [(b, C 63 (lcc S.node S.addr ms mc))]) (by repeat constructor))) ?_)
    rintro r1 w1 ⟨rfl, h⟩
    replace hS := St.callN hS h
    refine SatL.nil (SatE.thenC ?_)
    refine SatC.cond rfl (fun h1 => ?_) (fun h1 => ?_)
    · (try simp only [cx, ne_eq] at h1)
      try (exfalso; (first | omega | exact h1 trivial | contradiction | (first | omega | (simp at h1; done))); done)
      all_goals
      refine SatC.seq ?_
      refine SatC.region ?_
      refine SatL.pu (RunV.assign rfl) rfl ?_
      refine SatL.nil (SatE.thenC ?_)
      refine SatC.ret (SatE.then_ret ?_)
      refine SatE.ret1 rfl rfl ?_
      refine ⟨rfl, _, Agt.hup (ms := ms) (mc := mc) hs16 hc16 hsu hcu htg hck (by intro c; rfl) hmS hmC, ?_⟩
      rw [hup', List.map_append, List.map_cons]
      subst E
      exact (hS.sel (R := hblk { x with h := (fun c => { c with maint := on }) x.h } :: LO b S.node S.addr ms mc oS oC (tbl S.sv ++ (A.map hblk ++ D.map hblk))) (by repeat constructor)).perm mid_perm.symm
    · (try simp only [cx, ne_eq] at h1)
      try (exfalso; (first | omega | exact h1 trivial | contradiction | (first | omega | (simp at h1; done))); done)
      all_goals
      refine SatC.skip (SatE.thenC ?_)
      refine SatC.seq ?_
      refine SatC.region ?_
      refine SatL.pu (RunV.move rfl) rfl ?_
      first | refine SatL.pu (RunV.nil_ptr rfl) rfl ?_ | refine SatL.pu (RunV.nil_func rfl) rfl ?_ | refine SatL.pu (RunV.nil_yield rfl) rfl ?_
      first | refine SatL.pu (RunV.fieldAddrL rfl rfl rfl) rfl ?_ | refine SatL.pu (RunV.fieldAddr rfl rfl rfl) rfl ?_
      refine SatL.pu (RunV.load1 hS rfl rfl (by repeat constructor) rfl) rfl ?_
      refine SatL.pu (RunV.move rfl) rfl ?_
      refine SatL.pu (RunV.cast (v' := .tuple #[.agg (chv S.node x).toArray, .bool true]) (RunV.lookup2 (keyL rfl) hS rfl rfl rfl rfl (by repeat constructor) hmC.is) (by rw [kget_v, hq]; rfl)) rfl ?_
      refine SatL.pu (RunV.move rfl) rfl ?_
      refine SatL.pu (RunV.extract rfl rfl) rfl ?_
      refine SatL.pu (RunV.extract rfl rfl) rfl ?_
      refine SatL.op rfl (OpW.alloc hS rfl rfl (by repeat constructor) ?_)
      clear hS
      intro b9 w2 _ hS
      refine SatL.op rfl (OpW.store hS rfl rfl (by repeat constructor) (by repeat constructor) (by repeat constructor) rfl rfl ?_)
      clear hS
      intro w3 hS
      refine SatL.pu (RunV.assign rfl) rfl ?_
      refine SatL.nil (SatE.thenC ?_)
      refine SatC.seq ?_
      refine SatC.seq ?_
      refine SatC.weak (e' := [(2, _), (3, _), (8, _), (9, _), (10, _)]) (by repeat constructor) ?_
      refine SatC.region ?_
      refine SatL.pu (RunV.move rfl) rfl ?_
      refine SatL.pu (RunV.not rfl) rfl ?_
      refine SatL.nil (SatE.thenC ?_)
      refine SatC.cond rfl (fun h2 => ?_) (fun h2 => ?_)
      · (try simp only [cx, ne_eq] at h2)
        try (exfalso; (first | omega | exact h2 trivial | contradiction | (first | omega | (simp at h2; done))); done)
        all_goals
        refine SatC.seq ?_
        refine SatC.region ?_
        refine SatL.pu (RunV.assign rfl) rfl ?_
        refine SatL.nil (SatE.thenC ?_)
        refine SatC.ret (SatE.then_ret ?_)
        refine SatE.ret1 rfl rfl ?_
        refine ⟨rfl, _, Agt.hup (ms := ms) (mc := mc) hs16 hc16 hsu hcu htg hck (by intro c; rfl) hmS hmC, ?_⟩
        rw [hup', List.map_append, List.map_cons]
        subst E
        exact (hS.sel (R := hblk { x with h := (fun c => { c with maint := on }) x.h } :: LO b S.node S.addr ms mc oS oC (tbl S.sv ++ (A.map hblk ++ D.map hblk))) (by repeat constructor)).perm mid_perm.symm
      · (try simp only [cx, ne_eq] at h2)
        try (exfalso; (first | omega | exact h2 trivial | contradiction | (first | omega | (simp at h2; done))); done)
        all_goals
        refine SatC.skip (SatE.thenC ?_)
        refine SatC.seq ?_
        refine SatC.region ?_
        refine SatL.pu (RunV.move rfl) rfl ?_
        first | refine SatL.pu (RunV.fieldAddrL rfl rfl rfl) rfl ?_ | refine SatL.pu (RunV.fieldAddr rfl rfl rfl) rfl ?_
        refine SatL.pu (RunV.load1 hS rfl rfl (by repeat constructor) rfl) rfl ?_
        refine SatL.pu (RunV.move rfl) rfl ?_
        refine SatL.op rfl (OpW.enter rfl rfl rfl (rfl) (mtn_any on (hS.ownOf (by repeat constructor)) hkx) ?_)
        rintro r4 w4 ⟨rfl, h⟩
        replace hS := hS.callR (A := [(x.hb, C 108 (hc (fv x.h) x.h))]) (by repeat constructor) h
        refine SatL.pu (RunV.assign rfl) rfl ?_
        refine SatL.nil (SatE.thenC ?_)
        refine SatC.ret ?_
        refine SatE.ret1 rfl rfl ?_
        refine ⟨rfl, _, Agt.hup (ms := ms) (mc := mc) hs16 hc16 hsu hcu htg hck (by intro c; rfl) hmS hmC, ?_⟩
        rw [hup', List.map_append, List.map_cons]
        subst E
        exact (hS.sel (R := hblk { x with h := (fun c => { c with maint := on }) x.h } :: LO b S.node S.addr ms mc oS oC (tbl S.sv ++ (A.map hblk ++ D.map hblk))) (by repeat constructor)).perm mid_perm.symm
theorem addc_yes (cn st mk ix : Int) (id sv note : List UInt8) (p : Pl) (hp : Pok p) (hnl : note.length ≤ 9223372036854775807) (h : Agt b S L) (hown : Own w L) :
    Ret Try.prog 16 #[.pointer (some ⟨b, 0, none⟩), .agg #[.int .i64 cn, str id, str sv, str note, .int .i64 st, .int .u64 mk, .int .u64 ix], .agg (plc p).toArray] w fun u w' => u = .int .i64 (addCE S id sv note p) ∧ ∃ S' L', (addCE S id sv note p = 0 → ∃ hb, S' = aAddC S ⟨id, sv, note, hb, ck0 p⟩) ∧ (¬ addCE S id sv note p = 0 → S' = S) ∧ Agt b S' L' ∧ St w (L.map Prod.fst) L' w' := by
  have hw := h
  obtain ⟨hs16, hc16, hsu, hcu, htg, hck, ms, mc, oS, oC, hmS, hmC, rfl⟩ := h
  have hS := St.init hown
  generalize hX : (LO b S.node S.addr ms mc oS oC (tbl S.sv ++ S.ch.map hblk)).map Prod.fst = X at hS ⊢
  generalize hD : tbl S.sv ++ S.ch.map hblk = D at hS hw
  obtain ⟨z0, z1, z2, z3, z4, z5, z6, hz, hz1, hzs⟩ := lookS S.node S.sv sv fun s hs => (htg s hs).1.one
  refine Ret.enter Try.func16 Try.ntmps16 rfl rfl ?_
  simp only [argEnv, Nat.reduceAdd]
  refine SatC.seq ?_
  refine SatC.region ?_
  refine SatL.op rfl (OpW.box hS rfl rfl (by repeat constructor) ?_)
  clear hS
  intro b4 w1 _ hS
  refine SatL.op rfl (OpW.box hS rfl rfl (by repeat constructor) ?_)
  clear hS
  intro b5 w2 _ hS
  refine SatL.pu (RunV.assign rfl) rfl ?_
  refine SatL.nil (SatE.thenC ?_)
  refine SatC.seq ?_
  refine SatC.seq ?_
  refine SatC.region ?_
  refine SatL.pu (RunV.move rfl) rfl ?_
  refine SatL.op rfl (OpW.enter rfl rfl rfl (rfl) (lnone_any (hS.ownT (A := [(b, C 63 (lcc S.node S.addr ms mc))]) (by repeat constructor))) ?_)
  rintro r3 w3 ⟨rfl, h⟩
  replace hS := St.callN hS h
  refine SatL.nil (SatE.thenC ?_)
  refine SatC.cond rfl (fun h1 => ?_) (fun h1 => ?_)
  · (try simp only [cx, ne_eq] at h1)
    try (exfalso; (first | omega | exact h1 trivial | contradiction | (first | omega | (simp at h1; done))); done)
    all_goals
    refine SatC.seq ?_
    refine SatC.region ?_
    refine SatL.pu (RunV.assign rfl) rfl ?_
    refine SatL.nil (SatE.thenC ?_)
    refine SatC.ret (SatE.then_ret ?_)
    refine SatE.ret1 rfl rfl ?_
    first
    | exact addc_err (by unfold addCE; (repeat' split) <;> first | rfl | (exfalso; simp_all; done) | (exfalso; simp_all; omega) | (exfalso; omega)) (by decide) hw (hS.sel (by repeat constructor))
    | (have e : addCE S id sv note p = 0 := (by unfold addCE; (repeat' split) <;> first | rfl | (exfalso; simp_all; done) | (exfalso; simp_all; omega) | (exfalso; omega))
       refine ⟨by rw [e], _, _, fun _ => ⟨hb, rfl⟩, fun h0 => absurd e h0, Agt.addC (ms := ms) (mc := mc) (t := ⟨id, sv, note, hb, ck0 p⟩) hs16 hc16 hsu hcu htg hck hmS (by assumption) (pok_kind hp) hmp8, ?_⟩
       have hS2 := hS.sel (R := hblk ⟨id, sv, note, hb, ck0 p⟩ :: LO b S.node S.addr ms mc oS o8 D) (by repeat constructor)
       obtain ⟨M, hM⟩ := hbl_pt S.ch ⟨id, sv, note, hb, ck0 p⟩
       refine (hS2.perm (L' := LO b S.node S.addr ms mc oS o8 (tbl S.sv ++ (pt Ch.id S.ch ⟨id, sv, note, hb, ck0 p⟩).map hblk) ++ M) ?_).sub (List.sublist_append_left _ _)
       subst D
       exact addc_perm hM)
  · (try simp only [cx, ne_eq] at h1)
    try (exfalso; (first | omega | exact h1 trivial | contradiction | (first | omega | (simp at h1; done))); done)
    all_goals
    refine SatC.skip (SatE.thenC ?_)
    refine SatC.seq ?_
    refine SatC.drawnT 13 hS (hS) (by kernel_rfl) ?_
    clear hS
    intro w4 hh hS hD
    refine SatD.tk 0 rfl hD (fun _ hw => RunV.move rfl) ?_
    first | refine SatD.tk 1 rfl hD (fun _ hw => RunV.nil_ptr rfl) ?_ | refine SatD.tk 1 rfl hD (fun _ hw => RunV.nil_func rfl) ?_ | refine SatD.tk 1 rfl hD (fun _ hw => RunV.nil_yield rfl) ?_
    first | refine SatD.tk 2 rfl hD (fun _ hw => RunV.fieldAddrL rfl rfl rfl) ?_ | refine SatD.tk 2 rfl hD (fun _ hw => RunV.fieldAddr rfl rfl rfl) ?_
    refine SatD.tk 3 rfl hD (fun _ hw => RunV.load1 hw rfl rfl (by repeat constructor) rfl) ?_
    first | refine SatD.tk 4 rfl hD (fun _ hw => RunV.fieldAddrL rfl rfl rfl) ?_ | refine SatD.tk 4 rfl hD (fun _ hw => RunV.fieldAddr rfl rfl rfl) ?_
    refine SatD.tk 5 rfl hD (fun _ hw => RunV.load1 hw rfl rfl (by repeat constructor) rfl) ?_
    refine SatD.tk 6 rfl hD (fun _ hw => RunV.cast (v' := .tuple #[.agg #[z0, z1, z2, z3, z4, z5, z6], .bool (gt Sv.id S.sv sv).isSome]) (RunV.lookup2 (keyL rfl) hw rfl rfl rfl rfl (by repeat constructor) hmS.is) (by rw [hzs]; exact congrArg (fun z => Value.tuple #[z, _]) hz)) ?_
    refine SatD.tk 7 rfl hD (fun _ hw => RunV.move rfl) ?_
    refine SatD.tk 8 rfl hD (fun _ hw => RunV.extract rfl rfl) ?_
    refine SatD.tk 9 rfl hD (fun _ hw => RunV.extract rfl rfl) ?_
    refine SatD.ef 10 rfl (OpW.alloc hS rfl rfl (by repeat constructor) ?_)
    clear hS
    intro b7 w5 _ hS
    refine keepS (hS.sel (by repeat constructor)) (fun hD => ?_)
    refine SatD.ef 11 rfl (OpW.store hS rfl rfl (by repeat constructor) (by repeat constructor) (by repeat constructor) rfl hz1 ?_)
    clear hS
    intro w6 hS
    refine keepS (hS.sel (by repeat constructor)) (fun hD => ?_)
    refine SatD.tk 12 rfl hD (fun _ hw => RunV.assign rfl) ?_
    refine SatD.done 0 (by kernel_rfl) (SatE.thenC ?_)
    clear hD
    refine SatC.seq ?_
    refine SatC.weak (e' := [(0, _), (4, _), (5, _), (6, _), (8, _)]) (by repeat constructor) ?_
    refine SatC.region ?_
    refine SatL.pu (RunV.loadN hS rfl rfl (by repeat constructor) (by repeat constructor)) rfl ?_
    refine SatL.op rfl (OpW.enter rfl rfl rfl (rfl) (new_any p _ hp) ?_)
    rintro r7 w7 ⟨hb, rfl, h⟩
    replace hS := hS.callT (A := []) .nil h
    refine SatL.pu (RunV.move rfl) rfl ?_
    refine SatL.pu (RunV.extract rfl rfl) rfl ?_
    refine SatL.pu (RunV.extract rfl rfl) rfl ?_
    refine SatL.pu (RunV.assign rfl) rfl ?_
    refine SatL.pu (RunV.assign rfl) rfl ?_
    refine SatL.nil (SatE.thenC ?_)
    refine SatC.seq ?_
    refine SatC.block ?_
    refine SatC.seq ?_
    refine SatC.region ?_
    first | refine SatL.pu (RunV.fieldAddrL rfl rfl rfl) rfl ?_ | refine SatL.pu (RunV.fieldAddr rfl rfl rfl) rfl ?_
    refine SatL.pu (RunV.load1 hS rfl rfl (by repeat constructor) rfl) rfl ?_
    refine SatL.op rfl (OpW.enter rfl rfl rfl (rfl) (right_any _ _) ?_)
    rintro r8 w8 ⟨rfl, h⟩
    replace hS := St.callN hS h
    refine SatL.pu (RunV.not rfl) rfl ?_
    refine SatL.pu (RunV.move rfl) rfl ?_
    refine SatL.guard rfl rfl rfl (fun h2 => ?_) (fun h2 => ?_)
    · (try simp only [cx, ne_eq] at h2)
      try (exfalso; (first | omega | exact h2 trivial | contradiction | (first | omega | (simp at h2; done))); done)
      all_goals
      first | refine SatL.pu (RunV.fieldAddrL rfl rfl rfl) rfl ?_ | refine SatL.pu (RunV.fieldAddr rfl rfl rfl) rfl ?_
      refine SatL.guard_y rfl rfl ?_
      refine SatL.pu (RunV.load1 hS rfl rfl (by repeat constructor) rfl) rfl ?_
      refine SatL.guard_y rfl rfl ?_
      refine SatL.pu (RunV.sneq rfl rfl) rfl ?_
      refine SatL.guard_y rfl rfl ?_
      refine SatL.pu (RunV.move rfl) rfl ?_
      refine SatL.guard rfl rfl rfl (fun h3 => ?_) (fun h3 => ?_)
      · (try simp only [cx, ne_eq] at h3)
        try (exfalso; (first | omega | exact h3 trivial | contradiction | (first | omega | (simp at h3; done))); done)
        all_goals
        first | refine SatL.pu (RunV.fieldAddrL rfl rfl rfl) rfl ?_ | refine SatL.pu (RunV.fieldAddr rfl rfl rfl) rfl ?_
        refine SatL.guard_y rfl rfl ?_
        refine SatL.pu (RunV.load1 hS rfl rfl (by repeat constructor) rfl) rfl ?_
        refine SatL.guard_y rfl rfl ?_
        refine SatL.op rfl (OpW.enter rfl rfl rfl (rfl) (right_any _ _) ?_)
        rintro r9 w9 ⟨rfl, h⟩
        replace hS := St.callN hS h
        refine SatL.guard_y rfl rfl ?_
        refine SatL.pu (RunV.not rfl) rfl ?_
        refine SatL.guard_y rfl rfl ?_
        refine SatL.pu (RunV.pick_t rfl rfl) rfl ?_
        refine SatL.pu (RunV.pick_f rfl rfl) rfl ?_
        refine SatL.pu (RunV.assign rfl) rfl ?_
        refine SatL.nil (SatE.thenC ?_)
        refine SatC.weak (e' := [(0, _), (4, _), (6, _), (8, _), (9, _), (10, _), (28, _)]) (by repeat constructor) ?_
        refine SatC.cond rfl (fun h4 => ?_) (fun h4 => ?_)
        · (try simp only [cx, ne_eq] at h4)
          try (exfalso; (first | omega | exact h4 trivial | contradiction | (first | omega | (simp at h4; done))); done)
          all_goals
          refine SatC.seq ?_
          refine SatC.region ?_
          refine SatL.pu (RunV.assign rfl) rfl ?_
          refine SatL.nil (SatE.thenC ?_)
          refine SatC.ret (SatE.blk_ret (SatE.then_ret ?_))
          refine SatE.ret1 rfl rfl ?_
          first
          | exact addc_err (by unfold addCE; (repeat' split) <;> first | rfl | (exfalso; simp_all; done) | (exfalso; simp_all; omega) | (exfalso; omega)) (by decide) hw (hS.sel (by repeat constructor))
          | (have e : addCE S id sv note p = 0 := (by unfold addCE; (repeat' split) <;> first | rfl | (exfalso; simp_all; done) | (exfalso; simp_all; omega) | (exfalso; omega))
             refine ⟨by rw [e], _, _, fun _ => ⟨hb, rfl⟩, fun h0 => absurd e h0, Agt.addC (ms := ms) (mc := mc) (t := ⟨id, sv, note, hb, ck0 p⟩) hs16 hc16 hsu hcu htg hck hmS (by assumption) (pok_kind hp) hmp8, ?_⟩
             have hS2 := hS.sel (R := hblk ⟨id, sv, note, hb, ck0 p⟩ :: LO b S.node S.addr ms mc oS o8 D) (by repeat constructor)
             obtain ⟨M, hM⟩ := hbl_pt S.ch ⟨id, sv, note, hb, ck0 p⟩
             refine (hS2.perm (L' := LO b S.node S.addr ms mc oS o8 (tbl S.sv ++ (pt Ch.id S.ch ⟨id, sv, note, hb, ck0 p⟩).map hblk) ++ M) ?_).sub (List.sublist_append_left _ _)
             subst D
             exact addc_perm hM)
        · (try simp only [cx, ne_eq] at h4)
          try (exfalso; (first | omega | exact h4 trivial | contradiction | (first | omega | (simp at h4; done))); done)
          all_goals
          refine SatC.seq ?_
          refine SatC.region ?_
          first | refine SatL.pu (RunV.fieldAddrL rfl rfl rfl) rfl ?_ | refine SatL.pu (RunV.fieldAddr rfl rfl rfl) rfl ?_
          refine SatL.pu (RunV.load1 hS rfl rfl (by repeat constructor) rfl) rfl ?_
          refine SatL.pu (RunV.lenB rfl rfl) rfl ?_
          refine SatL.pu (RunV.gtr rfl rfl) rfl ?_
          refine SatL.pu (RunV.assign rfl) rfl ?_
          refine SatL.nil (SatE.thenC ?_)
          refine SatC.cond rfl (fun h5 => ?_) (fun h5 => ?_)
          · (try simp only [cx, ne_eq] at h5)
            try (exfalso; (first | omega | exact h5 trivial | contradiction | (first | omega | (simp at h5; done))); done)
            all_goals
            refine SatC.seq ?_
            refine SatC.region ?_
            refine SatL.pu (RunV.assign rfl) rfl ?_
            refine SatL.nil (SatE.thenC ?_)
            refine SatC.ret (SatE.blk_ret (SatE.then_ret ?_))
            refine SatE.ret1 rfl rfl ?_
            first
            | exact addc_err (by unfold addCE; (repeat' split) <;> first | rfl | (exfalso; simp_all; done) | (exfalso; simp_all; omega) | (exfalso; omega)) (by decide) hw (hS.sel (by repeat constructor))
            | (have e : addCE S id sv note p = 0 := (by unfold addCE; (repeat' split) <;> first | rfl | (exfalso; simp_all; done) | (exfalso; simp_all; omega) | (exfalso; omega))
               refine ⟨by rw [e], _, _, fun _ => ⟨hb, rfl⟩, fun h0 => absurd e h0, Agt.addC (ms := ms) (mc := mc) (t := ⟨id, sv, note, hb, ck0 p⟩) hs16 hc16 hsu hcu htg hck hmS (by assumption) (pok_kind hp) hmp8, ?_⟩
               have hS2 := hS.sel (R := hblk ⟨id, sv, note, hb, ck0 p⟩ :: LO b S.node S.addr ms mc oS o8 D) (by repeat constructor)
               obtain ⟨M, hM⟩ := hbl_pt S.ch ⟨id, sv, note, hb, ck0 p⟩
               refine (hS2.perm (L' := LO b S.node S.addr ms mc oS o8 (tbl S.sv ++ (pt Ch.id S.ch ⟨id, sv, note, hb, ck0 p⟩).map hblk) ++ M) ?_).sub (List.sublist_append_left _ _)
               subst D
               exact addc_perm hM)
          · (try simp only [cx, ne_eq] at h5)
            try (exfalso; (first | omega | exact h5 trivial | contradiction | (first | omega | (simp at h5; done))); done)
            all_goals
            refine SatC.seq ?_
            refine SatC.region ?_
            first | refine SatL.pu (RunV.fieldAddrL rfl rfl rfl) rfl ?_ | refine SatL.pu (RunV.fieldAddr rfl rfl rfl) rfl ?_
            refine SatL.pu (RunV.load1 hS rfl rfl (by repeat constructor) rfl) rfl ?_
            refine SatL.pu (RunV.sneq rfl rfl) rfl ?_
            refine SatL.pu (RunV.move rfl) rfl ?_
            refine SatL.guard rfl rfl rfl (fun h6 => ?_) (fun h6 => ?_)
            · (try simp only [cx, ne_eq] at h6)
              try (exfalso; (first | omega | exact h6 trivial | contradiction | (first | omega | (simp at h6; done))); done)
              all_goals
              refine SatL.pu (RunV.move rfl) rfl ?_
              refine SatL.guard_y rfl rfl ?_
              refine SatL.pu (RunV.not rfl) rfl ?_
              refine SatL.pu (RunV.pick_t rfl rfl) rfl ?_
              refine SatL.pu (RunV.assign rfl) rfl ?_
              refine SatL.nil (SatE.thenC ?_)
              refine SatC.weak (e' := [(0, _), (4, _), (6, _), (9, _), (10, _), (49, _)]) (by repeat constructor) ?_
              refine SatC.cond rfl (fun h7 => ?_) (fun h7 => ?_)
              · (try simp only [cx, ne_eq] at h7)
                try (exfalso; (first | omega | exact h7 trivial | contradiction | (first | omega | (simp at h7; done))); done)
                all_goals
                refine SatC.seq ?_
                refine SatC.region ?_
                refine SatL.pu (RunV.assign rfl) rfl ?_
                refine SatL.nil (SatE.thenC ?_)
                refine SatC.ret (SatE.blk_ret (SatE.then_ret ?_))
                refine SatE.ret1 rfl rfl ?_
                first
                | exact addc_err (by unfold addCE; (repeat' split) <;> first | rfl | (exfalso; simp_all; done) | (exfalso; simp_all; omega) | (exfalso; omega)) (by decide) hw (hS.sel (by repeat constructor))
                | (have e : addCE S id sv note p = 0 := (by unfold addCE; (repeat' split) <;> first | rfl | (exfalso; simp_all; done) | (exfalso; simp_all; omega) | (exfalso; omega))
                   refine ⟨by rw [e], _, _, fun _ => ⟨hb, rfl⟩, fun h0 => absurd e h0, Agt.addC (ms := ms) (mc := mc) (t := ⟨id, sv, note, hb, ck0 p⟩) hs16 hc16 hsu hcu htg hck hmS (by assumption) (pok_kind hp) hmp8, ?_⟩
                   have hS2 := hS.sel (R := hblk ⟨id, sv, note, hb, ck0 p⟩ :: LO b S.node S.addr ms mc oS o8 D) (by repeat constructor)
                   obtain ⟨M, hM⟩ := hbl_pt S.ch ⟨id, sv, note, hb, ck0 p⟩
                   refine (hS2.perm (L' := LO b S.node S.addr ms mc oS o8 (tbl S.sv ++ (pt Ch.id S.ch ⟨id, sv, note, hb, ck0 p⟩).map hblk) ++ M) ?_).sub (List.sublist_append_left _ _)
                   subst D
                   exact addc_perm hM)
              · (try simp only [cx, ne_eq] at h7)
                try (exfalso; (first | omega | exact h7 trivial | contradiction | (first | omega | (simp at h7; done))); done)
                all_goals
                refine SatC.seq ?_
                refine SatC.region ?_
                refine SatL.pu (RunV.move rfl) rfl ?_
                refine SatL.pu (RunV.neq rfl rfl) rfl ?_
                refine SatL.pu (RunV.assign rfl) rfl ?_
                refine SatL.nil (SatE.thenC ?_)
                refine SatC.cond rfl (fun h8 => ?_) (fun h8 => ?_)
                · (try simp only [cx, ne_eq] at h8)
                  try (exfalso; (first | omega | exact h8 trivial | contradiction | (first | omega | (simp at h8; done))); done)
                  all_goals
                  refine SatC.seq ?_
                  refine SatC.region ?_
                  refine SatL.pu (RunV.move rfl) rfl ?_
                  refine SatL.pu (RunV.assign rfl) rfl ?_
                  refine SatL.nil (SatE.thenC ?_)
                  refine SatC.ret (SatE.blk_ret (SatE.then_ret ?_))
                  refine SatE.ret1 rfl rfl ?_
                  first
                  | exact addc_err (by unfold addCE; (repeat' split) <;> first | rfl | (exfalso; simp_all; done) | (exfalso; simp_all; omega) | (exfalso; omega)) (by decide) hw (hS.sel (by repeat constructor))
                  | (have e : addCE S id sv note p = 0 := (by unfold addCE; (repeat' split) <;> first | rfl | (exfalso; simp_all; done) | (exfalso; simp_all; omega) | (exfalso; omega))
                     refine ⟨by rw [e], _, _, fun _ => ⟨hb, rfl⟩, fun h0 => absurd e h0, Agt.addC (ms := ms) (mc := mc) (t := ⟨id, sv, note, hb, ck0 p⟩) hs16 hc16 hsu hcu htg hck hmS (by assumption) (pok_kind hp) hmp8, ?_⟩
                     have hS2 := hS.sel (R := hblk ⟨id, sv, note, hb, ck0 p⟩ :: LO b S.node S.addr ms mc oS o8 D) (by repeat constructor)
                     obtain ⟨M, hM⟩ := hbl_pt S.ch ⟨id, sv, note, hb, ck0 p⟩
                     refine (hS2.perm (L' := LO b S.node S.addr ms mc oS o8 (tbl S.sv ++ (pt Ch.id S.ch ⟨id, sv, note, hb, ck0 p⟩).map hblk) ++ M) ?_).sub (List.sublist_append_left _ _)
                     subst D
                     exact addc_perm hM)
                · (try simp only [cx, ne_eq] at h8)
                  try (exfalso; (first | omega | exact h8 trivial | contradiction | (first | omega | (simp at h8; done))); done)
                  all_goals
                  refine SatC.seq ?_
                  refine SatC.drawnT 8 hS (hS) (by kernel_rfl) ?_
                  clear hS
                  intro w10 hh hS hD
                  refine SatD.tk 0 rfl hD (fun _ hw => RunV.move rfl) ?_
                  first | refine SatD.tk 1 rfl hD (fun _ hw => RunV.nil_ptr rfl) ?_ | refine SatD.tk 1 rfl hD (fun _ hw => RunV.nil_func rfl) ?_ | refine SatD.tk 1 rfl hD (fun _ hw => RunV.nil_yield rfl) ?_
                  first | refine SatD.tk 2 rfl hD (fun _ hw => RunV.fieldAddrL rfl rfl rfl) ?_ | refine SatD.tk 2 rfl hD (fun _ hw => RunV.fieldAddr rfl rfl rfl) ?_
                  refine SatD.tk 3 rfl hD (fun _ hw => RunV.load1 hw rfl rfl (by repeat constructor) rfl) ?_
                  first | refine SatD.tk 4 rfl hD (fun _ hw => RunV.fieldAddrL rfl rfl rfl) ?_ | refine SatD.tk 4 rfl hD (fun _ hw => RunV.fieldAddr rfl rfl rfl) ?_
                  refine SatD.tk 5 rfl hD (fun _ hw => RunV.load1 hw rfl rfl (by repeat constructor) rfl) ?_
                  refine SatD.ef 6 rfl (OpW.enter rfl rfl rfl (rfl) (fullC_any S.ch _ _ _ hmC (hS.ownT (A := [(mc, oC)]) (by repeat constructor))) ?_)
                  rintro r11 w11 ⟨rfl, h⟩
                  replace hS := St.callN hS h
                  refine keepS (hS.sel (by repeat constructor)) (fun hD => ?_)
                  refine SatD.tk 7 rfl hD (fun _ hw => RunV.assign rfl) ?_
                  refine SatD.done 0 (by kernel_rfl) (SatE.thenC ?_)
                  clear hD
                  refine SatC.weak (e' := [(0, _), (4, _), (6, _), (9, _), (61, _)]) (by repeat constructor) ?_
                  refine SatC.cond rfl (fun h9 => ?_) (fun h9 => ?_)
                  · (try simp only [cx, ne_eq] at h9)
                    try (exfalso; (first | omega | exact h9 trivial | contradiction | (first | omega | (simp at h9; done))); done)
                    all_goals
                    refine SatC.seq ?_
                    refine SatC.region ?_
                    refine SatL.pu (RunV.assign rfl) rfl ?_
                    refine SatL.nil (SatE.thenC ?_)
                    refine SatC.ret (SatE.blk_ret (SatE.then_ret ?_))
                    refine SatE.ret1 rfl rfl ?_
                    first
                    | exact addc_err (by unfold addCE; (repeat' split) <;> first | rfl | (exfalso; simp_all; done) | (exfalso; simp_all; omega) | (exfalso; omega)) (by decide) hw (hS.sel (by repeat constructor))
                    | (have e : addCE S id sv note p = 0 := (by unfold addCE; (repeat' split) <;> first | rfl | (exfalso; simp_all; done) | (exfalso; simp_all; omega) | (exfalso; omega))
                       refine ⟨by rw [e], _, _, fun _ => ⟨hb, rfl⟩, fun h0 => absurd e h0, Agt.addC (ms := ms) (mc := mc) (t := ⟨id, sv, note, hb, ck0 p⟩) hs16 hc16 hsu hcu htg hck hmS (by assumption) (pok_kind hp) hmp8, ?_⟩
                       have hS2 := hS.sel (R := hblk ⟨id, sv, note, hb, ck0 p⟩ :: LO b S.node S.addr ms mc oS o8 D) (by repeat constructor)
                       obtain ⟨M, hM⟩ := hbl_pt S.ch ⟨id, sv, note, hb, ck0 p⟩
                       refine (hS2.perm (L' := LO b S.node S.addr ms mc oS o8 (tbl S.sv ++ (pt Ch.id S.ch ⟨id, sv, note, hb, ck0 p⟩).map hblk) ++ M) ?_).sub (List.sublist_append_left _ _)
                       subst D
                       exact addc_perm hM)
                  · (try simp only [cx, ne_eq] at h9)
                    try (exfalso; (first | omega | exact h9 trivial | contradiction | (first | omega | (simp at h9; done))); done)
                    all_goals
                    refine SatC.skip (SatE.blk_normal (SatE.thenC ?_))
                    refine SatC.seq ?_
                    refine SatC.drawnT 19 hS (hS) (by kernel_rfl) ?_
                    clear hS
                    intro w12 hh hS hD
                    refine SatD.tk 0 rfl hD (fun _ hw => RunV.move rfl) ?_
                    first | refine SatD.tk 1 rfl hD (fun _ hw => RunV.nil_ptr rfl) ?_ | refine SatD.tk 1 rfl hD (fun _ hw => RunV.nil_func rfl) ?_ | refine SatD.tk 1 rfl hD (fun _ hw => RunV.nil_yield rfl) ?_
                    first | refine SatD.tk 2 rfl hD (fun _ hw => RunV.fieldAddrL rfl rfl rfl) ?_ | refine SatD.tk 2 rfl hD (fun _ hw => RunV.fieldAddr rfl rfl rfl) ?_
                    refine SatD.tk 3 rfl hD (fun _ hw => RunV.load1 hw rfl rfl (by repeat constructor) rfl) ?_
                    first | refine SatD.tk 4 rfl hD (fun _ hw => RunV.fieldAddrL rfl rfl rfl) ?_ | refine SatD.tk 4 rfl hD (fun _ hw => RunV.fieldAddr rfl rfl rfl) ?_
                    refine SatD.tk 5 rfl hD (fun _ hw => RunV.load1 hw rfl rfl (by repeat constructor) rfl) ?_
                    refine SatD.tk 6 rfl hD (fun _ hw => RunV.move rfl) ?_
                    first | refine SatD.tk 7 rfl hD (fun _ hw => RunV.nil_ptr rfl) ?_ | refine SatD.tk 7 rfl hD (fun _ hw => RunV.nil_func rfl) ?_ | refine SatD.tk 7 rfl hD (fun _ hw => RunV.nil_yield rfl) ?_
                    first | refine SatD.tk 8 rfl hD (fun _ hw => RunV.fieldAddrL rfl rfl rfl) ?_ | refine SatD.tk 8 rfl hD (fun _ hw => RunV.fieldAddr rfl rfl rfl) ?_
                    refine SatD.tk 9 rfl hD (fun _ hw => RunV.load1 hw rfl rfl (by repeat constructor) rfl) ?_
                    first | refine SatD.tk 10 rfl hD (fun _ hw => RunV.fieldAddrL rfl rfl rfl) ?_ | refine SatD.tk 10 rfl hD (fun _ hw => RunV.fieldAddr rfl rfl rfl) ?_
                    refine SatD.tk 11 rfl hD (fun _ hw => RunV.load1 hw rfl rfl (by repeat constructor) rfl) ?_
                    first | refine SatD.tk 12 rfl hD (fun _ hw => RunV.fieldAddrL rfl rfl rfl) ?_ | refine SatD.tk 12 rfl hD (fun _ hw => RunV.fieldAddr rfl rfl rfl) ?_
                    refine SatD.tk 13 rfl hD (fun _ hw => RunV.load1 hw rfl rfl (by repeat constructor) rfl) ?_
                    first | refine SatD.tk 14 rfl hD (fun _ hw => RunV.fieldAddrL rfl rfl rfl) ?_ | refine SatD.tk 14 rfl hD (fun _ hw => RunV.fieldAddr rfl rfl rfl) ?_
                    refine SatD.tk 15 rfl hD (fun _ hw => RunV.load1 hw rfl rfl (by repeat constructor) rfl) ?_
                    refine SatD.tk 16 rfl hD (fun _ hw => RunV.build rfl (by simp [go_sem]; try rfl)) ?_
                    refine SatD.tk 17 rfl hD (fun _ hw => RunV.move rfl) ?_
                    refine SatD.tk 18 rfl hD (fun _ hw => RunV.build rfl (by simp [go_sem]; try rfl)) ?_
                    refine SatD.effF (by kernel_rfl) rfl rfl (OpW.mapUpdateM (keyL rfl) hS rfl rfl rfl rfl hmC _ (fun o' => by repeat constructor) ?_)
                    clear hS
                    intro o8 w13 hmp8 hS
                    refine SatD.done 0 (by kernel_rfl) (SatE.thenC ?_)
                    clear hD
                    refine SatC.seq ?_
                    refine SatC.weak (e' := [(6, _)]) (by repeat constructor) ?_
                    refine SatC.region ?_
                    refine SatL.pu (RunV.assign rfl) rfl ?_
                    refine SatL.nil (SatE.thenC ?_)
                    refine SatC.ret ?_
                    refine SatE.ret1 rfl rfl ?_
                    first
                    | exact addc_err (by unfold addCE; (repeat' split) <;> first | rfl | (exfalso; simp_all; done) | (exfalso; simp_all; omega) | (exfalso; omega)) (by decide) hw (hS.sel (by repeat constructor))
                    | (have e : addCE S id sv note p = 0 := (by unfold addCE; (repeat' split) <;> first | rfl | (exfalso; simp_all; done) | (exfalso; simp_all; omega) | (exfalso; omega))
                       refine ⟨by rw [e], _, _, fun _ => ⟨hb, rfl⟩, fun h0 => absurd e h0, Agt.addC (ms := ms) (mc := mc) (t := ⟨id, sv, note, hb, ck0 p⟩) hs16 hc16 hsu hcu htg hck hmS (by assumption) (pok_kind hp) hmp8, ?_⟩
                       have hS2 := hS.sel (R := hblk ⟨id, sv, note, hb, ck0 p⟩ :: LO b S.node S.addr ms mc oS o8 D) (by repeat constructor)
                       obtain ⟨M, hM⟩ := hbl_pt S.ch ⟨id, sv, note, hb, ck0 p⟩
                       refine (hS2.perm (L' := LO b S.node S.addr ms mc oS o8 (tbl S.sv ++ (pt Ch.id S.ch ⟨id, sv, note, hb, ck0 p⟩).map hblk) ++ M) ?_).sub (List.sublist_append_left _ _)
                       subst D
                       exact addc_perm hM)
            · (try simp only [cx, ne_eq] at h6)
              try (exfalso; (first | omega | exact h6 trivial | contradiction | (first | omega | (simp at h6; done))); done)
              all_goals
              refine SatL.guard_n rfl rfl rfl rfl ?_
              refine SatL.pu (RunV.pick_f rfl rfl) rfl ?_
              refine SatL.pu (RunV.assign rfl) rfl ?_
              refine SatL.nil (SatE.thenC ?_)
              refine SatC.weak (e' := [(0, _), (4, _), (6, _), (9, _), (10, _), (49, _)]) (by repeat constructor) ?_
              refine SatC.cond_f rfl ?_
              refine SatC.seq ?_
              refine SatC.region ?_
              refine SatL.pu (RunV.move rfl) rfl ?_
              refine SatL.pu (RunV.neq rfl rfl) rfl ?_
              refine SatL.pu (RunV.assign rfl) rfl ?_
              refine SatL.nil (SatE.thenC ?_)
              refine SatC.cond rfl (fun h7 => ?_) (fun h7 => ?_)
              · (try simp only [cx, ne_eq] at h7)
                try (exfalso; (first | omega | exact h7 trivial | contradiction | (first | omega | (simp at h7; done))); done)
                all_goals
                refine SatC.seq ?_
                refine SatC.region ?_
                refine SatL.pu (RunV.move rfl) rfl ?_
                refine SatL.pu (RunV.assign rfl) rfl ?_
                refine SatL.nil (SatE.thenC ?_)
                refine SatC.ret (SatE.blk_ret (SatE.then_ret ?_))
                refine SatE.ret1 rfl rfl ?_
                first
                | exact addc_err (by unfold addCE; (repeat' split) <;> first | rfl | (exfalso; simp_all; done) | (exfalso; simp_all; omega) | (exfalso; omega)) (by decide) hw (hS.sel (by repeat constructor))
                | (have e : addCE S id sv note p = 0 := (by unfold addCE; (repeat' split) <;> first | rfl | (exfalso; simp_all; done) | (exfalso; simp_all; omega) | (exfalso; omega))
                   refine ⟨by rw [e], _, _, fun _ => ⟨hb, rfl⟩, fun h0 => absurd e h0, Agt.addC (ms := ms) (mc := mc) (t := ⟨id, sv, note, hb, ck0 p⟩) hs16 hc16 hsu hcu htg hck hmS (by assumption) (pok_kind hp) hmp8, ?_⟩
                   have hS2 := hS.sel (R := hblk ⟨id, sv, note, hb, ck0 p⟩ :: LO b S.node S.addr ms mc oS o8 D) (by repeat constructor)
                   obtain ⟨M, hM⟩ := hbl_pt S.ch ⟨id, sv, note, hb, ck0 p⟩
                   refine (hS2.perm (L' := LO b S.node S.addr ms mc oS o8 (tbl S.sv ++ (pt Ch.id S.ch ⟨id, sv, note, hb, ck0 p⟩).map hblk) ++ M) ?_).sub (List.sublist_append_left _ _)
                   subst D
                   exact addc_perm hM)
              · (try simp only [cx, ne_eq] at h7)
                try (exfalso; (first | omega | exact h7 trivial | contradiction | (first | omega | (simp at h7; done))); done)
                all_goals
                refine SatC.seq ?_
                refine SatC.drawnT 8 hS (hS) (by kernel_rfl) ?_
                clear hS
                intro w10 hh hS hD
                refine SatD.tk 0 rfl hD (fun _ hw => RunV.move rfl) ?_
                first | refine SatD.tk 1 rfl hD (fun _ hw => RunV.nil_ptr rfl) ?_ | refine SatD.tk 1 rfl hD (fun _ hw => RunV.nil_func rfl) ?_ | refine SatD.tk 1 rfl hD (fun _ hw => RunV.nil_yield rfl) ?_
                first | refine SatD.tk 2 rfl hD (fun _ hw => RunV.fieldAddrL rfl rfl rfl) ?_ | refine SatD.tk 2 rfl hD (fun _ hw => RunV.fieldAddr rfl rfl rfl) ?_
                refine SatD.tk 3 rfl hD (fun _ hw => RunV.load1 hw rfl rfl (by repeat constructor) rfl) ?_
                first | refine SatD.tk 4 rfl hD (fun _ hw => RunV.fieldAddrL rfl rfl rfl) ?_ | refine SatD.tk 4 rfl hD (fun _ hw => RunV.fieldAddr rfl rfl rfl) ?_
                refine SatD.tk 5 rfl hD (fun _ hw => RunV.load1 hw rfl rfl (by repeat constructor) rfl) ?_
                refine SatD.ef 6 rfl (OpW.enter rfl rfl rfl (rfl) (fullC_any S.ch _ _ _ hmC (hS.ownT (A := [(mc, oC)]) (by repeat constructor))) ?_)
                rintro r11 w11 ⟨rfl, h⟩
                replace hS := St.callN hS h
                refine keepS (hS.sel (by repeat constructor)) (fun hD => ?_)
                refine SatD.tk 7 rfl hD (fun _ hw => RunV.assign rfl) ?_
                refine SatD.done 0 (by kernel_rfl) (SatE.thenC ?_)
                clear hD
                refine SatC.weak (e' := [(0, _), (4, _), (6, _), (9, _), (61, _)]) (by repeat constructor) ?_
                refine SatC.cond rfl (fun h8 => ?_) (fun h8 => ?_)
                · (try simp only [cx, ne_eq] at h8)
                  try (exfalso; (first | omega | exact h8 trivial | contradiction | (first | omega | (simp at h8; done))); done)
                  all_goals
                  refine SatC.seq ?_
                  refine SatC.region ?_
                  refine SatL.pu (RunV.assign rfl) rfl ?_
                  refine SatL.nil (SatE.thenC ?_)
                  refine SatC.ret (SatE.blk_ret (SatE.then_ret ?_))
                  refine SatE.ret1 rfl rfl ?_
                  first
                  | exact addc_err (by unfold addCE; (repeat' split) <;> first | rfl | (exfalso; simp_all; done) | (exfalso; simp_all; omega) | (exfalso; omega)) (by decide) hw (hS.sel (by repeat constructor))
                  | (have e : addCE S id sv note p = 0 := (by unfold addCE; (repeat' split) <;> first | rfl | (exfalso; simp_all; done) | (exfalso; simp_all; omega) | (exfalso; omega))
                     refine ⟨by rw [e], _, _, fun _ => ⟨hb, rfl⟩, fun h0 => absurd e h0, Agt.addC (ms := ms) (mc := mc) (t := ⟨id, sv, note, hb, ck0 p⟩) hs16 hc16 hsu hcu htg hck hmS (by assumption) (pok_kind hp) hmp8, ?_⟩
                     have hS2 := hS.sel (R := hblk ⟨id, sv, note, hb, ck0 p⟩ :: LO b S.node S.addr ms mc oS o8 D) (by repeat constructor)
                     obtain ⟨M, hM⟩ := hbl_pt S.ch ⟨id, sv, note, hb, ck0 p⟩
                     refine (hS2.perm (L' := LO b S.node S.addr ms mc oS o8 (tbl S.sv ++ (pt Ch.id S.ch ⟨id, sv, note, hb, ck0 p⟩).map hblk) ++ M) ?_).sub (List.sublist_append_left _ _)
                     subst D
                     exact addc_perm hM)
                · (try simp only [cx, ne_eq] at h8)
                  try (exfalso; (first | omega | exact h8 trivial | contradiction | (first | omega | (simp at h8; done))); done)
                  all_goals
                  refine SatC.skip (SatE.blk_normal (SatE.thenC ?_))
                  refine SatC.seq ?_
                  refine SatC.drawnT 19 hS (hS) (by kernel_rfl) ?_
                  clear hS
                  intro w12 hh hS hD
                  refine SatD.tk 0 rfl hD (fun _ hw => RunV.move rfl) ?_
                  first | refine SatD.tk 1 rfl hD (fun _ hw => RunV.nil_ptr rfl) ?_ | refine SatD.tk 1 rfl hD (fun _ hw => RunV.nil_func rfl) ?_ | refine SatD.tk 1 rfl hD (fun _ hw => RunV.nil_yield rfl) ?_
                  first | refine SatD.tk 2 rfl hD (fun _ hw => RunV.fieldAddrL rfl rfl rfl) ?_ | refine SatD.tk 2 rfl hD (fun _ hw => RunV.fieldAddr rfl rfl rfl) ?_
                  refine SatD.tk 3 rfl hD (fun _ hw => RunV.load1 hw rfl rfl (by repeat constructor) rfl) ?_
                  first | refine SatD.tk 4 rfl hD (fun _ hw => RunV.fieldAddrL rfl rfl rfl) ?_ | refine SatD.tk 4 rfl hD (fun _ hw => RunV.fieldAddr rfl rfl rfl) ?_
                  refine SatD.tk 5 rfl hD (fun _ hw => RunV.load1 hw rfl rfl (by repeat constructor) rfl) ?_
                  refine SatD.tk 6 rfl hD (fun _ hw => RunV.move rfl) ?_
                  first | refine SatD.tk 7 rfl hD (fun _ hw => RunV.nil_ptr rfl) ?_ | refine SatD.tk 7 rfl hD (fun _ hw => RunV.nil_func rfl) ?_ | refine SatD.tk 7 rfl hD (fun _ hw => RunV.nil_yield rfl) ?_
                  first | refine SatD.tk 8 rfl hD (fun _ hw => RunV.fieldAddrL rfl rfl rfl) ?_ | refine SatD.tk 8 rfl hD (fun _ hw => RunV.fieldAddr rfl rfl rfl) ?_
                  refine SatD.tk 9 rfl hD (fun _ hw => RunV.load1 hw rfl rfl (by repeat constructor) rfl) ?_
                  first | refine SatD.tk 10 rfl hD (fun _ hw => RunV.fieldAddrL rfl rfl rfl) ?_ | refine SatD.tk 10 rfl hD (fun _ hw => RunV.fieldAddr rfl rfl rfl) ?_
                  refine SatD.tk 11 rfl hD (fun _ hw => RunV.load1 hw rfl rfl (by repeat constructor) rfl) ?_
                  first | refine SatD.tk 12 rfl hD (fun _ hw => RunV.fieldAddrL rfl rfl rfl) ?_ | refine SatD.tk 12 rfl hD (fun _ hw => RunV.fieldAddr rfl rfl rfl) ?_
                  refine SatD.tk 13 rfl hD (fun _ hw => RunV.load1 hw rfl rfl (by repeat constructor) rfl) ?_
                  first | refine SatD.tk 14 rfl hD (fun _ hw => RunV.fieldAddrL rfl rfl rfl) ?_ | refine SatD.tk 14 rfl hD (fun _ hw => RunV.fieldAddr rfl rfl rfl) ?_
                  refine SatD.tk 15 rfl hD (fun _ hw => RunV.load1 hw rfl rfl (by repeat constructor) rfl) ?_
                  refine SatD.tk 16 rfl hD (fun _ hw => RunV.build rfl (by simp [go_sem]; try rfl)) ?_
                  refine SatD.tk 17 rfl hD (fun _ hw => RunV.move rfl) ?_
                  refine SatD.tk 18 rfl hD (fun _ hw => RunV.build rfl (by simp [go_sem]; try rfl)) ?_
                  refine SatD.effF (by kernel_rfl) rfl rfl (OpW.mapUpdateM (keyL rfl) hS rfl rfl rfl rfl hmC _ (fun o' => by repeat constructor) ?_)
                  clear hS
                  intro o8 w13 hmp8 hS
                  refine SatD.done 0 (by kernel_rfl) (SatE.thenC ?_)
                  clear hD
                  refine SatC.seq ?_
                  refine SatC.weak (e' := [(6, _)]) (by repeat constructor) ?_
                  refine SatC.region ?_
                  refine SatL.pu (RunV.assign rfl) rfl ?_
                  refine SatL.nil (SatE.thenC ?_)
                  refine SatC.ret ?_
                  refine SatE.ret1 rfl rfl ?_
                  first
                  | exact addc_err (by unfold addCE; (repeat' split) <;> first | rfl | (exfalso; simp_all; done) | (exfalso; simp_all; omega) | (exfalso; omega)) (by decide) hw (hS.sel (by repeat constructor))
                  | (have e : addCE S id sv note p = 0 := (by unfold addCE; (repeat' split) <;> first | rfl | (exfalso; simp_all; done) | (exfalso; simp_all; omega) | (exfalso; omega))
                     refine ⟨by rw [e], _, _, fun _ => ⟨hb, rfl⟩, fun h0 => absurd e h0, Agt.addC (ms := ms) (mc := mc) (t := ⟨id, sv, note, hb, ck0 p⟩) hs16 hc16 hsu hcu htg hck hmS (by assumption) (pok_kind hp) hmp8, ?_⟩
                     have hS2 := hS.sel (R := hblk ⟨id, sv, note, hb, ck0 p⟩ :: LO b S.node S.addr ms mc oS o8 D) (by repeat constructor)
                     obtain ⟨M, hM⟩ := hbl_pt S.ch ⟨id, sv, note, hb, ck0 p⟩
                     refine (hS2.perm (L' := LO b S.node S.addr ms mc oS o8 (tbl S.sv ++ (pt Ch.id S.ch ⟨id, sv, note, hb, ck0 p⟩).map hblk) ++ M) ?_).sub (List.sublist_append_left _ _)
                     subst D
                     exact addc_perm hM)
      · (try simp only [cx, ne_eq] at h3)
        try (exfalso; (first | omega | exact h3 trivial | contradiction | (first | omega | (simp at h3; done))); done)
        all_goals
        refine SatL.guard_n rfl rfl rfl rfl ?_
        refine SatL.guard_n rfl rfl rfl rfl ?_
        refine SatL.guard_n rfl rfl rfl rfl ?_
        refine SatL.guard_y rfl rfl ?_
        refine SatL.pu (RunV.pick_f rfl rfl) rfl ?_
        refine SatL.pu (RunV.pick_f rfl rfl) rfl ?_
        refine SatL.pu (RunV.assign rfl) rfl ?_
        refine SatL.nil (SatE.thenC ?_)
        refine SatC.weak (e' := [(0, _), (4, _), (6, _), (8, _), (9, _), (10, _), (28, _)]) (by repeat constructor) ?_
        refine SatC.cond_f rfl ?_
        refine SatC.seq ?_
        refine SatC.region ?_
        first | refine SatL.pu (RunV.fieldAddrL rfl rfl rfl) rfl ?_ | refine SatL.pu (RunV.fieldAddr rfl rfl rfl) rfl ?_
        refine SatL.pu (RunV.load1 hS rfl rfl (by repeat constructor) rfl) rfl ?_
        refine SatL.pu (RunV.lenB rfl rfl) rfl ?_
        refine SatL.pu (RunV.gtr rfl rfl) rfl ?_
        refine SatL.pu (RunV.assign rfl) rfl ?_
        refine SatL.nil (SatE.thenC ?_)
        refine SatC.cond rfl (fun h4 => ?_) (fun h4 => ?_)
        · (try simp only [cx, ne_eq] at h4)
          try (exfalso; (first | omega | exact h4 trivial | contradiction | (first | omega | (simp at h4; done))); done)
          all_goals
          refine SatC.seq ?_
          refine SatC.region ?_
          refine SatL.pu (RunV.assign rfl) rfl ?_
          refine SatL.nil (SatE.thenC ?_)
          refine SatC.ret (SatE.blk_ret (SatE.then_ret ?_))
          refine SatE.ret1 rfl rfl ?_
          first
          | exact addc_err (by unfold addCE; (repeat' split) <;> first | rfl | (exfalso; simp_all; done) | (exfalso; simp_all; omega) | (exfalso; omega)) (by decide) hw (hS.sel (by repeat constructor))
          | (have e : addCE S id sv note p = 0 := (by unfold addCE; (repeat' split) <;> first | rfl | (exfalso; simp_all; done) | (exfalso; simp_all; omega) | (exfalso; omega))
             refine ⟨by rw [e], _, _, fun _ => ⟨hb, rfl⟩, fun h0 => absurd e h0, Agt.addC (ms := ms) (mc := mc) (t := ⟨id, sv, note, hb, ck0 p⟩) hs16 hc16 hsu hcu htg hck hmS (by assumption) (pok_kind hp) hmp8, ?_⟩
             have hS2 := hS.sel (R := hblk ⟨id, sv, note, hb, ck0 p⟩ :: LO b S.node S.addr ms mc oS o8 D) (by repeat constructor)
             obtain ⟨M, hM⟩ := hbl_pt S.ch ⟨id, sv, note, hb, ck0 p⟩
             refine (hS2.perm (L' := LO b S.node S.addr ms mc oS o8 (tbl S.sv ++ (pt Ch.id S.ch ⟨id, sv, note, hb, ck0 p⟩).map hblk) ++ M) ?_).sub (List.sublist_append_left _ _)
             subst D
             exact addc_perm hM)
        · (try simp only [cx, ne_eq] at h4)
          try (exfalso; (first | omega | exact h4 trivial | contradiction | (first | omega | (simp at h4; done))); done)
          all_goals
          refine SatC.seq ?_
          refine SatC.region ?_
          first | refine SatL.pu (RunV.fieldAddrL rfl rfl rfl) rfl ?_ | refine SatL.pu (RunV.fieldAddr rfl rfl rfl) rfl ?_
          refine SatL.pu (RunV.load1 hS rfl rfl (by repeat constructor) rfl) rfl ?_
          refine SatL.pu (RunV.sneq rfl rfl) rfl ?_
          refine SatL.pu (RunV.move rfl) rfl ?_
          refine SatL.guard rfl rfl rfl (fun h5 => ?_) (fun h5 => ?_)
          · (try simp only [cx, ne_eq] at h5)
            try (exfalso; (first | omega | exact h5 trivial | contradiction | (first | omega | (simp at h5; done))); done)
            all_goals
            refine SatL.pu (RunV.move rfl) rfl ?_
            refine SatL.guard_y rfl rfl ?_
            refine SatL.pu (RunV.not rfl) rfl ?_
            refine SatL.pu (RunV.pick_t rfl rfl) rfl ?_
            refine SatL.pu (RunV.assign rfl) rfl ?_
            refine SatL.nil (SatE.thenC ?_)
            refine SatC.weak (e' := [(0, _), (4, _), (6, _), (9, _), (10, _), (49, _)]) (by repeat constructor) ?_
            refine SatC.cond rfl (fun h6 => ?_) (fun h6 => ?_)
            · (try simp only [cx, ne_eq] at h6)
              try (exfalso; (first | omega | exact h6 trivial | contradiction | (first | omega | (simp at h6; done))); done)
              all_goals
              refine SatC.seq ?_
              refine SatC.region ?_
              refine SatL.pu (RunV.assign rfl) rfl ?_
              refine SatL.nil (SatE.thenC ?_)
              refine SatC.ret (SatE.blk_ret (SatE.then_ret ?_))
              refine SatE.ret1 rfl rfl ?_
              first
              | exact addc_err (by unfold addCE; (repeat' split) <;> first | rfl | (exfalso; simp_all; done) | (exfalso; simp_all; omega) | (exfalso; omega)) (by decide) hw (hS.sel (by repeat constructor))
              | (have e : addCE S id sv note p = 0 := (by unfold addCE; (repeat' split) <;> first | rfl | (exfalso; simp_all; done) | (exfalso; simp_all; omega) | (exfalso; omega))
                 refine ⟨by rw [e], _, _, fun _ => ⟨hb, rfl⟩, fun h0 => absurd e h0, Agt.addC (ms := ms) (mc := mc) (t := ⟨id, sv, note, hb, ck0 p⟩) hs16 hc16 hsu hcu htg hck hmS (by assumption) (pok_kind hp) hmp8, ?_⟩
                 have hS2 := hS.sel (R := hblk ⟨id, sv, note, hb, ck0 p⟩ :: LO b S.node S.addr ms mc oS o8 D) (by repeat constructor)
                 obtain ⟨M, hM⟩ := hbl_pt S.ch ⟨id, sv, note, hb, ck0 p⟩
                 refine (hS2.perm (L' := LO b S.node S.addr ms mc oS o8 (tbl S.sv ++ (pt Ch.id S.ch ⟨id, sv, note, hb, ck0 p⟩).map hblk) ++ M) ?_).sub (List.sublist_append_left _ _)
                 subst D
                 exact addc_perm hM)
            · (try simp only [cx, ne_eq] at h6)
              try (exfalso; (first | omega | exact h6 trivial | contradiction | (first | omega | (simp at h6; done))); done)
              all_goals
              refine SatC.seq ?_
              refine SatC.region ?_
              refine SatL.pu (RunV.move rfl) rfl ?_
              refine SatL.pu (RunV.neq rfl rfl) rfl ?_
              refine SatL.pu (RunV.assign rfl) rfl ?_
              refine SatL.nil (SatE.thenC ?_)
              refine SatC.cond rfl (fun h7 => ?_) (fun h7 => ?_)
              · (try simp only [cx, ne_eq] at h7)
                try (exfalso; (first | omega | exact h7 trivial | contradiction | (first | omega | (simp at h7; done))); done)
                all_goals
                refine SatC.seq ?_
                refine SatC.region ?_
                refine SatL.pu (RunV.move rfl) rfl ?_
                refine SatL.pu (RunV.assign rfl) rfl ?_
                refine SatL.nil (SatE.thenC ?_)
                refine SatC.ret (SatE.blk_ret (SatE.then_ret ?_))
                refine SatE.ret1 rfl rfl ?_
                first
                | exact addc_err (by unfold addCE; (repeat' split) <;> first | rfl | (exfalso; simp_all; done) | (exfalso; simp_all; omega) | (exfalso; omega)) (by decide) hw (hS.sel (by repeat constructor))
                | (have e : addCE S id sv note p = 0 := (by unfold addCE; (repeat' split) <;> first | rfl | (exfalso; simp_all; done) | (exfalso; simp_all; omega) | (exfalso; omega))
                   refine ⟨by rw [e], _, _, fun _ => ⟨hb, rfl⟩, fun h0 => absurd e h0, Agt.addC (ms := ms) (mc := mc) (t := ⟨id, sv, note, hb, ck0 p⟩) hs16 hc16 hsu hcu htg hck hmS (by assumption) (pok_kind hp) hmp8, ?_⟩
                   have hS2 := hS.sel (R := hblk ⟨id, sv, note, hb, ck0 p⟩ :: LO b S.node S.addr ms mc oS o8 D) (by repeat constructor)
                   obtain ⟨M, hM⟩ := hbl_pt S.ch ⟨id, sv, note, hb, ck0 p⟩
                   refine (hS2.perm (L' := LO b S.node S.addr ms mc oS o8 (tbl S.sv ++ (pt Ch.id S.ch ⟨id, sv, note, hb, ck0 p⟩).map hblk) ++ M) ?_).sub (List.sublist_append_left _ _)
                   subst D
                   exact addc_perm hM)
              · (try simp only [cx, ne_eq] at h7)
                try (exfalso; (first | omega | exact h7 trivial | contradiction | (first | omega | (simp at h7; done))); done)
                all_goals
                refine SatC.seq ?_
                refine SatC.drawnT 8 hS (hS) (by kernel_rfl) ?_
                clear hS
                intro w9 hh hS hD
                refine SatD.tk 0 rfl hD (fun _ hw => RunV.move rfl) ?_
                first | refine SatD.tk 1 rfl hD (fun _ hw => RunV.nil_ptr rfl) ?_ | refine SatD.tk 1 rfl hD (fun _ hw => RunV.nil_func rfl) ?_ | refine SatD.tk 1 rfl hD (fun _ hw => RunV.nil_yield rfl) ?_
                first | refine SatD.tk 2 rfl hD (fun _ hw => RunV.fieldAddrL rfl rfl rfl) ?_ | refine SatD.tk 2 rfl hD (fun _ hw => RunV.fieldAddr rfl rfl rfl) ?_
                refine SatD.tk 3 rfl hD (fun _ hw => RunV.load1 hw rfl rfl (by repeat constructor) rfl) ?_
                first | refine SatD.tk 4 rfl hD (fun _ hw => RunV.fieldAddrL rfl rfl rfl) ?_ | refine SatD.tk 4 rfl hD (fun _ hw => RunV.fieldAddr rfl rfl rfl) ?_
                refine SatD.tk 5 rfl hD (fun _ hw => RunV.load1 hw rfl rfl (by repeat constructor) rfl) ?_
                refine SatD.ef 6 rfl (OpW.enter rfl rfl rfl (rfl) (fullC_any S.ch _ _ _ hmC (hS.ownT (A := [(mc, oC)]) (by repeat constructor))) ?_)
                rintro r10 w10 ⟨rfl, h⟩
                replace hS := St.callN hS h
                refine keepS (hS.sel (by repeat constructor)) (fun hD => ?_)
                refine SatD.tk 7 rfl hD (fun _ hw => RunV.assign rfl) ?_
                refine SatD.done 0 (by kernel_rfl) (SatE.thenC ?_)
                clear hD
                refine SatC.weak (e' := [(0, _), (4, _), (6, _), (9, _), (61, _)]) (by repeat constructor) ?_
                refine SatC.cond rfl (fun h8 => ?_) (fun h8 => ?_)
                · (try simp only [cx, ne_eq] at h8)
                  try (exfalso; (first | omega | exact h8 trivial | contradiction | (first | omega | (simp at h8; done))); done)
                  all_goals
                  refine SatC.seq ?_
                  refine SatC.region ?_
                  refine SatL.pu (RunV.assign rfl) rfl ?_
                  refine SatL.nil (SatE.thenC ?_)
                  refine SatC.ret (SatE.blk_ret (SatE.then_ret ?_))
                  refine SatE.ret1 rfl rfl ?_
                  first
                  | exact addc_err (by unfold addCE; (repeat' split) <;> first | rfl | (exfalso; simp_all; done) | (exfalso; simp_all; omega) | (exfalso; omega)) (by decide) hw (hS.sel (by repeat constructor))
                  | (have e : addCE S id sv note p = 0 := (by unfold addCE; (repeat' split) <;> first | rfl | (exfalso; simp_all; done) | (exfalso; simp_all; omega) | (exfalso; omega))
                     refine ⟨by rw [e], _, _, fun _ => ⟨hb, rfl⟩, fun h0 => absurd e h0, Agt.addC (ms := ms) (mc := mc) (t := ⟨id, sv, note, hb, ck0 p⟩) hs16 hc16 hsu hcu htg hck hmS (by assumption) (pok_kind hp) hmp8, ?_⟩
                     have hS2 := hS.sel (R := hblk ⟨id, sv, note, hb, ck0 p⟩ :: LO b S.node S.addr ms mc oS o8 D) (by repeat constructor)
                     obtain ⟨M, hM⟩ := hbl_pt S.ch ⟨id, sv, note, hb, ck0 p⟩
                     refine (hS2.perm (L' := LO b S.node S.addr ms mc oS o8 (tbl S.sv ++ (pt Ch.id S.ch ⟨id, sv, note, hb, ck0 p⟩).map hblk) ++ M) ?_).sub (List.sublist_append_left _ _)
                     subst D
                     exact addc_perm hM)
                · (try simp only [cx, ne_eq] at h8)
                  try (exfalso; (first | omega | exact h8 trivial | contradiction | (first | omega | (simp at h8; done))); done)
                  all_goals
                  refine SatC.skip (SatE.blk_normal (SatE.thenC ?_))
                  refine SatC.seq ?_
                  refine SatC.drawnT 19 hS (hS) (by kernel_rfl) ?_
                  clear hS
                  intro w11 hh hS hD
                  refine SatD.tk 0 rfl hD (fun _ hw => RunV.move rfl) ?_
                  first | refine SatD.tk 1 rfl hD (fun _ hw => RunV.nil_ptr rfl) ?_ | refine SatD.tk 1 rfl hD (fun _ hw => RunV.nil_func rfl) ?_ | refine SatD.tk 1 rfl hD (fun _ hw => RunV.nil_yield rfl) ?_
                  first | refine SatD.tk 2 rfl hD (fun _ hw => RunV.fieldAddrL rfl rfl rfl) ?_ | refine SatD.tk 2 rfl hD (fun _ hw => RunV.fieldAddr rfl rfl rfl) ?_
                  refine SatD.tk 3 rfl hD (fun _ hw => RunV.load1 hw rfl rfl (by repeat constructor) rfl) ?_
                  first | refine SatD.tk 4 rfl hD (fun _ hw => RunV.fieldAddrL rfl rfl rfl) ?_ | refine SatD.tk 4 rfl hD (fun _ hw => RunV.fieldAddr rfl rfl rfl) ?_
                  refine SatD.tk 5 rfl hD (fun _ hw => RunV.load1 hw rfl rfl (by repeat constructor) rfl) ?_
                  refine SatD.tk 6 rfl hD (fun _ hw => RunV.move rfl) ?_
                  first | refine SatD.tk 7 rfl hD (fun _ hw => RunV.nil_ptr rfl) ?_ | refine SatD.tk 7 rfl hD (fun _ hw => RunV.nil_func rfl) ?_ | refine SatD.tk 7 rfl hD (fun _ hw => RunV.nil_yield rfl) ?_
                  first | refine SatD.tk 8 rfl hD (fun _ hw => RunV.fieldAddrL rfl rfl rfl) ?_ | refine SatD.tk 8 rfl hD (fun _ hw => RunV.fieldAddr rfl rfl rfl) ?_
                  refine SatD.tk 9 rfl hD (fun _ hw => RunV.load1 hw rfl rfl (by repeat constructor) rfl) ?_
                  first | refine SatD.tk 10 rfl hD (fun _ hw => RunV.fieldAddrL rfl rfl rfl) ?_ | refine SatD.tk 10 rfl hD (fun _ hw => RunV.fieldAddr rfl rfl rfl) ?_
                  refine SatD.tk 11 rfl hD (fun _ hw => RunV.load1 hw rfl rfl (by repeat constructor) rfl) ?_
                  first | refine SatD.tk 12 rfl hD (fun _ hw => RunV.fieldAddrL rfl rfl rfl) ?_ | refine SatD.tk 12 rfl hD (fun _ hw => RunV.fieldAddr rfl rfl rfl) ?_
                  refine SatD.tk 13 rfl hD (fun _ hw => RunV.load1 hw rfl rfl (by repeat constructor) rfl) ?_
                  first | refine SatD.tk 14 rfl hD (fun _ hw => RunV.fieldAddrL rfl rfl rfl) ?_ | refine SatD.tk 14 rfl hD (fun _ hw => RunV.fieldAddr rfl rfl rfl) ?_
                  refine SatD.tk 15 rfl hD (fun _ hw => RunV.load1 hw rfl rfl (by repeat constructor) rfl) ?_
                  refine SatD.tk 16 rfl hD (fun _ hw => RunV.build rfl (by simp [go_sem]; try rfl)) ?_
                  refine SatD.tk 17 rfl hD (fun _ hw => RunV.move rfl) ?_
                  refine SatD.tk 18 rfl hD (fun _ hw => RunV.build rfl (by simp [go_sem]; try rfl)) ?_
                  refine SatD.effF (by kernel_rfl) rfl rfl (OpW.mapUpdateM (keyL rfl) hS rfl rfl rfl rfl hmC _ (fun o' => by repeat constructor) ?_)
                  clear hS
                  intro o8 w12 hmp8 hS
                  refine SatD.done 0 (by kernel_rfl) (SatE.thenC ?_)
                  clear hD
                  refine SatC.seq ?_
                  refine SatC.weak (e' := [(6, _)]) (by repeat constructor) ?_
                  refine SatC.region ?_
                  refine SatL.pu (RunV.assign rfl) rfl ?_
                  refine SatL.nil (SatE.thenC ?_)
                  refine SatC.ret ?_
                  refine SatE.ret1 rfl rfl ?_
                  first
                  | exact addc_err (by unfold addCE; (repeat' split) <;> first | rfl | (exfalso; simp_all; done) | (exfalso; simp_all; omega) | (exfalso; omega)) (by decide) hw (hS.sel (by repeat constructor))
                  | (have e : addCE S id sv note p = 0 := (by unfold addCE; (repeat' split) <;> first | rfl | (exfalso; simp_all; done) | (exfalso; simp_all; omega) | (exfalso; omega))
                     refine ⟨by rw [e], _, _, fun _ => ⟨hb, rfl⟩, fun h0 => absurd e h0, Agt.addC (ms := ms) (mc := mc) (t := ⟨id, sv, note, hb, ck0 p⟩) hs16 hc16 hsu hcu htg hck hmS (by assumption) (pok_kind hp) hmp8, ?_⟩
                     have hS2 := hS.sel (R := hblk ⟨id, sv, note, hb, ck0 p⟩ :: LO b S.node S.addr ms mc oS o8 D) (by repeat constructor)
                     obtain ⟨M, hM⟩ := hbl_pt S.ch ⟨id, sv, note, hb, ck0 p⟩
                     refine (hS2.perm (L' := LO b S.node S.addr ms mc oS o8 (tbl S.sv ++ (pt Ch.id S.ch ⟨id, sv, note, hb, ck0 p⟩).map hblk) ++ M) ?_).sub (List.sublist_append_left _ _)
                     subst D
                     exact addc_perm hM)
          · (try simp only [cx, ne_eq] at h5)
            try (exfalso; (first | omega | exact h5 trivial | contradiction | (first | omega | (simp at h5; done))); done)
            all_goals
            refine SatL.guard_n rfl rfl rfl rfl ?_
            refine SatL.pu (RunV.pick_f rfl rfl) rfl ?_
            refine SatL.pu (RunV.assign rfl) rfl ?_
            refine SatL.nil (SatE.thenC ?_)
            refine SatC.weak (e' := [(0, _), (4, _), (6, _), (9, _), (10, _), (49, _)]) (by repeat constructor) ?_
            refine SatC.cond_f rfl ?_
            refine SatC.seq ?_
            refine SatC.region ?_
            refine SatL.pu (RunV.move rfl) rfl ?_
            refine SatL.pu (RunV.neq rfl rfl) rfl ?_
            refine SatL.pu (RunV.assign rfl) rfl ?_
            refine SatL.nil (SatE.thenC ?_)
            refine SatC.cond rfl (fun h6 => ?_) (fun h6 => ?_)
            · (try simp only [cx, ne_eq] at h6)
              try (exfalso; (first | omega | exact h6 trivial | contradiction | (first | omega | (simp at h6; done))); done)
              all_goals
              refine SatC.seq ?_
              refine SatC.region ?_
              refine SatL.pu (RunV.move rfl) rfl ?_
              refine SatL.pu (RunV.assign rfl) rfl ?_
              refine SatL.nil (SatE.thenC ?_)
              refine SatC.ret (SatE.blk_ret (SatE.then_ret ?_))
              refine SatE.ret1 rfl rfl ?_
              first
              | exact addc_err (by unfold addCE; (repeat' split) <;> first | rfl | (exfalso; simp_all; done) | (exfalso; simp_all; omega) | (exfalso; omega)) (by decide) hw (hS.sel (by repeat constructor))
              | (have e : addCE S id sv note p = 0 := (by unfold addCE; (repeat' split) <;> first | rfl | (exfalso; simp_all; done) | (exfalso; simp_all; omega) | (exfalso; omega))
                 refine ⟨by rw [e], _, _, fun _ => ⟨hb, rfl⟩, fun h0 => absurd e h0, Agt.addC (ms := ms) (mc := mc) (t := ⟨id, sv, note, hb, ck0 p⟩) hs16 hc16 hsu hcu htg hck hmS (by assumption) (pok_kind hp) hmp8, ?_⟩
                 have hS2 := hS.sel (R := hblk ⟨id, sv, note, hb, ck0 p⟩ :: LO b S.node S.addr ms mc oS o8 D) (by repeat constructor)
                 obtain ⟨M, hM⟩ := hbl_pt S.ch ⟨id, sv, note, hb, ck0 p⟩
                 refine (hS2.perm (L' := LO b S.node S.addr ms mc oS o8 (tbl S.sv ++ (pt Ch.id S.ch ⟨id, sv, note, hb, ck0 p⟩).map hblk) ++ M) ?_).sub (List.sublist_append_left _ _)
                 subst D
                 exact addc_perm hM)
            · (try simp only [cx, ne_eq] at h6)
              try (exfalso; (first | omega | exact h6 trivial | contradiction | (first | omega | (simp at h6; done))); done)
              all_goals
              refine SatC.seq ?_
              refine SatC.drawnT 8 hS (hS) (by kernel_rfl) ?_
              clear hS
              intro w9 hh hS hD
              refine SatD.tk 0 rfl hD (fun _ hw => RunV.move rfl) ?_
              first | refine SatD.tk 1 rfl hD (fun _ hw => RunV.nil_ptr rfl) ?_ | refine SatD.tk 1 rfl hD (fun _ hw => RunV.nil_func rfl) ?_ | refine SatD.tk 1 rfl hD (fun _ hw => RunV.nil_yield rfl) ?_
              first | refine SatD.tk 2 rfl hD (fun _ hw => RunV.fieldAddrL rfl rfl rfl) ?_ | refine SatD.tk 2 rfl hD (fun _ hw => RunV.fieldAddr rfl rfl rfl) ?_
              refine SatD.tk 3 rfl hD (fun _ hw => RunV.load1 hw rfl rfl (by repeat constructor) rfl) ?_
              first | refine SatD.tk 4 rfl hD (fun _ hw => RunV.fieldAddrL rfl rfl rfl) ?_ | refine SatD.tk 4 rfl hD (fun _ hw => RunV.fieldAddr rfl rfl rfl) ?_
              refine SatD.tk 5 rfl hD (fun _ hw => RunV.load1 hw rfl rfl (by repeat constructor) rfl) ?_
              refine SatD.ef 6 rfl (OpW.enter rfl rfl rfl (rfl) (fullC_any S.ch _ _ _ hmC (hS.ownT (A := [(mc, oC)]) (by repeat constructor))) ?_)
              rintro r10 w10 ⟨rfl, h⟩
              replace hS := St.callN hS h
              refine keepS (hS.sel (by repeat constructor)) (fun hD => ?_)
              refine SatD.tk 7 rfl hD (fun _ hw => RunV.assign rfl) ?_
              refine SatD.done 0 (by kernel_rfl) (SatE.thenC ?_)
              clear hD
              refine SatC.weak (e' := [(0, _), (4, _), (6, _), (9, _), (61, _)]) (by repeat constructor) ?_
              refine SatC.cond rfl (fun h7 => ?_) (fun h7 => ?_)
              · (try simp only [cx, ne_eq] at h7)
                try (exfalso; (first | omega | exact h7 trivial | contradiction | (first | omega | (simp at h7; done))); done)
                all_goals
                refine SatC.seq ?_
                refine SatC.region ?_
                refine SatL.pu (RunV.assign rfl) rfl ?_
                refine SatL.nil (SatE.thenC ?_)
                refine SatC.ret (SatE.blk_ret (SatE.then_ret ?_))
                refine SatE.ret1 rfl rfl ?_
                first
                | exact addc_err (by unfold addCE; (repeat' split) <;> first | rfl | (exfalso; simp_all; done) | (exfalso; simp_all; omega) | (exfalso; omega)) (by decide) hw (hS.sel (by repeat constructor))
                | (have e : addCE S id sv note p = 0 := (by unfold addCE; (repeat' split) <;> first | rfl | (exfalso; simp_all; done) | (exfalso; simp_all; omega) | (exfalso; omega))
                   refine ⟨by rw [e], _, _, fun _ => ⟨hb, rfl⟩, fun h0 => absurd e h0, Agt.addC (ms := ms) (mc := mc) (t := ⟨id, sv, note, hb, ck0 p⟩) hs16 hc16 hsu hcu htg hck hmS (by assumption) (pok_kind hp) hmp8, ?_⟩
                   have hS2 := hS.sel (R := hblk ⟨id, sv, note, hb, ck0 p⟩ :: LO b S.node S.addr ms mc oS o8 D) (by repeat constructor)
                   obtain ⟨M, hM⟩ := hbl_pt S.ch ⟨id, sv, note, hb, ck0 p⟩
                   refine (hS2.perm (L' := LO b S.node S.addr ms mc oS o8 (tbl S.sv ++ (pt Ch.id S.ch ⟨id, sv, note, hb, ck0 p⟩).map hblk) ++ M) ?_).sub (List.sublist_append_left _ _)
                   subst D
                   exact addc_perm hM)
              · (try simp only [cx, ne_eq] at h7)
                try (exfalso; (first | omega | exact h7 trivial | contradiction | (first | omega | (simp at h7; done))); done)
                all_goals
                refine SatC.skip (SatE.blk_normal (SatE.thenC ?_))
                refine SatC.seq ?_
                refine SatC.drawnT 19 hS (hS) (by kernel_rfl) ?_
                clear hS
                intro w11 hh hS hD
                refine SatD.tk 0 rfl hD (fun _ hw => RunV.move rfl) ?_
                first | refine SatD.tk 1 rfl hD (fun _ hw => RunV.nil_ptr rfl) ?_ | refine SatD.tk 1 rfl hD (fun _ hw => RunV.nil_func rfl) ?_ | refine SatD.tk 1 rfl hD (fun _ hw => RunV.nil_yield rfl) ?_
                first | refine SatD.tk 2 rfl hD (fun _ hw => RunV.fieldAddrL rfl rfl rfl) ?_ | refine SatD.tk 2 rfl hD (fun _ hw => RunV.fieldAddr rfl rfl rfl) ?_
                refine SatD.tk 3 rfl hD (fun _ hw => RunV.load1 hw rfl rfl (by repeat constructor) rfl) ?_
                first | refine SatD.tk 4 rfl hD (fun _ hw => RunV.fieldAddrL rfl rfl rfl) ?_ | refine SatD.tk 4 rfl hD (fun _ hw => RunV.fieldAddr rfl rfl rfl) ?_
                refine SatD.tk 5 rfl hD (fun _ hw => RunV.load1 hw rfl rfl (by repeat constructor) rfl) ?_
                refine SatD.tk 6 rfl hD (fun _ hw => RunV.move rfl) ?_
                first | refine SatD.tk 7 rfl hD (fun _ hw => RunV.nil_ptr rfl) ?_ | refine SatD.tk 7 rfl hD (fun _ hw => RunV.nil_func rfl) ?_ | refine SatD.tk 7 rfl hD (fun _ hw => RunV.nil_yield rfl) ?_
                first | refine SatD.tk 8 rfl hD (fun _ hw => RunV.fieldAddrL rfl rfl rfl) ?_ | refine SatD.tk 8 rfl hD (fun _ hw => RunV.fieldAddr rfl rfl rfl) ?_
                refine SatD.tk 9 rfl hD (fun _ hw => RunV.load1 hw rfl rfl (by repeat constructor) rfl) ?_
                first | refine SatD.tk 10 rfl hD (fun _ hw => RunV.fieldAddrL rfl rfl rfl) ?_ | refine SatD.tk 10 rfl hD (fun _ hw => RunV.fieldAddr rfl rfl rfl) ?_
                refine SatD.tk 11 rfl hD (fun _ hw => RunV.load1 hw rfl rfl (by repeat constructor) rfl) ?_
                first | refine SatD.tk 12 rfl hD (fun _ hw => RunV.fieldAddrL rfl rfl rfl) ?_ | refine SatD.tk 12 rfl hD (fun _ hw => RunV.fieldAddr rfl rfl rfl) ?_
                refine SatD.tk 13 rfl hD (fun _ hw => RunV.load1 hw rfl rfl (by repeat constructor) rfl) ?_
                first | refine SatD.tk 14 rfl hD (fun _ hw => RunV.fieldAddrL rfl rfl rfl) ?_ | refine SatD.tk 14 rfl hD (fun _ hw => RunV.fieldAddr rfl rfl rfl) ?_
                refine SatD.tk 15 rfl hD (fun _ hw => RunV.load1 hw rfl rfl (by repeat constructor) rfl) ?_
                refine SatD.tk 16 rfl hD (fun _ hw => RunV.build rfl (by simp [go_sem]; try rfl)) ?_
                refine SatD.tk 17 rfl hD (fun _ hw => RunV.move rfl) ?_
                refine SatD.tk 18 rfl hD (fun _ hw => RunV.build rfl (by simp [go_sem]; try rfl)) ?_
                refine SatD.effF (by kernel_rfl) rfl rfl (OpW.mapUpdateM (keyL rfl) hS rfl rfl rfl rfl hmC _ (fun o' => by repeat constructor) ?_)
                clear hS
                intro o8 w12 hmp8 hS
                refine SatD.done 0 (by kernel_rfl) (SatE.thenC ?_)
                clear hD
                refine SatC.seq ?_
                refine SatC.weak (e' := [(6, _)]) (by repeat constructor) ?_
                refine SatC.region ?_
                refine SatL.pu (RunV.assign rfl) rfl ?_
                refine SatL.nil (SatE.thenC ?_)
                refine SatC.ret ?_
                refine SatE.ret1 rfl rfl ?_
                first
                | exact addc_err (by unfold addCE; (repeat' split) <;> first | rfl | (exfalso; simp_all; done) | (exfalso; simp_all; omega) | (exfalso; omega)) (by decide) hw (hS.sel (by repeat constructor))
                | (have e : addCE S id sv note p = 0 := (by unfold addCE; (repeat' split) <;> first | rfl | (exfalso; simp_all; done) | (exfalso; simp_all; omega) | (exfalso; omega))
                   refine ⟨by rw [e], _, _, fun _ => ⟨hb, rfl⟩, fun h0 => absurd e h0, Agt.addC (ms := ms) (mc := mc) (t := ⟨id, sv, note, hb, ck0 p⟩) hs16 hc16 hsu hcu htg hck hmS (by assumption) (pok_kind hp) hmp8, ?_⟩
                   have hS2 := hS.sel (R := hblk ⟨id, sv, note, hb, ck0 p⟩ :: LO b S.node S.addr ms mc oS o8 D) (by repeat constructor)
                   obtain ⟨M, hM⟩ := hbl_pt S.ch ⟨id, sv, note, hb, ck0 p⟩
                   refine (hS2.perm (L' := LO b S.node S.addr ms mc oS o8 (tbl S.sv ++ (pt Ch.id S.ch ⟨id, sv, note, hb, ck0 p⟩).map hblk) ++ M) ?_).sub (List.sublist_append_left _ _)
                   subst D
                   exact addc_perm hM)
    · (try simp only [cx, ne_eq] at h2)
      try (exfalso; (first | omega | exact h2 trivial | contradiction | (first | omega | (simp at h2; done))); done)
      all_goals
      refine SatL.guard_n rfl rfl rfl rfl ?_
      refine SatL.guard_n rfl rfl rfl rfl ?_
      refine SatL.guard_n rfl rfl rfl rfl ?_
      refine SatL.guard_u rfl rfl rfl ?_
      refine SatL.guard_u rfl rfl rfl ?_
      refine SatL.guard_u rfl rfl rfl ?_
      refine SatL.guard_u rfl rfl rfl ?_
      refine SatL.guard_n rfl rfl rfl rfl ?_
      refine SatL.pu (RunV.pick_t rfl rfl) rfl ?_
      refine SatL.pu (RunV.assign rfl) rfl ?_
      refine SatL.nil (SatE.thenC ?_)
      refine SatC.weak (e' := [(0, _), (4, _), (6, _), (8, _), (9, _), (10, _), (28, _)]) (by repeat constructor) ?_
      refine SatC.cond_t rfl ?_
      refine SatC.seq ?_
      refine SatC.region ?_
      refine SatL.pu (RunV.assign rfl) rfl ?_
      refine SatL.nil (SatE.thenC ?_)
      refine SatC.ret (SatE.blk_ret (SatE.then_ret ?_))
      refine SatE.ret1 rfl rfl ?_
      first
      | exact addc_err (by unfold addCE; (repeat' split) <;> first | rfl | (exfalso; simp_all; done) | (exfalso; simp_all; omega) | (exfalso; omega)) (by decide) hw (hS.sel (by repeat constructor))
      | (have e : addCE S id sv note p = 0 := (by unfold addCE; (repeat' split) <;> first | rfl | (exfalso; simp_all; done) | (exfalso; simp_all; omega) | (exfalso; omega))
         refine ⟨by rw [e], _, _, fun _ => ⟨hb, rfl⟩, fun h0 => absurd e h0, Agt.addC (ms := ms) (mc := mc) (t := ⟨id, sv, note, hb, ck0 p⟩) hs16 hc16 hsu hcu htg hck hmS (by assumption) (pok_kind hp) hmp8, ?_⟩
         have hS2 := hS.sel (R := hblk ⟨id, sv, note, hb, ck0 p⟩ :: LO b S.node S.addr ms mc oS o8 D) (by repeat constructor)
         obtain ⟨M, hM⟩ := hbl_pt S.ch ⟨id, sv, note, hb, ck0 p⟩
         refine (hS2.perm (L' := LO b S.node S.addr ms mc oS o8 (tbl S.sv ++ (pt Ch.id S.ch ⟨id, sv, note, hb, ck0 p⟩).map hblk) ++ M) ?_).sub (List.sublist_append_left _ _)
         subst D
         exact addc_perm hM)
theorem addc_no (cn st mk ix : Int) (id sv note : List UInt8) (p : Pl) (hp : ¬ Pok p) (hnl : note.length ≤ 9223372036854775807) (h : Agt b S L) (hown : Own w L) :
    Ret Try.prog 16 #[.pointer (some ⟨b, 0, none⟩), .agg #[.int .i64 cn, str id, str sv, str note, .int .i64 st, .int .u64 mk, .int .u64 ix], .agg (plc p).toArray] w fun u w' => u = .int .i64 (addCE S id sv note p) ∧ ∃ S' L', (addCE S id sv note p = 0 → ∃ hb, S' = aAddC S ⟨id, sv, note, hb, ck0 p⟩) ∧ (¬ addCE S id sv note p = 0 → S' = S) ∧ Agt b S' L' ∧ St w (L.map Prod.fst) L' w' := by
  have hw := h
  obtain ⟨hs16, hc16, hsu, hcu, htg, hck, ms, mc, oS, oC, hmS, hmC, rfl⟩ := h
  have hS := St.init hown
  generalize hX : (LO b S.node S.addr ms mc oS oC (tbl S.sv ++ S.ch.map hblk)).map Prod.fst = X at hS ⊢
  generalize hD : tbl S.sv ++ S.ch.map hblk = D at hS hw
  obtain ⟨z0, z1, z2, z3, z4, z5, z6, hz, hz1, hzs⟩ := lookS S.node S.sv sv fun s hs => (htg s hs).1.one
  refine Ret.enter Try.func16 Try.ntmps16 rfl rfl ?_
  simp only [argEnv, Nat.reduceAdd]
  refine SatC.seq ?_
  refine SatC.region ?_
  refine SatL.op rfl (OpW.box hS rfl rfl (by repeat constructor) ?_)
  clear hS
  intro b4 w1 _ hS
  refine SatL.op rfl (OpW.box hS rfl rfl (by repeat constructor) ?_)
  clear hS
  intro b5 w2 _ hS
  refine SatL.pu (RunV.assign rfl) rfl ?_
  refine SatL.nil (SatE.thenC ?_)
  refine SatC.seq ?_
  refine SatC.seq ?_
  refine SatC.region ?_
  refine SatL.pu (RunV.move rfl) rfl ?_
  refine SatL.op rfl (OpW.enter rfl rfl rfl (rfl) (lnone_any (hS.ownT (A := [(b, C 63 (lcc S.node S.addr ms mc))]) (by repeat constructor))) ?_)
  rintro r3 w3 ⟨rfl, h⟩
  replace hS := St.callN hS h
  refine SatL.nil (SatE.thenC ?_)
  refine SatC.cond rfl (fun h1 => ?_) (fun h1 => ?_)
  · (try simp only [cx, ne_eq] at h1)
    try (exfalso; (first | omega | exact h1 trivial | contradiction | (first | omega | (simp at h1; done))); done)
    all_goals
    refine SatC.seq ?_
    refine SatC.region ?_
    refine SatL.pu (RunV.assign rfl) rfl ?_
    refine SatL.nil (SatE.thenC ?_)
    refine SatC.ret (SatE.then_ret ?_)
    refine SatE.ret1 rfl rfl ?_
    exact addc_err (by unfold addCE; (repeat' split) <;> first | rfl | (exfalso; simp_all; done) | (exfalso; simp_all; omega) | (exfalso; omega)) (by decide) hw (hS.sel (by repeat constructor))
  · (try simp only [cx, ne_eq] at h1)
    try (exfalso; (first | omega | exact h1 trivial | contradiction | (first | omega | (simp at h1; done))); done)
    all_goals
    refine SatC.skip (SatE.thenC ?_)
    refine SatC.seq ?_
    refine SatC.drawnT 13 hS (hS) (by kernel_rfl) ?_
    clear hS
    intro w4 hh hS hD
    refine SatD.tk 0 rfl hD (fun _ hw => RunV.move rfl) ?_
    first | refine SatD.tk 1 rfl hD (fun _ hw => RunV.nil_ptr rfl) ?_ | refine SatD.tk 1 rfl hD (fun _ hw => RunV.nil_func rfl) ?_ | refine SatD.tk 1 rfl hD (fun _ hw => RunV.nil_yield rfl) ?_
    first | refine SatD.tk 2 rfl hD (fun _ hw => RunV.fieldAddrL rfl rfl rfl) ?_ | refine SatD.tk 2 rfl hD (fun _ hw => RunV.fieldAddr rfl rfl rfl) ?_
    refine SatD.tk 3 rfl hD (fun _ hw => RunV.load1 hw rfl rfl (by repeat constructor) rfl) ?_
    first | refine SatD.tk 4 rfl hD (fun _ hw => RunV.fieldAddrL rfl rfl rfl) ?_ | refine SatD.tk 4 rfl hD (fun _ hw => RunV.fieldAddr rfl rfl rfl) ?_
    refine SatD.tk 5 rfl hD (fun _ hw => RunV.load1 hw rfl rfl (by repeat constructor) rfl) ?_
    refine SatD.tk 6 rfl hD (fun _ hw => RunV.cast (v' := .tuple #[.agg #[z0, z1, z2, z3, z4, z5, z6], .bool (gt Sv.id S.sv sv).isSome]) (RunV.lookup2 (keyL rfl) hw rfl rfl rfl rfl (by repeat constructor) hmS.is) (by rw [hzs]; exact congrArg (fun z => Value.tuple #[z, _]) hz)) ?_
    refine SatD.tk 7 rfl hD (fun _ hw => RunV.move rfl) ?_
    refine SatD.tk 8 rfl hD (fun _ hw => RunV.extract rfl rfl) ?_
    refine SatD.tk 9 rfl hD (fun _ hw => RunV.extract rfl rfl) ?_
    refine SatD.ef 10 rfl (OpW.alloc hS rfl rfl (by repeat constructor) ?_)
    clear hS
    intro b7 w5 _ hS
    refine keepS (hS.sel (by repeat constructor)) (fun hD => ?_)
    refine SatD.ef 11 rfl (OpW.store hS rfl rfl (by repeat constructor) (by repeat constructor) (by repeat constructor) rfl hz1 ?_)
    clear hS
    intro w6 hS
    refine keepS (hS.sel (by repeat constructor)) (fun hD => ?_)
    refine SatD.tk 12 rfl hD (fun _ hw => RunV.assign rfl) ?_
    refine SatD.done 0 (by kernel_rfl) (SatE.thenC ?_)
    clear hD
    refine SatC.seq ?_
    refine SatC.weak (e' := [(0, _), (4, _), (5, _), (6, _), (8, _)]) (by repeat constructor) ?_
    refine SatC.region ?_
    refine SatL.pu (RunV.loadN hS rfl rfl (by repeat constructor) (by repeat constructor)) rfl ?_
    refine SatL.op rfl (OpW.enter rfl rfl rfl (rfl) (new_no p _ hp) ?_)
    rintro r7 w7 ⟨rfl, h⟩
    replace hS := St.callN hS h
    refine SatL.pu (RunV.move rfl) rfl ?_
    refine SatL.pu (RunV.extract rfl rfl) rfl ?_
    refine SatL.pu (RunV.extract rfl rfl) rfl ?_
    refine SatL.pu (RunV.assign rfl) rfl ?_
    refine SatL.pu (RunV.assign rfl) rfl ?_
    refine SatL.nil (SatE.thenC ?_)
    refine SatC.seq ?_
    refine SatC.block ?_
    refine SatC.seq ?_
    refine SatC.region ?_
    first | refine SatL.pu (RunV.fieldAddrL rfl rfl rfl) rfl ?_ | refine SatL.pu (RunV.fieldAddr rfl rfl rfl) rfl ?_
    refine SatL.pu (RunV.load1 hS rfl rfl (by repeat constructor) rfl) rfl ?_
    refine SatL.op rfl (OpW.enter rfl rfl rfl (rfl) (right_any _ _) ?_)
    rintro r8 w8 ⟨rfl, h⟩
    replace hS := St.callN hS h
    refine SatL.pu (RunV.not rfl) rfl ?_
    refine SatL.pu (RunV.move rfl) rfl ?_
    refine SatL.guard rfl rfl rfl (fun h2 => ?_) (fun h2 => ?_)
    · (try simp only [cx, ne_eq] at h2)
      try (exfalso; (first | omega | exact h2 trivial | contradiction | (first | omega | (simp at h2; done))); done)
      all_goals
      first | refine SatL.pu (RunV.fieldAddrL rfl rfl rfl) rfl ?_ | refine SatL.pu (RunV.fieldAddr rfl rfl rfl) rfl ?_
      refine SatL.guard_y rfl rfl ?_
      refine SatL.pu (RunV.load1 hS rfl rfl (by repeat constructor) rfl) rfl ?_
      refine SatL.guard_y rfl rfl ?_
      refine SatL.pu (RunV.sneq rfl rfl) rfl ?_
      refine SatL.guard_y rfl rfl ?_
      refine SatL.pu (RunV.move rfl) rfl ?_
      refine SatL.guard rfl rfl rfl (fun h3 => ?_) (fun h3 => ?_)
      · (try simp only [cx, ne_eq] at h3)
        try (exfalso; (first | omega | exact h3 trivial | contradiction | (first | omega | (simp at h3; done))); done)
        all_goals
        first | refine SatL.pu (RunV.fieldAddrL rfl rfl rfl) rfl ?_ | refine SatL.pu (RunV.fieldAddr rfl rfl rfl) rfl ?_
        refine SatL.guard_y rfl rfl ?_
        refine SatL.pu (RunV.load1 hS rfl rfl (by repeat constructor) rfl) rfl ?_
        refine SatL.guard_y rfl rfl ?_
        refine SatL.op rfl (OpW.enter rfl rfl rfl (rfl) (right_any _ _) ?_)
        rintro r9 w9 ⟨rfl, h⟩
        replace hS := St.callN hS h
        refine SatL.guard_y rfl rfl ?_
        refine SatL.pu (RunV.not rfl) rfl ?_
        refine SatL.guard_y rfl rfl ?_
        refine SatL.pu (RunV.pick_t rfl rfl) rfl ?_
        refine SatL.pu (RunV.pick_f rfl rfl) rfl ?_
        refine SatL.pu (RunV.assign rfl) rfl ?_
        refine SatL.nil (SatE.thenC ?_)
        refine SatC.weak (e' := [(0, _), (4, _), (6, _), (8, _), (9, _), (10, _), (28, _)]) (by repeat constructor) ?_
        refine SatC.cond rfl (fun h4 => ?_) (fun h4 => ?_)
        · (try simp only [cx, ne_eq] at h4)
          try (exfalso; (first | omega | exact h4 trivial | contradiction | (first | omega | (simp at h4; done))); done)
          all_goals
          refine SatC.seq ?_
          refine SatC.region ?_
          refine SatL.pu (RunV.assign rfl) rfl ?_
          refine SatL.nil (SatE.thenC ?_)
          refine SatC.ret (SatE.blk_ret (SatE.then_ret ?_))
          refine SatE.ret1 rfl rfl ?_
          exact addc_err (by unfold addCE; (repeat' split) <;> first | rfl | (exfalso; simp_all; done) | (exfalso; simp_all; omega) | (exfalso; omega)) (by decide) hw (hS.sel (by repeat constructor))
        · (try simp only [cx, ne_eq] at h4)
          try (exfalso; (first | omega | exact h4 trivial | contradiction | (first | omega | (simp at h4; done))); done)
          all_goals
          refine SatC.seq ?_
          refine SatC.region ?_
          first | refine SatL.pu (RunV.fieldAddrL rfl rfl rfl) rfl ?_ | refine SatL.pu (RunV.fieldAddr rfl rfl rfl) rfl ?_
          refine SatL.pu (RunV.load1 hS rfl rfl (by repeat constructor) rfl) rfl ?_
          refine SatL.pu (RunV.lenB rfl rfl) rfl ?_
          refine SatL.pu (RunV.gtr rfl rfl) rfl ?_
          refine SatL.pu (RunV.assign rfl) rfl ?_
          refine SatL.nil (SatE.thenC ?_)
          refine SatC.cond rfl (fun h5 => ?_) (fun h5 => ?_)
          · (try simp only [cx, ne_eq] at h5)
            try (exfalso; (first | omega | exact h5 trivial | contradiction | (first | omega | (simp at h5; done))); done)
            all_goals
            refine SatC.seq ?_
            refine SatC.region ?_
            refine SatL.pu (RunV.assign rfl) rfl ?_
            refine SatL.nil (SatE.thenC ?_)
            refine SatC.ret (SatE.blk_ret (SatE.then_ret ?_))
            refine SatE.ret1 rfl rfl ?_
            exact addc_err (by unfold addCE; (repeat' split) <;> first | rfl | (exfalso; simp_all; done) | (exfalso; simp_all; omega) | (exfalso; omega)) (by decide) hw (hS.sel (by repeat constructor))
          · (try simp only [cx, ne_eq] at h5)
            try (exfalso; (first | omega | exact h5 trivial | contradiction | (first | omega | (simp at h5; done))); done)
            all_goals
            refine SatC.seq ?_
            refine SatC.region ?_
            first | refine SatL.pu (RunV.fieldAddrL rfl rfl rfl) rfl ?_ | refine SatL.pu (RunV.fieldAddr rfl rfl rfl) rfl ?_
            refine SatL.pu (RunV.load1 hS rfl rfl (by repeat constructor) rfl) rfl ?_
            refine SatL.pu (RunV.sneq rfl rfl) rfl ?_
            refine SatL.pu (RunV.move rfl) rfl ?_
            refine SatL.guard rfl rfl rfl (fun h6 => ?_) (fun h6 => ?_)
            · (try simp only [cx, ne_eq] at h6)
              try (exfalso; (first | omega | exact h6 trivial | contradiction | (first | omega | (simp at h6; done))); done)
              all_goals
              refine SatL.pu (RunV.move rfl) rfl ?_
              refine SatL.guard_y rfl rfl ?_
              refine SatL.pu (RunV.not rfl) rfl ?_
              refine SatL.pu (RunV.pick_t rfl rfl) rfl ?_
              refine SatL.pu (RunV.assign rfl) rfl ?_
              refine SatL.nil (SatE.thenC ?_)
              refine SatC.weak (e' := [(0, _), (4, _), (6, _), (9, _), (10, _), (49, _)]) (by repeat constructor) ?_
              refine SatC.cond rfl (fun h7 => ?_) (fun h7 => ?_)
              · (try simp only [cx, ne_eq] at h7)
                try (exfalso; (first | omega | exact h7 trivial | contradiction | (first | omega | (simp at h7; done))); done)
                all_goals
                refine SatC.seq ?_
                refine SatC.region ?_
                refine SatL.pu (RunV.assign rfl) rfl ?_
                refine SatL.nil (SatE.thenC ?_)
                refine SatC.ret (SatE.blk_ret (SatE.then_ret ?_))
                refine SatE.ret1 rfl rfl ?_
                exact addc_err (by unfold addCE; (repeat' split) <;> first | rfl | (exfalso; simp_all; done) | (exfalso; simp_all; omega) | (exfalso; omega)) (by decide) hw (hS.sel (by repeat constructor))
              · (try simp only [cx, ne_eq] at h7)
                try (exfalso; (first | omega | exact h7 trivial | contradiction | (first | omega | (simp at h7; done))); done)
                all_goals
                refine SatC.seq ?_
                refine SatC.region ?_
                refine SatL.pu (RunV.move rfl) rfl ?_
                refine SatL.pu (RunV.neq rfl rfl) rfl ?_
                refine SatL.pu (RunV.assign rfl) rfl ?_
                refine SatL.nil (SatE.thenC ?_)
                refine SatC.cond rfl (fun h8 => ?_) (fun h8 => ?_)
                · (try simp only [cx, ne_eq] at h8)
                  try (exfalso; (first | omega | exact h8 trivial | contradiction | (first | omega | (simp at h8; done))); done)
                  all_goals
                  refine SatC.seq ?_
                  refine SatC.region ?_
                  refine SatL.pu (RunV.move rfl) rfl ?_
                  refine SatL.pu (RunV.assign rfl) rfl ?_
                  refine SatL.nil (SatE.thenC ?_)
                  refine SatC.ret (SatE.blk_ret (SatE.then_ret ?_))
                  refine SatE.ret1 rfl rfl ?_
                  exact addc_err (by unfold addCE; (repeat' split) <;> first | rfl | (exfalso; simp_all; done) | (exfalso; simp_all; omega) | (exfalso; omega)) (by decide) hw (hS.sel (by repeat constructor))
                · (try simp only [cx, ne_eq] at h8)
                  try (exfalso; (first | omega | exact h8 trivial | contradiction | (first | omega | (simp at h8; done))); done)
                  all_goals
                  refine SatC.seq ?_
                  refine SatC.drawnT 8 hS (hS) (by kernel_rfl) ?_
                  clear hS
                  intro w10 hh hS hD
                  refine SatD.tk 0 rfl hD (fun _ hw => RunV.move rfl) ?_
                  first | refine SatD.tk 1 rfl hD (fun _ hw => RunV.nil_ptr rfl) ?_ | refine SatD.tk 1 rfl hD (fun _ hw => RunV.nil_func rfl) ?_ | refine SatD.tk 1 rfl hD (fun _ hw => RunV.nil_yield rfl) ?_
                  first | refine SatD.tk 2 rfl hD (fun _ hw => RunV.fieldAddrL rfl rfl rfl) ?_ | refine SatD.tk 2 rfl hD (fun _ hw => RunV.fieldAddr rfl rfl rfl) ?_
                  refine SatD.tk 3 rfl hD (fun _ hw => RunV.load1 hw rfl rfl (by repeat constructor) rfl) ?_
                  first | refine SatD.tk 4 rfl hD (fun _ hw => RunV.fieldAddrL rfl rfl rfl) ?_ | refine SatD.tk 4 rfl hD (fun _ hw => RunV.fieldAddr rfl rfl rfl) ?_
                  refine SatD.tk 5 rfl hD (fun _ hw => RunV.load1 hw rfl rfl (by repeat constructor) rfl) ?_
                  refine SatD.ef 6 rfl (OpW.enter rfl rfl rfl (rfl) (fullC_any S.ch _ _ _ hmC (hS.ownT (A := [(mc, oC)]) (by repeat constructor))) ?_)
                  rintro r11 w11 ⟨rfl, h⟩
                  replace hS := St.callN hS h
                  refine keepS (hS.sel (by repeat constructor)) (fun hD => ?_)
                  refine SatD.tk 7 rfl hD (fun _ hw => RunV.assign rfl) ?_
                  refine SatD.done 0 (by kernel_rfl) (SatE.thenC ?_)
                  clear hD
                  refine SatC.weak (e' := [(0, _), (4, _), (6, _), (9, _), (61, _)]) (by repeat constructor) ?_
                  refine SatC.cond rfl (fun h9 => ?_) (fun h9 => ?_)
                  · (try simp only [cx, ne_eq] at h9)
                    try (exfalso; (first | omega | exact h9 trivial | contradiction | (first | omega | (simp at h9; done))); done)
                    all_goals
                    refine SatC.seq ?_
                    refine SatC.region ?_
                    refine SatL.pu (RunV.assign rfl) rfl ?_
                    refine SatL.nil (SatE.thenC ?_)
                    refine SatC.ret (SatE.blk_ret (SatE.then_ret ?_))
                    refine SatE.ret1 rfl rfl ?_
                    exact addc_err (by unfold addCE; (repeat' split) <;> first | rfl | (exfalso; simp_all; done) | (exfalso; simp_all; omega) | (exfalso; omega)) (by decide) hw (hS.sel (by repeat constructor))
                  · (try simp only [cx, ne_eq] at h9)
                    try (exfalso; (first | omega | exact h9 trivial | contradiction | (first | omega | (simp at h9; done))); done)
                    all_goals
                    refine SatC.skip (SatE.blk_normal (SatE.thenC ?_))
                    refine SatC.seq ?_
                    refine SatC.drawnT 19 hS (hS) (by kernel_rfl) ?_
                    clear hS
                    intro w12 hh hS hD
                    refine SatD.tk 0 rfl hD (fun _ hw => RunV.move rfl) ?_
                    first | refine SatD.tk 1 rfl hD (fun _ hw => RunV.nil_ptr rfl) ?_ | refine SatD.tk 1 rfl hD (fun _ hw => RunV.nil_func rfl) ?_ | refine SatD.tk 1 rfl hD (fun _ hw => RunV.nil_yield rfl) ?_
                    first | refine SatD.tk 2 rfl hD (fun _ hw => RunV.fieldAddrL rfl rfl rfl) ?_ | refine SatD.tk 2 rfl hD (fun _ hw => RunV.fieldAddr rfl rfl rfl) ?_
                    refine SatD.tk 3 rfl hD (fun _ hw => RunV.load1 hw rfl rfl (by repeat constructor) rfl) ?_
                    first | refine SatD.tk 4 rfl hD (fun _ hw => RunV.fieldAddrL rfl rfl rfl) ?_ | refine SatD.tk 4 rfl hD (fun _ hw => RunV.fieldAddr rfl rfl rfl) ?_
                    refine SatD.tk 5 rfl hD (fun _ hw => RunV.load1 hw rfl rfl (by repeat constructor) rfl) ?_
                    refine SatD.tk 6 rfl hD (fun _ hw => RunV.move rfl) ?_
                    first | refine SatD.tk 7 rfl hD (fun _ hw => RunV.nil_ptr rfl) ?_ | refine SatD.tk 7 rfl hD (fun _ hw => RunV.nil_func rfl) ?_ | refine SatD.tk 7 rfl hD (fun _ hw => RunV.nil_yield rfl) ?_
                    first | refine SatD.tk 8 rfl hD (fun _ hw => RunV.fieldAddrL rfl rfl rfl) ?_ | refine SatD.tk 8 rfl hD (fun _ hw => RunV.fieldAddr rfl rfl rfl) ?_
                    refine SatD.tk 9 rfl hD (fun _ hw => RunV.load1 hw rfl rfl (by repeat constructor) rfl) ?_
                    first | refine SatD.tk 10 rfl hD (fun _ hw => RunV.fieldAddrL rfl rfl rfl) ?_ | refine SatD.tk 10 rfl hD (fun _ hw => RunV.fieldAddr rfl rfl rfl) ?_
                    refine SatD.tk 11 rfl hD (fun _ hw => RunV.load1 hw rfl rfl (by repeat constructor) rfl) ?_
                    first | refine SatD.tk 12 rfl hD (fun _ hw => RunV.fieldAddrL rfl rfl rfl) ?_ | refine SatD.tk 12 rfl hD (fun _ hw => RunV.fieldAddr rfl rfl rfl) ?_
                    refine SatD.tk 13 rfl hD (fun _ hw => RunV.load1 hw rfl rfl (by repeat constructor) rfl) ?_
                    first | refine SatD.tk 14 rfl hD (fun _ hw => RunV.fieldAddrL rfl rfl rfl) ?_ | refine SatD.tk 14 rfl hD (fun _ hw => RunV.fieldAddr rfl rfl rfl) ?_
                    refine SatD.tk 15 rfl hD (fun _ hw => RunV.load1 hw rfl rfl (by repeat constructor) rfl) ?_
                    refine SatD.tk 16 rfl hD (fun _ hw => RunV.build rfl (by simp [go_sem]; try rfl)) ?_
                    refine SatD.tk 17 rfl hD (fun _ hw => RunV.move rfl) ?_
                    refine SatD.tk 18 rfl hD (fun _ hw => RunV.build rfl (by simp [go_sem]; try rfl)) ?_
                    refine SatD.effF (by kernel_rfl) rfl rfl (OpW.mapUpdate (keyStr rfl) hS rfl rfl rfl rfl (by assumption) _ (fun o' => by repeat constructor) ?_)
                    clear hS
                    intro o13 w13 ho13 hS
                    refine SatD.done 0 (by kernel_rfl) (SatE.thenC ?_)
                    clear hD
                    refine SatC.seq ?_
                    refine SatC.weak (e' := [(6, _)]) (by repeat constructor) ?_
                    refine SatC.region ?_
                    refine SatL.pu (RunV.assign rfl) rfl ?_
                    refine SatL.nil (SatE.thenC ?_)
                    refine SatC.ret ?_
                    refine SatE.ret1 rfl rfl ?_
                    exact addc_err (by unfold addCE; (repeat' split) <;> first | rfl | (exfalso; simp_all; done) | (exfalso; simp_all; omega) | (exfalso; omega)) (by decide) hw (hS.sel (by repeat constructor))
            · (try simp only [cx, ne_eq] at h6)
              try (exfalso; (first | omega | exact h6 trivial | contradiction | (first | omega | (simp at h6; done))); done)
              all_goals
              refine SatL.guard_n rfl rfl rfl rfl ?_
              refine SatL.pu (RunV.pick_f rfl rfl) rfl ?_
              refine SatL.pu (RunV.assign rfl) rfl ?_
              refine SatL.nil (SatE.thenC ?_)
              refine SatC.weak (e' := [(0, _), (4, _), (6, _), (9, _), (10, _), (49, _)]) (by repeat constructor) ?_
              refine SatC.cond_f rfl ?_
              refine SatC.seq ?_
              refine SatC.region ?_
              refine SatL.pu (RunV.move rfl) rfl ?_
              refine SatL.pu (RunV.neq rfl rfl) rfl ?_
              refine SatL.pu (RunV.assign rfl) rfl ?_
              refine SatL.nil (SatE.thenC ?_)
              refine SatC.cond rfl (fun h7 => ?_) (fun h7 => ?_)
              · (try simp only [cx, ne_eq] at h7)
                try (exfalso; (first | omega | exact h7 trivial | contradiction | (first | omega | (simp at h7; done))); done)
                all_goals
                refine SatC.seq ?_
                refine SatC.region ?_
                refine SatL.pu (RunV.move rfl) rfl ?_
                refine SatL.pu (RunV.assign rfl) rfl ?_
                refine SatL.nil (SatE.thenC ?_)
                refine SatC.ret (SatE.blk_ret (SatE.then_ret ?_))
                refine SatE.ret1 rfl rfl ?_
                exact addc_err (by unfold addCE; (repeat' split) <;> first | rfl | (exfalso; simp_all; done) | (exfalso; simp_all; omega) | (exfalso; omega)) (by decide) hw (hS.sel (by repeat constructor))
              · (try simp only [cx, ne_eq] at h7)
                try (exfalso; (first | omega | exact h7 trivial | contradiction | (first | omega | (simp at h7; done))); done)
                all_goals
                refine SatC.seq ?_
                refine SatC.drawnT 8 hS (hS) (by kernel_rfl) ?_
                clear hS
                intro w10 hh hS hD
                refine SatD.tk 0 rfl hD (fun _ hw => RunV.move rfl) ?_
                first | refine SatD.tk 1 rfl hD (fun _ hw => RunV.nil_ptr rfl) ?_ | refine SatD.tk 1 rfl hD (fun _ hw => RunV.nil_func rfl) ?_ | refine SatD.tk 1 rfl hD (fun _ hw => RunV.nil_yield rfl) ?_
                first | refine SatD.tk 2 rfl hD (fun _ hw => RunV.fieldAddrL rfl rfl rfl) ?_ | refine SatD.tk 2 rfl hD (fun _ hw => RunV.fieldAddr rfl rfl rfl) ?_
                refine SatD.tk 3 rfl hD (fun _ hw => RunV.load1 hw rfl rfl (by repeat constructor) rfl) ?_
                first | refine SatD.tk 4 rfl hD (fun _ hw => RunV.fieldAddrL rfl rfl rfl) ?_ | refine SatD.tk 4 rfl hD (fun _ hw => RunV.fieldAddr rfl rfl rfl) ?_
                refine SatD.tk 5 rfl hD (fun _ hw => RunV.load1 hw rfl rfl (by repeat constructor) rfl) ?_
                refine SatD.ef 6 rfl (OpW.enter rfl rfl rfl (rfl) (fullC_any S.ch _ _ _ hmC (hS.ownT (A := [(mc, oC)]) (by repeat constructor))) ?_)
                rintro r11 w11 ⟨rfl, h⟩
                replace hS := St.callN hS h
                refine keepS (hS.sel (by repeat constructor)) (fun hD => ?_)
                refine SatD.tk 7 rfl hD (fun _ hw => RunV.assign rfl) ?_
                refine SatD.done 0 (by kernel_rfl) (SatE.thenC ?_)
                clear hD
                refine SatC.weak (e' := [(0, _), (4, _), (6, _), (9, _), (61, _)]) (by repeat constructor) ?_
                refine SatC.cond rfl (fun h8 => ?_) (fun h8 => ?_)
                · (try simp only [cx, ne_eq] at h8)
                  try (exfalso; (first | omega | exact h8 trivial | contradiction | (first | omega | (simp at h8; done))); done)
                  all_goals
                  refine SatC.seq ?_
                  refine SatC.region ?_
                  refine SatL.pu (RunV.assign rfl) rfl ?_
                  refine SatL.nil (SatE.thenC ?_)
                  refine SatC.ret (SatE.blk_ret (SatE.then_ret ?_))
                  refine SatE.ret1 rfl rfl ?_
                  exact addc_err (by unfold addCE; (repeat' split) <;> first | rfl | (exfalso; simp_all; done) | (exfalso; simp_all; omega) | (exfalso; omega)) (by decide) hw (hS.sel (by repeat constructor))
                · (try simp only [cx, ne_eq] at h8)
                  try (exfalso; (first | omega | exact h8 trivial | contradiction | (first | omega | (simp at h8; done))); done)
                  all_goals
                  refine SatC.skip (SatE.blk_normal (SatE.thenC ?_))
                  refine SatC.seq ?_
                  refine SatC.drawnT 19 hS (hS) (by kernel_rfl) ?_
                  clear hS
                  intro w12 hh hS hD
                  refine SatD.tk 0 rfl hD (fun _ hw => RunV.move rfl) ?_
                  first | refine SatD.tk 1 rfl hD (fun _ hw => RunV.nil_ptr rfl) ?_ | refine SatD.tk 1 rfl hD (fun _ hw => RunV.nil_func rfl) ?_ | refine SatD.tk 1 rfl hD (fun _ hw => RunV.nil_yield rfl) ?_
                  first | refine SatD.tk 2 rfl hD (fun _ hw => RunV.fieldAddrL rfl rfl rfl) ?_ | refine SatD.tk 2 rfl hD (fun _ hw => RunV.fieldAddr rfl rfl rfl) ?_
                  refine SatD.tk 3 rfl hD (fun _ hw => RunV.load1 hw rfl rfl (by repeat constructor) rfl) ?_
                  first | refine SatD.tk 4 rfl hD (fun _ hw => RunV.fieldAddrL rfl rfl rfl) ?_ | refine SatD.tk 4 rfl hD (fun _ hw => RunV.fieldAddr rfl rfl rfl) ?_
                  refine SatD.tk 5 rfl hD (fun _ hw => RunV.load1 hw rfl rfl (by repeat constructor) rfl) ?_
                  refine SatD.tk 6 rfl hD (fun _ hw => RunV.move rfl) ?_
                  first | refine SatD.tk 7 rfl hD (fun _ hw => RunV.nil_ptr rfl) ?_ | refine SatD.tk 7 rfl hD (fun _ hw => RunV.nil_func rfl) ?_ | refine SatD.tk 7 rfl hD (fun _ hw => RunV.nil_yield rfl) ?_
                  first | refine SatD.tk 8 rfl hD (fun _ hw => RunV.fieldAddrL rfl rfl rfl) ?_ | refine SatD.tk 8 rfl hD (fun _ hw => RunV.fieldAddr rfl rfl rfl) ?_
                  refine SatD.tk 9 rfl hD (fun _ hw => RunV.load1 hw rfl rfl (by repeat constructor) rfl) ?_
                  first | refine SatD.tk 10 rfl hD (fun _ hw => RunV.fieldAddrL rfl rfl rfl) ?_ | refine SatD.tk 10 rfl hD (fun _ hw => RunV.fieldAddr rfl rfl rfl) ?_
                  refine SatD.tk 11 rfl hD (fun _ hw => RunV.load1 hw rfl rfl (by repeat constructor) rfl) ?_
                  first | refine SatD.tk 12 rfl hD (fun _ hw => RunV.fieldAddrL rfl rfl rfl) ?_ | refine SatD.tk 12 rfl hD (fun _ hw => RunV.fieldAddr rfl rfl rfl) ?_
                  refine SatD.tk 13 rfl hD (fun _ hw => RunV.load1 hw rfl rfl (by repeat constructor) rfl) ?_
                  first | refine SatD.tk 14 rfl hD (fun _ hw => RunV.fieldAddrL rfl rfl rfl) ?_ | refine SatD.tk 14 rfl hD (fun _ hw => RunV.fieldAddr rfl rfl rfl) ?_
                  refine SatD.tk 15 rfl hD (fun _ hw => RunV.load1 hw rfl rfl (by repeat constructor) rfl) ?_
                  refine SatD.tk 16 rfl hD (fun _ hw => RunV.build rfl (by simp [go_sem]; try rfl)) ?_
                  refine SatD.tk 17 rfl hD (fun _ hw => RunV.move rfl) ?_
                  refine SatD.tk 18 rfl hD (fun _ hw => RunV.build rfl (by simp [go_sem]; try rfl)) ?_
                  refine SatD.effF (by kernel_rfl) rfl rfl (OpW.mapUpdate (keyStr rfl) hS rfl rfl rfl rfl (by assumption) _ (fun o' => by repeat constructor) ?_)
                  clear hS
                  intro o13 w13 ho13 hS
                  refine SatD.done 0 (by kernel_rfl) (SatE.thenC ?_)
                  clear hD
                  refine SatC.seq ?_
                  refine SatC.weak (e' := [(6, _)]) (by repeat constructor) ?_
                  refine SatC.region ?_
                  refine SatL.pu (RunV.assign rfl) rfl ?_
                  refine SatL.nil (SatE.thenC ?_)
                  refine SatC.ret ?_
                  refine SatE.ret1 rfl rfl ?_
                  exact addc_err (by unfold addCE; (repeat' split) <;> first | rfl | (exfalso; simp_all; done) | (exfalso; simp_all; omega) | (exfalso; omega)) (by decide) hw (hS.sel (by repeat constructor))
      · (try simp only [cx, ne_eq] at h3)
        try (exfalso; (first | omega | exact h3 trivial | contradiction | (first | omega | (simp at h3; done))); done)
        all_goals
        refine SatL.guard_n rfl rfl rfl rfl ?_
        refine SatL.guard_n rfl rfl rfl rfl ?_
        refine SatL.guard_n rfl rfl rfl rfl ?_
        refine SatL.guard_y rfl rfl ?_
        refine SatL.pu (RunV.pick_f rfl rfl) rfl ?_
        refine SatL.pu (RunV.pick_f rfl rfl) rfl ?_
        refine SatL.pu (RunV.assign rfl) rfl ?_
        refine SatL.nil (SatE.thenC ?_)
        refine SatC.weak (e' := [(0, _), (4, _), (6, _), (8, _), (9, _), (10, _), (28, _)]) (by repeat constructor) ?_
        refine SatC.cond_f rfl ?_
        refine SatC.seq ?_
        refine SatC.region ?_
        first | refine SatL.pu (RunV.fieldAddrL rfl rfl rfl) rfl ?_ | refine SatL.pu (RunV.fieldAddr rfl rfl rfl) rfl ?_
        refine SatL.pu (RunV.load1 hS rfl rfl (by repeat constructor) rfl) rfl ?_
        refine SatL.pu (RunV.lenB rfl rfl) rfl ?_
        refine SatL.pu (RunV.gtr rfl rfl) rfl ?_
        refine SatL.pu (RunV.assign rfl) rfl ?_
        refine SatL.nil (SatE.thenC ?_)
        refine SatC.cond rfl (fun h4 => ?_) (fun h4 => ?_)
        · (try simp only [cx, ne_eq] at h4)
          try (exfalso; (first | omega | exact h4 trivial | contradiction | (first | omega | (simp at h4; done))); done)
          all_goals
          refine SatC.seq ?_
          refine SatC.region ?_
          refine SatL.pu (RunV.assign rfl) rfl ?_
          refine SatL.nil (SatE.thenC ?_)
          refine SatC.ret (SatE.blk_ret (SatE.then_ret ?_))
          refine SatE.ret1 rfl rfl ?_
          exact addc_err (by unfold addCE; (repeat' split) <;> first | rfl | (exfalso; simp_all; done) | (exfalso; simp_all; omega) | (exfalso; omega)) (by decide) hw (hS.sel (by repeat constructor))
        · (try simp only [cx, ne_eq] at h4)
          try (exfalso; (first | omega | exact h4 trivial | contradiction | (first | omega | (simp at h4; done))); done)
          all_goals
          refine SatC.seq ?_
          refine SatC.region ?_
          first | refine SatL.pu (RunV.fieldAddrL rfl rfl rfl) rfl ?_ | refine SatL.pu (RunV.fieldAddr rfl rfl rfl) rfl ?_
          refine SatL.pu (RunV.load1 hS rfl rfl (by repeat constructor) rfl) rfl ?_
          refine SatL.pu (RunV.sneq rfl rfl) rfl ?_
          refine SatL.pu (RunV.move rfl) rfl ?_
          refine SatL.guard rfl rfl rfl (fun h5 => ?_) (fun h5 => ?_)
          · (try simp only [cx, ne_eq] at h5)
            try (exfalso; (first | omega | exact h5 trivial | contradiction | (first | omega | (simp at h5; done))); done)
            all_goals
            refine SatL.pu (RunV.move rfl) rfl ?_
            refine SatL.guard_y rfl rfl ?_
            refine SatL.pu (RunV.not rfl) rfl ?_
            refine SatL.pu (RunV.pick_t rfl rfl) rfl ?_
            refine SatL.pu (RunV.assign rfl) rfl ?_
            refine SatL.nil (SatE.thenC ?_)
            refine SatC.weak (e' := [(0, _), (4, _), (6, _), (9, _), (10, _), (49, _)]) (by repeat constructor) ?_
            refine SatC.cond rfl (fun h6 => ?_) (fun h6 => ?_)
            · (try simp only [cx, ne_eq] at h6)
              try (exfalso; (first | omega | exact h6 trivial | contradiction | (first | omega | (simp at h6; done))); done)
              all_goals
              refine SatC.seq ?_
              refine SatC.region ?_
              refine SatL.pu (RunV.assign rfl) rfl ?_
              refine SatL.nil (SatE.thenC ?_)
              refine SatC.ret (SatE.blk_ret (SatE.then_ret ?_))
              refine SatE.ret1 rfl rfl ?_
              exact addc_err (by unfold addCE; (repeat' split) <;> first | rfl | (exfalso; simp_all; done) | (exfalso; simp_all; omega) | (exfalso; omega)) (by decide) hw (hS.sel (by repeat constructor))
            · (try simp only [cx, ne_eq] at h6)
              try (exfalso; (first | omega | exact h6 trivial | contradiction | (first | omega | (simp at h6; done))); done)
              all_goals
              refine SatC.seq ?_
              refine SatC.region ?_
              refine SatL.pu (RunV.move rfl) rfl ?_
              refine SatL.pu (RunV.neq rfl rfl) rfl ?_
              refine SatL.pu (RunV.assign rfl) rfl ?_
              refine SatL.nil (SatE.thenC ?_)
              refine SatC.cond rfl (fun h7 => ?_) (fun h7 => ?_)
              · (try simp only [cx, ne_eq] at h7)
                try (exfalso; (first | omega | exact h7 trivial | contradiction | (first | omega | (simp at h7; done))); done)
                all_goals
                refine SatC.seq ?_
                refine SatC.region ?_
                refine SatL.pu (RunV.move rfl) rfl ?_
                refine SatL.pu (RunV.assign rfl) rfl ?_
                refine SatL.nil (SatE.thenC ?_)
                refine SatC.ret (SatE.blk_ret (SatE.then_ret ?_))
                refine SatE.ret1 rfl rfl ?_
                exact addc_err (by unfold addCE; (repeat' split) <;> first | rfl | (exfalso; simp_all; done) | (exfalso; simp_all; omega) | (exfalso; omega)) (by decide) hw (hS.sel (by repeat constructor))
              · (try simp only [cx, ne_eq] at h7)
                try (exfalso; (first | omega | exact h7 trivial | contradiction | (first | omega | (simp at h7; done))); done)
                all_goals
                refine SatC.seq ?_
                refine SatC.drawnT 8 hS (hS) (by kernel_rfl) ?_
                clear hS
                intro w9 hh hS hD
                refine SatD.tk 0 rfl hD (fun _ hw => RunV.move rfl) ?_
                first | refine SatD.tk 1 rfl hD (fun _ hw => RunV.nil_ptr rfl) ?_ | refine SatD.tk 1 rfl hD (fun _ hw => RunV.nil_func rfl) ?_ | refine SatD.tk 1 rfl hD (fun _ hw => RunV.nil_yield rfl) ?_
                first | refine SatD.tk 2 rfl hD (fun _ hw => RunV.fieldAddrL rfl rfl rfl) ?_ | refine SatD.tk 2 rfl hD (fun _ hw => RunV.fieldAddr rfl rfl rfl) ?_
                refine SatD.tk 3 rfl hD (fun _ hw => RunV.load1 hw rfl rfl (by repeat constructor) rfl) ?_
                first | refine SatD.tk 4 rfl hD (fun _ hw => RunV.fieldAddrL rfl rfl rfl) ?_ | refine SatD.tk 4 rfl hD (fun _ hw => RunV.fieldAddr rfl rfl rfl) ?_
                refine SatD.tk 5 rfl hD (fun _ hw => RunV.load1 hw rfl rfl (by repeat constructor) rfl) ?_
                refine SatD.ef 6 rfl (OpW.enter rfl rfl rfl (rfl) (fullC_any S.ch _ _ _ hmC (hS.ownT (A := [(mc, oC)]) (by repeat constructor))) ?_)
                rintro r10 w10 ⟨rfl, h⟩
                replace hS := St.callN hS h
                refine keepS (hS.sel (by repeat constructor)) (fun hD => ?_)
                refine SatD.tk 7 rfl hD (fun _ hw => RunV.assign rfl) ?_
                refine SatD.done 0 (by kernel_rfl) (SatE.thenC ?_)
                clear hD
                refine SatC.weak (e' := [(0, _), (4, _), (6, _), (9, _), (61, _)]) (by repeat constructor) ?_
                refine SatC.cond rfl (fun h8 => ?_) (fun h8 => ?_)
                · (try simp only [cx, ne_eq] at h8)
                  try (exfalso; (first | omega | exact h8 trivial | contradiction | (first | omega | (simp at h8; done))); done)
                  all_goals
                  refine SatC.seq ?_
                  refine SatC.region ?_
                  refine SatL.pu (RunV.assign rfl) rfl ?_
                  refine SatL.nil (SatE.thenC ?_)
                  refine SatC.ret (SatE.blk_ret (SatE.then_ret ?_))
                  refine SatE.ret1 rfl rfl ?_
                  exact addc_err (by unfold addCE; (repeat' split) <;> first | rfl | (exfalso; simp_all; done) | (exfalso; simp_all; omega) | (exfalso; omega)) (by decide) hw (hS.sel (by repeat constructor))
                · (try simp only [cx, ne_eq] at h8)
                  try (exfalso; (first | omega | exact h8 trivial | contradiction | (first | omega | (simp at h8; done))); done)
                  all_goals
                  refine SatC.skip (SatE.blk_normal (SatE.thenC ?_))
                  refine SatC.seq ?_
                  refine SatC.drawnT 19 hS (hS) (by kernel_rfl) ?_
                  clear hS
                  intro w11 hh hS hD
                  refine SatD.tk 0 rfl hD (fun _ hw => RunV.move rfl) ?_
                  first | refine SatD.tk 1 rfl hD (fun _ hw => RunV.nil_ptr rfl) ?_ | refine SatD.tk 1 rfl hD (fun _ hw => RunV.nil_func rfl) ?_ | refine SatD.tk 1 rfl hD (fun _ hw => RunV.nil_yield rfl) ?_
                  first | refine SatD.tk 2 rfl hD (fun _ hw => RunV.fieldAddrL rfl rfl rfl) ?_ | refine SatD.tk 2 rfl hD (fun _ hw => RunV.fieldAddr rfl rfl rfl) ?_
                  refine SatD.tk 3 rfl hD (fun _ hw => RunV.load1 hw rfl rfl (by repeat constructor) rfl) ?_
                  first | refine SatD.tk 4 rfl hD (fun _ hw => RunV.fieldAddrL rfl rfl rfl) ?_ | refine SatD.tk 4 rfl hD (fun _ hw => RunV.fieldAddr rfl rfl rfl) ?_
                  refine SatD.tk 5 rfl hD (fun _ hw => RunV.load1 hw rfl rfl (by repeat constructor) rfl) ?_
                  refine SatD.tk 6 rfl hD (fun _ hw => RunV.move rfl) ?_
                  first | refine SatD.tk 7 rfl hD (fun _ hw => RunV.nil_ptr rfl) ?_ | refine SatD.tk 7 rfl hD (fun _ hw => RunV.nil_func rfl) ?_ | refine SatD.tk 7 rfl hD (fun _ hw => RunV.nil_yield rfl) ?_
                  first | refine SatD.tk 8 rfl hD (fun _ hw => RunV.fieldAddrL rfl rfl rfl) ?_ | refine SatD.tk 8 rfl hD (fun _ hw => RunV.fieldAddr rfl rfl rfl) ?_
                  refine SatD.tk 9 rfl hD (fun _ hw => RunV.load1 hw rfl rfl (by repeat constructor) rfl) ?_
                  first | refine SatD.tk 10 rfl hD (fun _ hw => RunV.fieldAddrL rfl rfl rfl) ?_ | refine SatD.tk 10 rfl hD (fun _ hw => RunV.fieldAddr rfl rfl rfl) ?_
                  refine SatD.tk 11 rfl hD (fun _ hw => RunV.load1 hw rfl rfl (by repeat constructor) rfl) ?_
                  first | refine SatD.tk 12 rfl hD (fun _ hw => RunV.fieldAddrL rfl rfl rfl) ?_ | refine SatD.tk 12 rfl hD (fun _ hw => RunV.fieldAddr rfl rfl rfl) ?_
                  refine SatD.tk 13 rfl hD (fun _ hw => RunV.load1 hw rfl rfl (by repeat constructor) rfl) ?_
                  first | refine SatD.tk 14 rfl hD (fun _ hw => RunV.fieldAddrL rfl rfl rfl) ?_ | refine SatD.tk 14 rfl hD (fun _ hw => RunV.fieldAddr rfl rfl rfl) ?_
                  refine SatD.tk 15 rfl hD (fun _ hw => RunV.load1 hw rfl rfl (by repeat constructor) rfl) ?_
                  refine SatD.tk 16 rfl hD (fun _ hw => RunV.build rfl (by simp [go_sem]; try rfl)) ?_
                  refine SatD.tk 17 rfl hD (fun _ hw => RunV.move rfl) ?_
                  refine SatD.tk 18 rfl hD (fun _ hw => RunV.build rfl (by simp [go_sem]; try rfl)) ?_
                  refine SatD.effF (by kernel_rfl) rfl rfl (OpW.mapUpdate (keyStr rfl) hS rfl rfl rfl rfl (by assumption) _ (fun o' => by repeat constructor) ?_)
                  clear hS
                  intro o12 w12 ho12 hS
                  refine SatD.done 0 (by kernel_rfl) (SatE.thenC ?_)
                  clear hD
                  refine SatC.seq ?_
                  refine SatC.weak (e' := [(6, _)]) (by repeat constructor) ?_
                  refine SatC.region ?_
                  refine SatL.pu (RunV.assign rfl) rfl ?_
                  refine SatL.nil (SatE.thenC ?_)
                  refine SatC.ret ?_
                  refine SatE.ret1 rfl rfl ?_
                  exact addc_err (by unfold addCE; (repeat' split) <;> first | rfl | (exfalso; simp_all; done) | (exfalso; simp_all; omega) | (exfalso; omega)) (by decide) hw (hS.sel (by repeat constructor))
          · (try simp only [cx, ne_eq] at h5)
            try (exfalso; (first | omega | exact h5 trivial | contradiction | (first | omega | (simp at h5; done))); done)
            all_goals
            refine SatL.guard_n rfl rfl rfl rfl ?_
            refine SatL.pu (RunV.pick_f rfl rfl) rfl ?_
            refine SatL.pu (RunV.assign rfl) rfl ?_
            refine SatL.nil (SatE.thenC ?_)
            refine SatC.weak (e' := [(0, _), (4, _), (6, _), (9, _), (10, _), (49, _)]) (by repeat constructor) ?_
            refine SatC.cond_f rfl ?_
            refine SatC.seq ?_
            refine SatC.region ?_
            refine SatL.pu (RunV.move rfl) rfl ?_
            refine SatL.pu (RunV.neq rfl rfl) rfl ?_
            refine SatL.pu (RunV.assign rfl) rfl ?_
            refine SatL.nil (SatE.thenC ?_)
            refine SatC.cond rfl (fun h6 => ?_) (fun h6 => ?_)
            · (try simp only [cx, ne_eq] at h6)
              try (exfalso; (first | omega | exact h6 trivial | contradiction | (first | omega | (simp at h6; done))); done)
              all_goals
              refine SatC.seq ?_
              refine SatC.region ?_
              refine SatL.pu (RunV.move rfl) rfl ?_
              refine SatL.pu (RunV.assign rfl) rfl ?_
              refine SatL.nil (SatE.thenC ?_)
              refine SatC.ret (SatE.blk_ret (SatE.then_ret ?_))
              refine SatE.ret1 rfl rfl ?_
              exact addc_err (by unfold addCE; (repeat' split) <;> first | rfl | (exfalso; simp_all; done) | (exfalso; simp_all; omega) | (exfalso; omega)) (by decide) hw (hS.sel (by repeat constructor))
            · (try simp only [cx, ne_eq] at h6)
              try (exfalso; (first | omega | exact h6 trivial | contradiction | (first | omega | (simp at h6; done))); done)
              all_goals
              refine SatC.seq ?_
              refine SatC.drawnT 8 hS (hS) (by kernel_rfl) ?_
              clear hS
              intro w9 hh hS hD
              refine SatD.tk 0 rfl hD (fun _ hw => RunV.move rfl) ?_
              first | refine SatD.tk 1 rfl hD (fun _ hw => RunV.nil_ptr rfl) ?_ | refine SatD.tk 1 rfl hD (fun _ hw => RunV.nil_func rfl) ?_ | refine SatD.tk 1 rfl hD (fun _ hw => RunV.nil_yield rfl) ?_
              first | refine SatD.tk 2 rfl hD (fun _ hw => RunV.fieldAddrL rfl rfl rfl) ?_ | refine SatD.tk 2 rfl hD (fun _ hw => RunV.fieldAddr rfl rfl rfl) ?_
              refine SatD.tk 3 rfl hD (fun _ hw => RunV.load1 hw rfl rfl (by repeat constructor) rfl) ?_
              first | refine SatD.tk 4 rfl hD (fun _ hw => RunV.fieldAddrL rfl rfl rfl) ?_ | refine SatD.tk 4 rfl hD (fun _ hw => RunV.fieldAddr rfl rfl rfl) ?_
              refine SatD.tk 5 rfl hD (fun _ hw => RunV.load1 hw rfl rfl (by repeat constructor) rfl) ?_
              refine SatD.ef 6 rfl (OpW.enter rfl rfl rfl (rfl) (fullC_any S.ch _ _ _ hmC (hS.ownT (A := [(mc, oC)]) (by repeat constructor))) ?_)
              rintro r10 w10 ⟨rfl, h⟩
              replace hS := St.callN hS h
              refine keepS (hS.sel (by repeat constructor)) (fun hD => ?_)
              refine SatD.tk 7 rfl hD (fun _ hw => RunV.assign rfl) ?_
              refine SatD.done 0 (by kernel_rfl) (SatE.thenC ?_)
              clear hD
              refine SatC.weak (e' := [(0, _), (4, _), (6, _), (9, _), (61, _)]) (by repeat constructor) ?_
              refine SatC.cond rfl (fun h7 => ?_) (fun h7 => ?_)
              · (try simp only [cx, ne_eq] at h7)
                try (exfalso; (first | omega | exact h7 trivial | contradiction | (first | omega | (simp at h7; done))); done)
                all_goals
                refine SatC.seq ?_
                refine SatC.region ?_
                refine SatL.pu (RunV.assign rfl) rfl ?_
                refine SatL.nil (SatE.thenC ?_)
                refine SatC.ret (SatE.blk_ret (SatE.then_ret ?_))
                refine SatE.ret1 rfl rfl ?_
                exact addc_err (by unfold addCE; (repeat' split) <;> first | rfl | (exfalso; simp_all; done) | (exfalso; simp_all; omega) | (exfalso; omega)) (by decide) hw (hS.sel (by repeat constructor))
              · (try simp only [cx, ne_eq] at h7)
                try (exfalso; (first | omega | exact h7 trivial | contradiction | (first | omega | (simp at h7; done))); done)
                all_goals
                refine SatC.skip (SatE.blk_normal (SatE.thenC ?_))
                refine SatC.seq ?_
                refine SatC.drawnT 19 hS (hS) (by kernel_rfl) ?_
                clear hS
                intro w11 hh hS hD
                refine SatD.tk 0 rfl hD (fun _ hw => RunV.move rfl) ?_
                first | refine SatD.tk 1 rfl hD (fun _ hw => RunV.nil_ptr rfl) ?_ | refine SatD.tk 1 rfl hD (fun _ hw => RunV.nil_func rfl) ?_ | refine SatD.tk 1 rfl hD (fun _ hw => RunV.nil_yield rfl) ?_
                first | refine SatD.tk 2 rfl hD (fun _ hw => RunV.fieldAddrL rfl rfl rfl) ?_ | refine SatD.tk 2 rfl hD (fun _ hw => RunV.fieldAddr rfl rfl rfl) ?_
                refine SatD.tk 3 rfl hD (fun _ hw => RunV.load1 hw rfl rfl (by repeat constructor) rfl) ?_
                first | refine SatD.tk 4 rfl hD (fun _ hw => RunV.fieldAddrL rfl rfl rfl) ?_ | refine SatD.tk 4 rfl hD (fun _ hw => RunV.fieldAddr rfl rfl rfl) ?_
                refine SatD.tk 5 rfl hD (fun _ hw => RunV.load1 hw rfl rfl (by repeat constructor) rfl) ?_
                refine SatD.tk 6 rfl hD (fun _ hw => RunV.move rfl) ?_
                first | refine SatD.tk 7 rfl hD (fun _ hw => RunV.nil_ptr rfl) ?_ | refine SatD.tk 7 rfl hD (fun _ hw => RunV.nil_func rfl) ?_ | refine SatD.tk 7 rfl hD (fun _ hw => RunV.nil_yield rfl) ?_
                first | refine SatD.tk 8 rfl hD (fun _ hw => RunV.fieldAddrL rfl rfl rfl) ?_ | refine SatD.tk 8 rfl hD (fun _ hw => RunV.fieldAddr rfl rfl rfl) ?_
                refine SatD.tk 9 rfl hD (fun _ hw => RunV.load1 hw rfl rfl (by repeat constructor) rfl) ?_
                first | refine SatD.tk 10 rfl hD (fun _ hw => RunV.fieldAddrL rfl rfl rfl) ?_ | refine SatD.tk 10 rfl hD (fun _ hw => RunV.fieldAddr rfl rfl rfl) ?_
                refine SatD.tk 11 rfl hD (fun _ hw => RunV.load1 hw rfl rfl (by repeat constructor) rfl) ?_
                first | refine SatD.tk 12 rfl hD (fun _ hw => RunV.fieldAddrL rfl rfl rfl) ?_ | refine SatD.tk 12 rfl hD (fun _ hw => RunV.fieldAddr rfl rfl rfl) ?_
                refine SatD.tk 13 rfl hD (fun _ hw => RunV.load1 hw rfl rfl (by repeat constructor) rfl) ?_
                first | refine SatD.tk 14 rfl hD (fun _ hw => RunV.fieldAddrL rfl rfl rfl) ?_ | refine SatD.tk 14 rfl hD (fun _ hw => RunV.fieldAddr rfl rfl rfl) ?_
                refine SatD.tk 15 rfl hD (fun _ hw => RunV.load1 hw rfl rfl (by repeat constructor) rfl) ?_
                refine SatD.tk 16 rfl hD (fun _ hw => RunV.build rfl (by simp [go_sem]; try rfl)) ?_
                refine SatD.tk 17 rfl hD (fun _ hw => RunV.move rfl) ?_
                refine SatD.tk 18 rfl hD (fun _ hw => RunV.build rfl (by simp [go_sem]; try rfl)) ?_
                refine SatD.effF (by kernel_rfl) rfl rfl (OpW.mapUpdate (keyStr rfl) hS rfl rfl rfl rfl (by assumption) _ (fun o' => by repeat constructor) ?_)
                clear hS
                intro o12 w12 ho12 hS
                refine SatD.done 0 (by kernel_rfl) (SatE.thenC ?_)
                clear hD
                refine SatC.seq ?_
                refine SatC.weak (e' := [(6, _)]) (by repeat constructor) ?_
                refine SatC.region ?_
                refine SatL.pu (RunV.assign rfl) rfl ?_
                refine SatL.nil (SatE.thenC ?_)
                refine SatC.ret ?_
                refine SatE.ret1 rfl rfl ?_
                exact addc_err (by unfold addCE; (repeat' split) <;> first | rfl | (exfalso; simp_all; done) | (exfalso; simp_all; omega) | (exfalso; omega)) (by decide) hw (hS.sel (by repeat constructor))
    · (try simp only [cx, ne_eq] at h2)
      try (exfalso; (first | omega | exact h2 trivial | contradiction | (first | omega | (simp at h2; done))); done)
      all_goals
      refine SatL.guard_n rfl rfl rfl rfl ?_
      refine SatL.guard_n rfl rfl rfl rfl ?_
      refine SatL.guard_n rfl rfl rfl rfl ?_
      refine SatL.guard_u rfl rfl rfl ?_
      refine SatL.guard_u rfl rfl rfl ?_
      refine SatL.guard_u rfl rfl rfl ?_
      refine SatL.guard_u rfl rfl rfl ?_
      refine SatL.guard_n rfl rfl rfl rfl ?_
      refine SatL.pu (RunV.pick_t rfl rfl) rfl ?_
      refine SatL.pu (RunV.assign rfl) rfl ?_
      refine SatL.nil (SatE.thenC ?_)
      refine SatC.weak (e' := [(0, _), (4, _), (6, _), (8, _), (9, _), (10, _), (28, _)]) (by repeat constructor) ?_
      refine SatC.cond_t rfl ?_
      refine SatC.seq ?_
      refine SatC.region ?_
      refine SatL.pu (RunV.assign rfl) rfl ?_
      refine SatL.nil (SatE.thenC ?_)
      refine SatC.ret (SatE.blk_ret (SatE.then_ret ?_))
      refine SatE.ret1 rfl rfl ?_
      exact addc_err (by unfold addCE; (repeat' split) <;> first | rfl | (exfalso; simp_all; done) | (exfalso; simp_all; omega) | (exfalso; omega)) (by decide) hw (hS.sel (by repeat constructor))
theorem told_d (k : List UInt8) (s : Int) (hbd : ∀ c ∈ S.ch, Bd 1000000 c.h) (h : Agt b S L) (hown : Own w L) :
    Ret Try.prog 26 #[.pointer (some ⟨b, 0, none⟩), str k, .int .i64 s] w fun u w' => u = .int .i64 (match gt Ch.id S.ch k with | none => 4 | some x => toldA x.h s) ∧ ∃ L', Agt b (aHup S k (fun c => toldC c s)) L' ∧ St w (L.map Prod.fst) L' w' := by
  have hS := St.init hown
  refine Ret.enter Try.func26 Try.ntmps26 rfl rfl ?_
  simp only [argEnv, Nat.reduceAdd]
  refine SatC.seq ?_
  refine SatC.region ?_
  refine SatL.pu (RunV.assign rfl) rfl ?_
  refine SatL.nil (SatE.thenC ?_)
  refine SatC.seq ?_
  refine SatC.region ?_
  refine SatL.pu (RunV.move rfl) rfl ?_
  refine SatL.pu (RunV.move rfl) rfl ?_
  refine SatL.pu (RunV.move rfl) rfl ?_
  refine SatL.op rfl (OpW.enter rfl rfl rfl (rfl) (ofT_d k s hbd h (hS.ownT (A := L) (.whole .all))) ?_)
  rintro r1 w1 ⟨rfl, L2, hL2, h⟩
  replace hS := hS.callT (A := L) (.whole .all) h
  refine SatL.pu (RunV.assign rfl) rfl ?_
  refine SatL.nil (SatE.thenC ?_)
  refine SatC.ret ?_
  refine SatE.ret1 rfl rfl ?_
  exact ⟨rfl, L2, hL2, hS.sel (by repeat constructor)⟩
theorem maintain_d (k : List UInt8) (on : Bool) (hbd : ∀ c ∈ S.ch, Bd 1000000 c.h) (h : Agt b S L) (hown : Own w L) :
    Ret Try.prog 27 #[.pointer (some ⟨b, 0, none⟩), str k, .bool on] w fun u w' => u = .int .i64 (match gt Ch.id S.ch k with | none => 4 | some _ => 0) ∧ ∃ L', Agt b (aHup S k (fun c => { c with maint := on })) L' ∧ St w (L.map Prod.fst) L' w' := by
  have hS := St.init hown
  refine Ret.enter Try.func27 Try.ntmps27 rfl rfl ?_
  simp only [argEnv, Nat.reduceAdd]
  refine SatC.seq ?_
  refine SatC.region ?_
  refine SatL.pu (RunV.assign rfl) rfl ?_
  refine SatL.nil (SatE.thenC ?_)
  refine SatC.seq ?_
  refine SatC.region ?_
  refine SatL.pu (RunV.move rfl) rfl ?_
  refine SatL.pu (RunV.move rfl) rfl ?_
  refine SatL.pu (RunV.move rfl) rfl ?_
  refine SatL.op rfl (OpW.enter rfl rfl rfl (rfl) (ofM_d k on hbd h (hS.ownT (A := L) (.whole .all))) ?_)
  rintro r1 w1 ⟨rfl, L2, hL2, h⟩
  replace hS := hS.callT (A := L) (.whole .all) h
  refine SatL.pu (RunV.assign rfl) rfl ?_
  refine SatL.nil (SatE.thenC ?_)
  refine SatC.ret ?_
  refine SatE.ret1 rfl rfl ?_
  exact ⟨rfl, L2, hL2, hS.sel (by repeat constructor)⟩
end
end Go.Proofs.Ytbnkcagcfbpiiaa
set_option linter.unusedSimpArgs false
set_option linter.unusedVariables false
set_option maxRecDepth 100000
set_option maxHeartbeats 4000000
namespace Go.Proofs.Ytbnkcagcfbpiiaa
open Go.RowKit
/-- The greatest status of a service's checks and the node's, of which a question says yes. -/
def wrst (yes : Ch → Bool) (sv : List UInt8) : List Ch → Int
  | [] => 0
  | c :: l => if (c.svc = [] ∨ c.svc = sv) ∧ yes c = true then max (stat c.h) (wrst yes sv l) else wrst yes sv l
theorem wrst_nn (yes : Ch → Bool) (sv : List UInt8) (l : List Ch) : 0 ≤ wrst yes sv l := by
  induction l with
  | nil => exact Int.le_refl _
  | cons c l ih => unfold wrst; split <;> omega
theorem wrst_perm {yes : Ch → Bool} {sv : List UInt8} {l l' : List Ch} (h : l.Perm l') : wrst yes sv l = wrst yes sv l' := by
  induction h with
  | nil => rfl
  | cons x _ ih => unfold wrst; rw [ih]
  | swap x y l => simp only [wrst]; split <;> split <;> omega
  | trans _ _ h1 h2 => exact h1.trans h2
theorem wrst_y {yes : Ch → Bool} {sv : List UInt8} {c : Ch} {l : List Ch} (h : (c.svc = [] ∨ c.svc = sv) ∧ yes c = true) : wrst yes sv (c :: l) = max (stat c.h) (wrst yes sv l) := if_pos h
theorem wrst_n {yes : Ch → Bool} {sv : List UInt8} {c : Ch} {l : List Ch} (h : ¬ ((c.svc = [] ∨ c.svc = sv) ∧ yes c = true)) : wrst yes sv (c :: l) = wrst yes sv l := if_neg h
theorem own1 {w0 w : World} {X : List Nat} {L : List (Nat × Obj)} {p : Nat × Obj} (hS : St w0 X L w) (h : p ∈ L) : Own w [p] := ⟨fun q hq => by rw [List.mem_singleton.1 hq]; exact hS.own p h, by simp⟩
theorem kv_get {n : Int} {lf : List Ch} {i : Nat} {p : List UInt8 × Value} (h : (ckv n lf)[i]? = some p) : ∃ c, lf[i]? = some c ∧ p = (c.id, .agg (chv n c).toArray) := by
  simp only [ckv, kvs, List.getElem?_map, Option.map_eq_some_iff] at h
  obtain ⟨c, h1, rfl⟩ := h
  exact ⟨c, h1, rfl⟩
theorem kv_erase {n : Int} {lf : List Ch} {i : Nat} : (ckv n lf).eraseIdx i = ckv n (lf.eraseIdx i) := by
  simp only [ckv, kvs, List.eraseIdx_eq_take_drop_succ, List.map_append, List.map_take, List.map_drop]
def isAl (c : Ch) : Bool := decide (c.h.p.kind = 3)
theorem alias_any (n : Int) (c : Ch) (w : World) (hk : ¬ c.h.p.kind = 0) (hown : Own w [hblk c]) : Ret Try.prog 32 #[.agg (chv n c).toArray] w fun v w' => v = .bool (isAl c) ∧ St w [] [] w' := by
  unfold hblk at hown
  have hS := St.init hown
  simp only [List.map_cons, List.map_nil] at hS
  have hro : ∀ {L w'}, St w [c.hb] (L ++ [(c.hb, C 108 (hc (fv c.h) c.h))]) w' → St w [] L w' := fun h => St.roL hown (by simpa only [List.map_cons, List.map_nil] using h.perm List.perm_append_comm) .here
  refine Ret.enter Try.func32 Try.ntmps32 rfl rfl ?_
  simp only [argEnv, Nat.reduceAdd]
  refine SatC.seq ?_
  refine SatC.region ?_
  refine SatL.op rfl (OpW.box hS rfl rfl (by repeat constructor) ?_)
  clear hS
  intro b1 w1 _ hS
  refine SatL.pu (RunV.assign rfl) rfl ?_
  refine SatL.nil (SatE.thenC ?_)
  refine SatC.seq ?_
  refine SatC.region ?_
  first | refine SatL.pu (RunV.fieldAddrL rfl rfl rfl) rfl ?_ | refine SatL.pu (RunV.fieldAddr rfl rfl rfl) rfl ?_
  refine SatL.pu (RunV.load1 hS rfl rfl (by repeat constructor) rfl) rfl ?_
  refine SatL.op rfl (OpW.enter rfl rfl rfl (rfl) (plan_any (hS.ownT (A := [(c.hb, C 108 (hc (fv c.h) c.h))]) (by repeat constructor)) hk) ?_)
  rintro r2 w2 ⟨rfl, h⟩
  replace hS := St.callN hS h
  refine SatL.pu (RunV.field1 rfl rfl rfl rfl) rfl ?_
  refine SatL.pu (RunV.eql rfl rfl) rfl ?_
  refine SatL.pu (RunV.assign rfl) rfl ?_
  refine SatL.nil (SatE.thenC ?_)
  refine SatC.ret ?_
  refine SatE.ret1 rfl rfl ?_
  exact ⟨rfl, hro (L := []) (hS.sel (by repeat constructor))⟩
theorem yesH_any (n : Int) (c : Ch) (w : World) : Ret Try.prog 57 #[.agg (chv n c).toArray] w fun v w' => v = .bool true ∧ St w [] [] w' := by
  have hS := St.init0 w
  refine Ret.enter Try.func57 Try.ntmps57 rfl rfl ?_
  simp only [argEnv, Nat.reduceAdd]
  refine SatC.seq ?_
  refine SatC.region ?_
  refine SatL.op rfl (OpW.box hS rfl rfl (by repeat constructor) ?_)
  clear hS
  intro b1 w1 _ hS
  refine SatL.pu (RunV.assign rfl) rfl ?_
  refine SatL.nil (SatE.thenC ?_)
  refine SatC.seq ?_
  refine SatC.region ?_
  refine SatL.pu (RunV.assign rfl) rfl ?_
  refine SatL.nil (SatE.thenC ?_)
  refine SatC.ret ?_
  refine SatE.ret1 rfl rfl ?_
  exact ⟨rfl, hS.sub (List.nil_sublist _)⟩
theorem yesT_any (n : Int) (c : Ch) (w : World) (hk : ¬ c.h.p.kind = 0) (hown : Own w [hblk c]) : Ret Try.prog 36 #[.agg (chv n c).toArray] w fun v w' => v = .bool (!isAl c) ∧ St w [] [] w' := by
  have hS := St.init hown
  have hro : ∀ {L w'}, St w [c.hb] (L ++ [hblk c]) w' → St w [] L w' := fun h => St.roL hown (h.perm List.perm_append_comm) .here
  simp only [List.map_cons, List.map_nil] at hS
  refine Ret.enter Try.func36 Try.ntmps36 rfl rfl ?_
  simp only [argEnv, Nat.reduceAdd]
  refine SatC.seq ?_
  refine SatC.region ?_
  refine SatL.op rfl (OpW.box hS rfl rfl (by repeat constructor) ?_)
  clear hS
  intro b1 w1 _ hS
  refine SatL.pu (RunV.assign rfl) rfl ?_
  refine SatL.nil (SatE.thenC ?_)
  refine SatC.seq ?_
  refine SatC.region ?_
  refine SatL.pu (RunV.loadN hS rfl rfl (by repeat constructor) (by repeat constructor)) rfl ?_
  refine SatL.op rfl (OpW.enter rfl rfl rfl (rfl) (alias_any n c _ hk (hS.ownT (A := [hblk c]) (by repeat constructor))) ?_)
  rintro r2 w2 ⟨rfl, h⟩
  replace hS := St.callN hS h
  refine SatL.pu (RunV.not rfl) rfl ?_
  refine SatL.pu (RunV.assign rfl) rfl ?_
  refine SatL.nil (SatE.thenC ?_)
  refine SatC.ret ?_
  refine SatE.ret1 rfl rfl ?_
  exact ⟨rfl, hro (L := []) (hS.sel (by repeat constructor))⟩
section
variable {b : Nat} {S : Lc} {L : List (Nat × Obj)} {w : World}
theorem worst_d {f : FuncId} (yes : Ch → Bool) (sv : List UInt8) (hf : enters Try.prog f = true) (hy : ∀ c ∈ S.ch, ∀ w, Own w [hblk c] → Ret Try.prog f #[.agg (chv S.node c).toArray] w fun v w' => v = .bool (yes c) ∧ St w [] [] w') (h : Agt b S L) (hown : Own w L) :
    Ret Try.prog 34 #[.pointer (some ⟨b, 0, none⟩), str sv, .func (.func f) #[] #[]] w fun u w' => u = .int .i64 (wrst yes sv S.ch) ∧ St w [] [] w' := by
  obtain ⟨hs16, hc16, hsu, hcu, htg, hck, ms, mc, oS, oC, hmS, hmC, rfl⟩ := h
  have hS := St.init hown
  have hcD : ∀ c ∈ S.ch, hblk c ∈ tbl S.sv ++ S.ch.map hblk := fun c hc => List.mem_append_right _ (List.mem_map_of_mem hc)
  generalize (tbl S.sv ++ S.ch.map hblk) = D at hS hown hcD
  generalize hX : (LO b S.node S.addr ms mc oS oC D).map Prod.fst = X at hS
  have hro : ∀ {L w'}, St w X (L ++ LO b S.node S.addr ms mc oS oC D) w' → St w [] L w' := fun h => St.roL hown (by rw [hX]; exact h.perm List.perm_append_comm) .here
  have hnn := wrst_nn yes sv S.ch
  refine Ret.enter Try.func34 Try.ntmps34 rfl rfl ?_
  simp only [argEnv, Nat.reduceAdd]
  refine SatC.seq ?_
  refine SatC.region ?_
  refine SatL.pu (RunV.assign rfl) rfl ?_
  refine SatL.nil (SatE.thenC ?_)
  refine SatC.seq ?_
  refine SatC.region ?_
  refine SatL.pu (RunV.assign rfl) rfl ?_
  refine SatL.nil (SatE.thenC ?_)
  refine SatC.seq ?_
  refine SatC.seq ?_
  refine SatC.region ?_
  refine SatL.pu (RunV.move rfl) rfl ?_
  first | refine SatL.pu (RunV.nil_ptr rfl) rfl ?_ | refine SatL.pu (RunV.nil_func rfl) rfl ?_ | refine SatL.pu (RunV.nil_yield rfl) rfl ?_
  first | refine SatL.pu (RunV.fieldAddrL rfl rfl rfl) rfl ?_ | refine SatL.pu (RunV.fieldAddr rfl rfl rfl) rfl ?_
  refine SatL.pu (RunV.load1 hS rfl rfl (by repeat constructor) rfl) rfl ?_
  refine SatL.op rfl (OpW.rangeM hS rfl rfl (by repeat constructor) hmC rfl ?_)
  clear hS
  intro b14 ro14 w1 _ hit hS
  refine SatL.nil (SatE.thenC ?_)
  refine SatC.block ?_
  refine SatC.loopK (G := List Ch × Int × Obj × Option (List UInt8 × Value)) (V := fun ⟨lf, wv, ro, cur⟩ => [(7, .int .i64 wv)]) (Cn := [(1, _), (2, _), (6, _), (14, _)]) (I := fun ⟨lf, wv, ro, cur⟩ w' => It str mc ro oC (ckv S.node lf) cur ∧ (∀ c ∈ lf, c ∈ S.ch) ∧ 0 ≤ wv ∧ max wv (wrst yes sv lf) = wrst yes sv S.ch ∧ St w X ((b14, ro) :: LO b S.node S.addr ms mc oS oC D) w') (μ := fun ⟨lf, wv, ro, cur⟩ => lf.length) (S.ch, 0, ro14, none) ?_ (by repeat constructor) ?_
  · exact ⟨hit, fun c h => h, by omega, by omega, hS⟩
  clear hS
  rintro ⟨lf, wv, ro, cur⟩ w2 ⟨hit, hsub, hw0, hmx, hS⟩
  refine SatC.weak (e' := [(1, _), (2, _), (6, _), (7, _), (14, _)]) (by repeat constructor) ?_
  refine SatC.seq ?_
  refine SatC.region ?_
  refine SatL.op rfl (OpW.nextM hS rfl (by repeat constructor) hit _ (fun ro' => by repeat constructor) rfl ?_ ?_)
  · skip
    intro hnil
    refine SatL.pu (RunV.extract rfl rfl) rfl ?_
    refine SatL.nil (SatE.thenC ?_)
    refine SatC.seq ?_
    refine SatC.cond_f rfl ?_
    refine SatC.exit (SatE.then_exit (SatE.then_exit (SatE.blk_exit (SatE.thenC ?_))))
    refine SatC.seq ?_
    refine SatC.region ?_
    refine SatL.pu (RunV.move rfl) rfl ?_
    refine SatL.pu (RunV.assign rfl) rfl ?_
    refine SatL.nil (SatE.thenC ?_)
    refine SatC.ret ?_
    refine SatE.ret1 rfl rfl ?_
    obtain rfl : lf = [] := by simpa [ckv, kvs] using hnil
    refine ⟨congrArg _ ?_, hro (L := []) (hS.sel (by repeat constructor))⟩
    rw [wrst] at hmx
    omega
  · skip
    clear hS
    intro i15 p15 ro15 w3 hget hit2 hS
    obtain ⟨c, hgc, rfl⟩ := kv_get hget
    rw [kv_erase] at hit2
    refine SatL.pu (RunV.extract rfl rfl) rfl ?_
    refine SatL.nil (SatE.thenC ?_)
    refine SatC.seq ?_
    refine SatC.cond_t rfl ?_
    refine SatC.skip (SatE.thenC ?_)
    refine SatC.block ?_
    refine SatC.seq ?_
    refine SatC.region ?_
    refine SatL.pu (RunV.entryM hS rfl (by repeat constructor) (by repeat constructor) hit2) rfl ?_
    refine SatL.pu (RunV.extract rfl rfl) rfl ?_
    refine SatL.op rfl (OpW.alloc hS rfl rfl (by repeat constructor) ?_)
    clear hS
    intro b9 w4 _ hS
    refine SatL.op rfl (OpW.store hS rfl rfl (by repeat constructor) (by repeat constructor) (by repeat constructor) rfl rfl ?_)
    clear hS
    intro w5 hS
    refine SatL.nil (SatE.thenC ?_)
    refine SatC.seq ?_
    have hcm := hsub c (List.mem_of_getElem? hgc)
    have hpm := erase_perm hgc
    have hpl := hpm.length_eq
    rw [List.length_cons] at hpl
    rw [wrst_perm hpm] at hmx
    have hsub2 : ∀ d ∈ lf.eraseIdx i15, d ∈ S.ch := fun d hd => hsub d ((List.eraseIdx_sublist ..).subset hd)
    refine SatC.region ?_
    first | refine SatL.pu (RunV.fieldAddrL rfl rfl rfl) rfl ?_ | refine SatL.pu (RunV.fieldAddr rfl rfl rfl) rfl ?_
    first | refine SatL.pu (RunV.fieldAddrL rfl rfl rfl) rfl ?_ | refine SatL.pu (RunV.fieldAddr rfl rfl rfl) rfl ?_
    refine SatL.pu (RunV.load1 hS rfl rfl (by repeat constructor) rfl) rfl ?_
    refine SatL.pu (RunV.seql rfl rfl) rfl ?_
    refine SatL.pu (RunV.move rfl) rfl ?_
    refine SatL.guard rfl rfl rfl (fun h1 => ?_) (fun h1 => ?_)
    · (try simp only [cx, ne_eq] at h1)
      try (exfalso; (first | omega | exact h1 trivial | contradiction | (first | omega | (simp at h1; done))); done)
      all_goals
      first | refine SatL.pu (RunV.fieldAddrL rfl rfl rfl) rfl ?_ | refine SatL.pu (RunV.fieldAddr rfl rfl rfl) rfl ?_
      refine SatL.guard_y rfl rfl ?_
      first | refine SatL.pu (RunV.fieldAddrL rfl rfl rfl) rfl ?_ | refine SatL.pu (RunV.fieldAddr rfl rfl rfl) rfl ?_
      refine SatL.guard_y rfl rfl ?_
      refine SatL.pu (RunV.load1 hS rfl rfl (by repeat constructor) rfl) rfl ?_
      refine SatL.guard_y rfl rfl ?_
      refine SatL.pu (RunV.move rfl) rfl ?_
      refine SatL.guard_y rfl rfl ?_
      refine SatL.pu (RunV.seql rfl rfl) rfl ?_
      refine SatL.pu (RunV.pick_f rfl rfl) rfl ?_
      refine SatL.pu (RunV.move rfl) rfl ?_
      refine SatL.guard rfl rfl rfl (fun h2 => ?_) (fun h2 => ?_)
      · (try simp only [cx, ne_eq] at h2)
        try (exfalso; (first | omega | exact h2 trivial | contradiction | (first | omega | (simp at h2; done))); done)
        all_goals
        refine SatL.pu (RunV.move rfl) rfl ?_
        refine SatL.guard_y rfl rfl ?_
        refine SatL.pu (RunV.loadN hS rfl rfl (by repeat constructor) (by repeat constructor)) rfl ?_
        refine SatL.guard_y rfl rfl ?_
        refine SatL.op rfl (OpW.enter rfl rfl rfl (hf) (hy c hcm _ (own1 hS (by simp [hcD c hcm]))) ?_)
        rintro r6 w6 ⟨rfl, h⟩
        replace hS := St.callN hS h
        refine SatL.pu (RunV.pick_t rfl rfl) rfl ?_
        refine SatL.nil (SatE.thenC ?_)
        refine SatC.weak (e' := [(1, _), (2, _), (6, _), (7, _), (9, _), (14, _), (34, _)]) (by repeat constructor) ?_
        refine SatC.cond rfl (fun h3 => ?_) (fun h3 => ?_)
        · (try simp only [cx, ne_eq] at h3)
          try (exfalso; (first | omega | exact h3 trivial | contradiction | (first | omega | (simp at h3; done))); done)
          all_goals
          refine SatC.region ?_
          refine SatL.pu (RunV.move rfl) rfl ?_
          first | refine SatL.pu (RunV.fieldAddrL rfl rfl rfl) rfl ?_ | refine SatL.pu (RunV.fieldAddr rfl rfl rfl) rfl ?_
          refine SatL.pu (RunV.load1 hS rfl rfl (by repeat constructor) rfl) rfl ?_
          refine SatL.op rfl (OpW.enter rfl rfl rfl (rfl) (stat_any (c := c.h) (own1 (p := hblk c) hS (by simp [hcD c hcm])) (hck c hcm)) ?_)
          rintro r7 w7 ⟨rfl, h⟩
          replace hS := St.callN hS h
          refine SatL.pu (RunV.max2 rfl rfl) rfl ?_
          refine SatL.pu (RunV.assign rfl) rfl ?_
          refine SatL.nil (SatE.blk_normal ?_)
          by_cases hd : (c.svc = [] ∨ c.svc = sv) ∧ yes c = true
          · rw [wrst_y hd] at hmx
            first
            | (exfalso; clear hS hit hit2 hro; simp_all; done)
            | exact SatE.again (lf.eraseIdx i15, max wv (stat c.h), ro15, some (c.id, .agg (chv S.node c).toArray)) ⟨hit2, hsub2, by omega, by omega, hS.sel (by repeat constructor)⟩ (by dsimp only; omega) (by repeat constructor)
          · rw [wrst_n hd] at hmx
            first
            | (exfalso; clear hS hit hit2 hro; simp_all; done)
            | exact SatE.again (lf.eraseIdx i15, wv, ro15, some (c.id, .agg (chv S.node c).toArray)) ⟨hit2, hsub2, by omega, by omega, hS.sel (by repeat constructor)⟩ (by dsimp only; omega) (by repeat constructor)
        · (try simp only [cx, ne_eq] at h3)
          try (exfalso; (first | omega | exact h3 trivial | contradiction | (first | omega | (simp at h3; done))); done)
          all_goals
          refine SatC.skip (SatE.blk_normal ?_)
          by_cases hd : (c.svc = [] ∨ c.svc = sv) ∧ yes c = true
          · rw [wrst_y hd] at hmx
            first
            | (exfalso; clear hS hit hit2 hro; simp_all; done)
            | exact SatE.again (lf.eraseIdx i15, max wv (stat c.h), ro15, some (c.id, .agg (chv S.node c).toArray)) ⟨hit2, hsub2, by omega, by omega, hS.sel (by repeat constructor)⟩ (by dsimp only; omega) (by repeat constructor)
          · rw [wrst_n hd] at hmx
            first
            | (exfalso; clear hS hit hit2 hro; simp_all; done)
            | exact SatE.again (lf.eraseIdx i15, wv, ro15, some (c.id, .agg (chv S.node c).toArray)) ⟨hit2, hsub2, by omega, by omega, hS.sel (by repeat constructor)⟩ (by dsimp only; omega) (by repeat constructor)
      · (try simp only [cx, ne_eq] at h2)
        try (exfalso; (first | omega | exact h2 trivial | contradiction | (first | omega | (simp at h2; done))); done)
        all_goals
        refine SatL.guard_n rfl rfl rfl rfl ?_
        refine SatL.guard_n rfl rfl rfl rfl ?_
        refine SatL.pu (RunV.pick_f rfl rfl) rfl ?_
        refine SatL.nil (SatE.thenC ?_)
        refine SatC.weak (e' := [(1, _), (2, _), (6, _), (7, _), (9, _), (14, _), (34, _)]) (by repeat constructor) ?_
        refine SatC.cond_f rfl ?_
        refine SatC.skip (SatE.blk_normal ?_)
        by_cases hd : (c.svc = [] ∨ c.svc = sv) ∧ yes c = true
        · rw [wrst_y hd] at hmx
          first
          | (exfalso; clear hS hit hit2 hro; simp_all; done)
          | exact SatE.again (lf.eraseIdx i15, max wv (stat c.h), ro15, some (c.id, .agg (chv S.node c).toArray)) ⟨hit2, hsub2, by omega, by omega, hS.sel (by repeat constructor)⟩ (by dsimp only; omega) (by repeat constructor)
        · rw [wrst_n hd] at hmx
          first
          | (exfalso; clear hS hit hit2 hro; simp_all; done)
          | exact SatE.again (lf.eraseIdx i15, wv, ro15, some (c.id, .agg (chv S.node c).toArray)) ⟨hit2, hsub2, by omega, by omega, hS.sel (by repeat constructor)⟩ (by dsimp only; omega) (by repeat constructor)
    · (try simp only [cx, ne_eq] at h1)
      try (exfalso; (first | omega | exact h1 trivial | contradiction | (first | omega | (simp at h1; done))); done)
      all_goals
      refine SatL.guard_n rfl rfl rfl rfl ?_
      refine SatL.guard_n rfl rfl rfl rfl ?_
      refine SatL.guard_n rfl rfl rfl rfl ?_
      refine SatL.guard_n rfl rfl rfl rfl ?_
      refine SatL.pu (RunV.pick_t rfl rfl) rfl ?_
      refine SatL.pu (RunV.move rfl) rfl ?_
      refine SatL.guard_y rfl rfl ?_
      refine SatL.pu (RunV.move rfl) rfl ?_
      refine SatL.guard_y rfl rfl ?_
      refine SatL.pu (RunV.loadN hS rfl rfl (by repeat constructor) (by repeat constructor)) rfl ?_
      refine SatL.guard_y rfl rfl ?_
      refine SatL.op rfl (OpW.enter rfl rfl rfl (hf) (hy c hcm _ (own1 hS (by simp [hcD c hcm]))) ?_)
      rintro r6 w6 ⟨rfl, h⟩
      replace hS := St.callN hS h
      refine SatL.pu (RunV.pick_t rfl rfl) rfl ?_
      refine SatL.nil (SatE.thenC ?_)
      refine SatC.weak (e' := [(1, _), (2, _), (6, _), (7, _), (9, _), (14, _), (34, _)]) (by repeat constructor) ?_
      refine SatC.cond rfl (fun h2 => ?_) (fun h2 => ?_)
      · (try simp only [cx, ne_eq] at h2)
        try (exfalso; (first | omega | exact h2 trivial | contradiction | (first | omega | (simp at h2; done))); done)
        all_goals
        refine SatC.region ?_
        refine SatL.pu (RunV.move rfl) rfl ?_
        first | refine SatL.pu (RunV.fieldAddrL rfl rfl rfl) rfl ?_ | refine SatL.pu (RunV.fieldAddr rfl rfl rfl) rfl ?_
        refine SatL.pu (RunV.load1 hS rfl rfl (by repeat constructor) rfl) rfl ?_
        refine SatL.op rfl (OpW.enter rfl rfl rfl (rfl) (stat_any (c := c.h) (own1 (p := hblk c) hS (by simp [hcD c hcm])) (hck c hcm)) ?_)
        rintro r7 w7 ⟨rfl, h⟩
        replace hS := St.callN hS h
        refine SatL.pu (RunV.max2 rfl rfl) rfl ?_
        refine SatL.pu (RunV.assign rfl) rfl ?_
        refine SatL.nil (SatE.blk_normal ?_)
        by_cases hd : (c.svc = [] ∨ c.svc = sv) ∧ yes c = true
        · rw [wrst_y hd] at hmx
          first
          | (exfalso; clear hS hit hit2 hro; simp_all; done)
          | exact SatE.again (lf.eraseIdx i15, max wv (stat c.h), ro15, some (c.id, .agg (chv S.node c).toArray)) ⟨hit2, hsub2, by omega, by omega, hS.sel (by repeat constructor)⟩ (by dsimp only; omega) (by repeat constructor)
        · rw [wrst_n hd] at hmx
          first
          | (exfalso; clear hS hit hit2 hro; simp_all; done)
          | exact SatE.again (lf.eraseIdx i15, wv, ro15, some (c.id, .agg (chv S.node c).toArray)) ⟨hit2, hsub2, by omega, by omega, hS.sel (by repeat constructor)⟩ (by dsimp only; omega) (by repeat constructor)
      · (try simp only [cx, ne_eq] at h2)
        try (exfalso; (first | omega | exact h2 trivial | contradiction | (first | omega | (simp at h2; done))); done)
        all_goals
        refine SatC.skip (SatE.blk_normal ?_)
        by_cases hd : (c.svc = [] ∨ c.svc = sv) ∧ yes c = true
        · rw [wrst_y hd] at hmx
          first
          | (exfalso; clear hS hit hit2 hro; simp_all; done)
          | exact SatE.again (lf.eraseIdx i15, max wv (stat c.h), ro15, some (c.id, .agg (chv S.node c).toArray)) ⟨hit2, hsub2, by omega, by omega, hS.sel (by repeat constructor)⟩ (by dsimp only; omega) (by repeat constructor)
        · rw [wrst_n hd] at hmx
          first
          | (exfalso; clear hS hit hit2 hro; simp_all; done)
          | exact SatE.again (lf.eraseIdx i15, wv, ro15, some (c.id, .agg (chv S.node c).toArray)) ⟨hit2, hsub2, by omega, by omega, hS.sel (by repeat constructor)⟩ (by dsimp only; omega) (by repeat constructor)
theorem health_d (sv : List UInt8) (h : Agt b S L) (hown : Own w L) :
    Ret Try.prog 22 #[.pointer (some ⟨b, 0, none⟩), str sv] w fun u w' => u = .int .i64 (wrst (fun _ => true) sv S.ch) ∧ St w [] [] w' := by
  have hw := h
  obtain ⟨hs16, hc16, hsu, hcu, htg, hck, ms, mc, oS, oC, hmS, hmC, rfl⟩ := h
  have hS := St.init hown
  generalize (tbl S.sv ++ S.ch.map hblk) = D at hS hown hw
  generalize hX : (LO b S.node S.addr ms mc oS oC D).map Prod.fst = X at hS
  have hro : ∀ {L w'}, St w X (L ++ LO b S.node S.addr ms mc oS oC D) w' → St w [] L w' := fun h => St.roL hown (by rw [hX]; exact h.perm List.perm_append_comm) .here
  refine Ret.enter Try.func22 Try.ntmps22 rfl rfl ?_
  simp only [argEnv, Nat.reduceAdd]
  refine SatC.seq ?_
  refine SatC.region ?_
  refine SatL.pu (RunV.assign rfl) rfl ?_
  refine SatL.nil (SatE.thenC ?_)
  refine SatC.seq ?_
  refine SatC.seq ?_
  refine SatC.region ?_
  refine SatL.pu (RunV.move rfl) rfl ?_
  refine SatL.op rfl (OpW.enter rfl rfl rfl (rfl) (lnone_any (hS.ownT (A := [(b, C 63 (lcc S.node S.addr ms mc))]) (by repeat constructor))) ?_)
  rintro r1 w1 ⟨rfl, h⟩
  replace hS := St.callN hS h
  refine SatL.nil (SatE.thenC ?_)
  refine SatC.cond rfl (fun h1 => ?_) (fun h1 => ?_)
  · (try simp only [cx, ne_eq] at h1)
    try (exfalso; (first | omega | exact h1 trivial | contradiction | (first | omega | (simp at h1; done))); done)
    all_goals
    refine SatC.seq ?_
    refine SatC.region ?_
    refine SatL.pu (RunV.assign rfl) rfl ?_
    refine SatL.nil (SatE.thenC ?_)
    refine SatC.ret (SatE.then_ret ?_)
    refine SatE.ret1 rfl rfl ?_
    exact ⟨rfl, hro (L := []) (hS.sel (by repeat constructor))⟩
  · (try simp only [cx, ne_eq] at h1)
    try (exfalso; (first | omega | exact h1 trivial | contradiction | (first | omega | (simp at h1; done))); done)
    all_goals
    refine SatC.skip (SatE.thenC ?_)
    refine SatC.seq ?_
    refine SatC.region ?_
    refine SatL.pu (RunV.move rfl) rfl ?_
    refine SatL.pu (RunV.move rfl) rfl ?_
    refine SatL.op rfl (OpW.enter rfl rfl rfl (rfl) (worst_d (fun _ => true) sv (by kernel_rfl) (fun c _ w _ => yesH_any S.node c w) hw hS.toOwn) ?_)
    rintro r2 w2 ⟨rfl, h⟩
    replace hS := St.callN hS h
    refine SatL.pu (RunV.assign rfl) rfl ?_
    refine SatL.nil (SatE.thenC ?_)
    refine SatC.ret ?_
    refine SatE.ret1 rfl rfl ?_
    exact ⟨rfl, hro (L := []) (hS.sel (by repeat constructor))⟩
end
end Go.Proofs.Ytbnkcagcfbpiiaa
set_option linter.unusedSimpArgs false
set_option linter.unusedVariables false
set_option maxRecDepth 100000
set_option maxHeartbeats 4000000
namespace Go.Proofs.Ytbnkcagcfbpiiaa
open Go.RowKit
/-- What is plain in a service. -/
structure Sd where
  id : List UInt8
  name : List UInt8
  tags : List (List UInt8)
  port : Int
def sdat (s : Sv) : Sd := ⟨s.id, s.name, s.tags, s.port⟩
def ordS (l : List Sv) : List Sv := (srt (l.map Sv.id)).filterMap (gt Sv.id l)
def ordC (l : List Ch) : List Ch := (srt (l.map Ch.id)).filterMap (gt Ch.id l)
/-- A check as it is told. -/
@[reducible] def chs (n : Int) (c : Ch) : List Value := [.int .i64 n, str c.id, str c.svc, str c.note, .int .i64 (stat c.h), .int .u64 0, .int .u64 0]
theorem fm_step {α : Type} {f : List UInt8 → Option α} {ys : List (List UInt8)} {i : Nat} {y : List UInt8} {x : α} (h : ys[i]? = some y) (hx : f y = some x) : (ys.take (i + 1)).filterMap f = (ys.take i).filterMap f ++ [x] := by
  rw [List.take_add_one, h, List.filterMap_append]
  simp [hx]
theorem fm_len {α : Type} (f : List UInt8 → Option α) (ys : List (List UInt8)) (i : Nat) : ((ys.take i).filterMap f).length ≤ i := by
  refine Nat.le_trans (List.length_filterMap_le ..) ?_
  rw [List.length_take]
  omega
section
variable {b : Nat} {S : Lc} {L : List (Nat × Obj)} {w : World}
theorem services_d (h : Agt b S L) (hown : Own w L) :
    Ret Try.prog 8 #[.pointer (some ⟨b, 0, none⟩)] w fun u w' => ∃ R AB, R.map sdat = (ordS S.sv).map sdat ∧ Sl 30 7 u (R.map (svc S.node)) AB ∧ (∀ r ∈ R, Sl 9 1 r.tv (r.tags.map rs) r.B) ∧ St w [] (AB ++ tbl R) w' := by
  obtain ⟨hs16, hc16, hsu, hcu, htg, hck, ms, mc, oS, oC, hmS, hmC, rfl⟩ := h
  have hS := St.init hown
  have hcD : ∀ s ∈ S.sv, ∀ c ∈ s.B, c ∈ tbl S.sv ++ S.ch.map hblk := fun s hs c hc => List.mem_append_left _ (List.mem_flatMap.2 ⟨s, hs, hc⟩)
  generalize (tbl S.sv ++ S.ch.map hblk) = D at hS hown hcD
  generalize hX : (LO b S.node S.addr ms mc oS oC D).map Prod.fst = X at hS
  have hro : ∀ {L w'}, St w X (L ++ LO b S.node S.addr ms mc oS oC D) w' → St w [] L w' := fun h => St.roL hown (by rw [hX]; exact h.perm List.perm_append_comm) .here
  have hyl : (srt (S.sv.map Sv.id)).length = S.sv.length := by rw [srt_len, List.length_map]
  have hyg : ∀ y ∈ srt (S.sv.map Sv.id), ∃ x, gt Sv.id S.sv y = some x ∧ x ∈ S.sv ∧ x.id = y := fun y hy => gt_some (mem_srt.1 hy)
  unfold ordS
  generalize hys : srt (S.sv.map Sv.id) = ys at hyl hyg ⊢
  refine Ret.enter Try.func8 Try.ntmps8 rfl rfl ?_
  simp only [argEnv, Nat.reduceAdd]
  refine SatC.seq ?_
  refine SatC.region ?_
  refine SatL.pu (RunV.assign rfl) rfl ?_
  refine SatL.nil (SatE.thenC ?_)
  refine SatC.seq ?_
  refine SatC.seq ?_
  refine SatC.region ?_
  refine SatL.pu (RunV.move rfl) rfl ?_
  refine SatL.op rfl (OpW.enter rfl rfl rfl (rfl) (lnone_any (hS.ownT (A := [(b, C 63 (lcc S.node S.addr ms mc))]) (by repeat constructor))) ?_)
  rintro r1 w1 ⟨rfl, h⟩
  replace hS := St.callN hS h
  refine SatL.nil (SatE.thenC ?_)
  refine SatC.cond rfl (fun h1 => ?_) (fun h1 => ?_)
  · (try simp only [cx, ne_eq] at h1)
    try (exfalso; (first | omega | exact h1 trivial | contradiction | (first | omega | (simp at h1; done))); done)
    all_goals
    refine SatC.seq ?_
    refine SatC.region ?_
    refine SatL.pu (RunV.assign rfl) rfl ?_
    refine SatL.nil (SatE.thenC ?_)
    refine SatC.ret (SatE.then_ret ?_)
    refine SatE.ret1 rfl rfl ?_
    refine ⟨R, AB, by rw [hR, List.take_of_length_le (by omega)], hsa, hRt, hro (L := AB ++ tbl R) (by rw [List.append_assoc]; exact hS.sel (by repeat constructor))⟩
  · (try simp only [cx, ne_eq] at h1)
    try (exfalso; (first | omega | exact h1 trivial | contradiction | (first | omega | (simp at h1; done))); done)
    all_goals
    refine SatC.skip (SatE.thenC ?_)
    refine SatC.seq ?_
    refine SatC.region ?_
    refine SatL.pu (RunV.assign rfl) rfl ?_
    refine SatL.nil (SatE.thenC ?_)
    refine SatC.seq ?_
    refine SatC.seq ?_
    refine SatC.region ?_
    refine SatL.pu (RunV.move rfl) rfl ?_
    first | refine SatL.pu (RunV.nil_ptr rfl) rfl ?_ | refine SatL.pu (RunV.nil_func rfl) rfl ?_ | refine SatL.pu (RunV.nil_yield rfl) rfl ?_
    first | refine SatL.pu (RunV.fieldAddrL rfl rfl rfl) rfl ?_ | refine SatL.pu (RunV.fieldAddr rfl rfl rfl) rfl ?_
    refine SatL.pu (RunV.load1 hS rfl rfl (by repeat constructor) rfl) rfl ?_
    refine SatL.op rfl (OpW.enter rfl rfl rfl (rfl) (idsS_any S.sv hs16 _ _ hmS (hS.ownT (A := [(ms, oS)]) (by repeat constructor))) ?_)
    rintro r2 w2 ⟨KB, hkl, h⟩
    replace hS := hS.callT (A := []) .nil h
    rw [hys] at hkl
    obtain ⟨vc, hv⟩ := hkl.slv
    rw [List.length_map] at hv
    first | refine SatL.pu (RunV.lenR (by assumption) rfl rfl) rfl ?_ | refine SatL.pu (RunV.lenS rfl rfl) rfl ?_
    refine SatL.pu (RunV.move rfl) rfl ?_
    refine SatL.nil (SatE.thenC ?_)
    refine SatC.block ?_
    refine SatC.loopK (G := Nat × List Sv × Value × List (Nat × Obj)) (V := fun ⟨i, R, av, AB⟩ => [(15, .int .i64 (i : Int)), (3, av)]) (Cn := [(0, _), (2, _), (13, _), (14, _)]) (I := fun ⟨i, R, av, AB⟩ w' => i ≤ ys.length ∧ R.map sdat = ((ys.take i).filterMap (gt Sv.id S.sv)).map sdat ∧ Sl 30 7 av (R.map (svc S.node)) AB ∧ (∀ r ∈ R, Sl 9 1 r.tv (r.tags.map rs) r.B) ∧ St w X (AB ++ (tbl R ++ (KB ++ LO b S.node S.addr ms mc oS oC D))) w') (μ := fun ⟨i, R, av, AB⟩ => ys.length - i) (0, [], .slice none 0 0, []) ?_ (by repeat constructor) ?_
    · exact ⟨Nat.zero_le _, rfl, .nil, fun r hr => (by cases hr), hS⟩
    clear hS
    rintro ⟨i, R, av, AB⟩ w3 ⟨hi, hR, hsa, hRt, hS⟩
    refine SatC.weak (e' := [(0, _), (2, _), (3, _), (13, _), (14, _), (15, _)]) (by repeat constructor) ?_
    refine SatC.seq ?_
    refine SatC.region ?_
    refine SatL.pu (RunV.lss rfl rfl) rfl ?_
    refine SatL.nil (SatE.thenC ?_)
    refine SatC.seq ?_
    refine SatC.cond rfl (fun h2 => ?_) (fun h2 => ?_)
    · (try simp only [cx, ne_eq] at h2)
      try (exfalso; (first | omega | exact h2 trivial | contradiction | (first | omega | (simp at h2; done))); done)
      all_goals
      refine SatC.skip (SatE.thenC ?_)
      refine SatC.seq ?_
      refine SatC.block ?_
      refine SatC.seq ?_
      obtain ⟨y, hy⟩ : ∃ y, ys[i]? = some y := ⟨_, List.getElem?_eq_getElem (by omega)⟩
      obtain ⟨x, hgx, hxm, hxy⟩ := hyg y (List.mem_of_getElem? hy)
      have hxt := htg x hxm
      obtain ⟨xc, hxv⟩ := hxt.1.slv
      have hRl : R.length ≤ i := by have := congrArg List.length hR; rw [List.length_map, List.length_map] at this; have := fm_len (gt Sv.id S.sv) ys i; omega
      rw [List.length_map] at hxv
      refine SatC.region ?_
      first | refine SatL.pu (RunV.indexR (by assumption) rfl rfl rfl (by omega) (by omega) rfl) rfl ?_ | refine SatL.pu (RunV.indexS rfl rfl rfl (by omega) (by omega) rfl) rfl ?_
      refine SatL.pu (RunV.loadR1g i 0 (Sl.rd hkl hS (by repeat constructor)) rfl rfl (by omega) (map_get hy) rfl) rfl ?_
      refine SatL.pu (RunV.assign rfl) rfl ?_
      refine SatL.nil (SatE.thenC ?_)
      refine SatC.seq ?_
      refine SatC.region ?_
      refine SatL.pu (RunV.move rfl) rfl ?_
      first | refine SatL.pu (RunV.nil_ptr rfl) rfl ?_ | refine SatL.pu (RunV.nil_func rfl) rfl ?_ | refine SatL.pu (RunV.nil_yield rfl) rfl ?_
      first | refine SatL.pu (RunV.fieldAddrL rfl rfl rfl) rfl ?_ | refine SatL.pu (RunV.fieldAddr rfl rfl rfl) rfl ?_
      refine SatL.pu (RunV.load1 hS rfl rfl (by repeat constructor) rfl) rfl ?_
      refine SatL.pu (RunV.move rfl) rfl ?_
      refine SatL.pu (RunV.cast (v' := .agg (svc S.node x).toArray) (RunV.lookup1 (keyL rfl) hS rfl rfl rfl rfl (by repeat constructor) hmS.is) (by rw [kget_v, hgx]; rfl)) rfl ?_
      refine SatL.op rfl (OpW.alloc hS rfl rfl (by repeat constructor) ?_)
      clear hS
      intro b6 w4 _ hS
      refine SatL.op rfl (OpW.store hS rfl rfl (by repeat constructor) (by repeat constructor) (by repeat constructor) rfl (svc_one hxt.1.one) ?_)
      clear hS
      intro w5 hS
      refine SatL.nil (SatE.thenC ?_)
      refine SatC.seq ?_
      refine SatC.region ?_
      refine SatL.op rfl (OpW.buildSlice0 hS rfl rfl rfl ?_)
      clear hS
      intro v25 b25 w6 _ hsl25 hv25 hS
      first | refine SatL.pu (RunV.fieldAddrL rfl rfl rfl) rfl ?_ | refine SatL.pu (RunV.fieldAddr rfl rfl rfl) rfl ?_
      refine SatL.pu (RunV.load1 hS rfl rfl (by repeat constructor) rfl) rfl ?_
      refine SatL.op rfl (OpW.appendN (rows := []) hsl25 hS (by repeat constructor) hxv (hxt.1.rdOf fun c hc => hS.own c (by simp [hcD x hxm c hc])) (by rw [List.length_map]) rfl rfl rfl rfl rfl rfl rfl (rs_one _) (by have := hxt.2; simp; omega) rfl ?_)
      clear hS
      intro v28 B28 w7 hsl28 hS
      first | refine SatL.pu (RunV.fieldAddrL rfl rfl rfl) rfl ?_ | refine SatL.pu (RunV.fieldAddr rfl rfl rfl) rfl ?_
      refine SatL.op rfl (OpW.storeSv hS rfl rfl (by assumption) (by repeat constructor) (by repeat constructor) rfl ?_)
      clear hS
      intro w8 hS
      refine SatL.nil (SatE.thenC ?_)
      refine SatC.weak (e' := [(0, _), (2, _), (3, _), (6, _), (13, _), (14, _), (15, _)]) (by repeat constructor) ?_
      refine SatC.region ?_
      refine SatL.pu (RunV.move rfl) rfl ?_
      refine SatL.pu (RunV.loadN hS rfl rfl (by repeat constructor) (by repeat constructor)) rfl ?_
      refine SatL.op rfl (OpW.buildSlice1 hS rfl rfl rfl rfl rfl (by repeat constructor) rfl rfl rfl ?_)
      clear hS
      intro b32 w9 _ hS
      refine SatL.op rfl (OpW.append1 hsa hS (by repeat constructor) rfl rfl (by repeat constructor) rfl rfl rfl rfl rfl rfl rfl (svc_one (n := S.node) (s := ⟨x.id, x.name, x.tags, x.port, v28, B28⟩) hsl28.one) (by rw [List.length_map]; omega) rfl ?_)
      clear hS
      intro v33 B33 w10 hsl33 hS
      refine SatL.pu (RunV.assign rfl) rfl ?_
      refine SatL.nil (SatE.blk_normal (SatE.thenC ?_))
      refine SatC.region ?_
      refine SatL.pu (RunV.add rfl rfl (by first | exact wrapI64 (by omega) | rfl)) rfl ?_
      refine SatL.pu (RunV.move rfl) rfl ?_
      refine SatL.nil ?_
      refine SatE.again ((i + 1, R ++ [⟨x.id, x.name, x.tags, x.port, v28, B28⟩], v33, B33)) ?_ (by first | omega | (dsimp only; omega)) (by repeat constructor)
      refine ⟨by omega, ?_, ?_, ?_, ?_⟩
      · rw [List.map_append, hR, fm_step hy hgx, List.map_append]; rfl
      · rw [List.map_append]; exact hsl33
      · intro r hr
        rcases List.mem_append.1 hr with hr | hr
        · exact hRt r hr
        · rw [List.mem_singleton.1 hr]; exact hsl28
      · have hS3 := hS.sel (R := B33 ++ (B28 ++ (tbl R ++ (KB ++ LO b S.node S.addr ms mc oS oC D)))) (by repeat constructor)
        refine hS3.perm (List.Perm.append_left _ ?_)
        rw [show tbl (R ++ [(⟨x.id, x.name, x.tags, x.port, v28, B28⟩ : Sv)]) = tbl R ++ B28 from by simp [tbl], ← List.append_assoc]
        exact List.Perm.append_right _ List.perm_append_comm
    · (try simp only [cx, ne_eq] at h2)
      try (exfalso; (first | omega | exact h2 trivial | contradiction | (first | omega | (simp at h2; done))); done)
      all_goals
      refine SatC.exit (SatE.then_exit (SatE.then_exit (SatE.blk_exit (SatE.thenC ?_))))
      refine SatC.seq ?_
      refine SatC.region ?_
      refine SatL.pu (RunV.move rfl) rfl ?_
      refine SatL.pu (RunV.assign rfl) rfl ?_
      refine SatL.nil (SatE.thenC ?_)
      refine SatC.ret ?_
      refine SatE.ret1 rfl rfl ?_
      refine ⟨R, AB, by rw [hR, List.take_of_length_le (by omega)], hsa, hRt, hro (L := AB ++ tbl R) (by rw [List.append_assoc]; exact hS.sel (by repeat constructor))⟩
theorem checks_d (h : Agt b S L) (hown : Own w L) :
    Ret Try.prog 11 #[.pointer (some ⟨b, 0, none⟩)] w fun u w' => ∃ AB, Sl 32 7 u ((ordC S.ch).map (chs S.node)) AB ∧ St w [] AB w' := by
  obtain ⟨hs16, hc16, hsu, hcu, htg, hck, ms, mc, oS, oC, hmS, hmC, rfl⟩ := h
  have hS := St.init hown
  have hcD : ∀ c ∈ S.ch, hblk c ∈ tbl S.sv ++ S.ch.map hblk := fun c hc => List.mem_append_right _ (List.mem_map_of_mem hc)
  generalize (tbl S.sv ++ S.ch.map hblk) = D at hS hown hcD
  generalize hX : (LO b S.node S.addr ms mc oS oC D).map Prod.fst = X at hS
  have hro : ∀ {L w'}, St w X (L ++ LO b S.node S.addr ms mc oS oC D) w' → St w [] L w' := fun h => St.roL hown (by rw [hX]; exact h.perm List.perm_append_comm) .here
  have hyl : (srt (S.ch.map Ch.id)).length = S.ch.length := by rw [srt_len, List.length_map]
  have hyg : ∀ y ∈ srt (S.ch.map Ch.id), ∃ x, gt Ch.id S.ch y = some x ∧ x ∈ S.ch ∧ x.id = y := fun y hy => gt_some (mem_srt.1 hy)
  unfold ordC
  generalize hys : srt (S.ch.map Ch.id) = ys at hyl hyg ⊢
  refine Ret.enter Try.func11 Try.ntmps11 rfl rfl ?_
  simp only [argEnv, Nat.reduceAdd]
  refine SatC.seq ?_
  refine SatC.region ?_
  refine SatL.pu (RunV.assign rfl) rfl ?_
  refine SatL.nil (SatE.thenC ?_)
  refine SatC.seq ?_
  refine SatC.seq ?_
  refine SatC.region ?_
  refine SatL.pu (RunV.move rfl) rfl ?_
  refine SatL.op rfl (OpW.enter rfl rfl rfl (rfl) (lnone_any (hS.ownT (A := [(b, C 63 (lcc S.node S.addr ms mc))]) (by repeat constructor))) ?_)
  rintro r1 w1 ⟨rfl, h⟩
  replace hS := St.callN hS h
  refine SatL.nil (SatE.thenC ?_)
  refine SatC.cond rfl (fun h1 => ?_) (fun h1 => ?_)
  · (try simp only [cx, ne_eq] at h1)
    try (exfalso; (first | omega | exact h1 trivial | contradiction | (first | omega | (simp at h1; done))); done)
    all_goals
    refine SatC.seq ?_
    refine SatC.region ?_
    refine SatL.pu (RunV.assign rfl) rfl ?_
    refine SatL.nil (SatE.thenC ?_)
    refine SatC.ret (SatE.then_ret ?_)
    refine SatE.ret1 rfl rfl ?_
    refine ⟨AB, by rw [List.take_of_length_le (by omega)] at hsa; exact hsa, hro (L := AB) (hS.sel (by repeat constructor))⟩
  · (try simp only [cx, ne_eq] at h1)
    try (exfalso; (first | omega | exact h1 trivial | contradiction | (first | omega | (simp at h1; done))); done)
    all_goals
    refine SatC.skip (SatE.thenC ?_)
    refine SatC.seq ?_
    refine SatC.region ?_
    refine SatL.pu (RunV.assign rfl) rfl ?_
    refine SatL.nil (SatE.thenC ?_)
    refine SatC.seq ?_
    refine SatC.seq ?_
    refine SatC.region ?_
    refine SatL.pu (RunV.move rfl) rfl ?_
    first | refine SatL.pu (RunV.nil_ptr rfl) rfl ?_ | refine SatL.pu (RunV.nil_func rfl) rfl ?_ | refine SatL.pu (RunV.nil_yield rfl) rfl ?_
    first | refine SatL.pu (RunV.fieldAddrL rfl rfl rfl) rfl ?_ | refine SatL.pu (RunV.fieldAddr rfl rfl rfl) rfl ?_
    refine SatL.pu (RunV.load1 hS rfl rfl (by repeat constructor) rfl) rfl ?_
    refine SatL.op rfl (OpW.enter rfl rfl rfl (rfl) (idsC_any S.ch hc16 _ _ hmC (hS.ownT (A := [(mc, oC)]) (by repeat constructor))) ?_)
    rintro r2 w2 ⟨KB, hkl, h⟩
    replace hS := hS.callT (A := []) .nil h
    rw [hys] at hkl
    obtain ⟨vc, hv⟩ := hkl.slv
    rw [List.length_map] at hv
    first | refine SatL.pu (RunV.lenR (by assumption) rfl rfl) rfl ?_ | refine SatL.pu (RunV.lenS rfl rfl) rfl ?_
    refine SatL.pu (RunV.move rfl) rfl ?_
    refine SatL.nil (SatE.thenC ?_)
    refine SatC.block ?_
    refine SatC.loopK (G := Nat × Value × List (Nat × Obj)) (V := fun ⟨i, av, AB⟩ => [(15, .int .i64 (i : Int)), (3, av)]) (Cn := [(0, _), (2, _), (13, _), (14, _)]) (I := fun ⟨i, av, AB⟩ w' => i ≤ ys.length ∧ Sl 32 7 av (((ys.take i).filterMap (gt Ch.id S.ch)).map (chs S.node)) AB ∧ St w X (AB ++ (KB ++ LO b S.node S.addr ms mc oS oC D)) w') (μ := fun ⟨i, av, AB⟩ => ys.length - i) (0, .slice none 0 0, []) ?_ (by repeat constructor) ?_
    · exact ⟨Nat.zero_le _, .nil, hS⟩
    clear hS
    rintro ⟨i, av, AB⟩ w3 ⟨hi, hsa, hS⟩
    refine SatC.weak (e' := [(0, _), (2, _), (3, _), (13, _), (14, _), (15, _)]) (by repeat constructor) ?_
    refine SatC.seq ?_
    refine SatC.region ?_
    refine SatL.pu (RunV.lss rfl rfl) rfl ?_
    refine SatL.nil (SatE.thenC ?_)
    refine SatC.seq ?_
    refine SatC.cond rfl (fun h2 => ?_) (fun h2 => ?_)
    · (try simp only [cx, ne_eq] at h2)
      try (exfalso; (first | omega | exact h2 trivial | contradiction | (first | omega | (simp at h2; done))); done)
      all_goals
      refine SatC.skip (SatE.thenC ?_)
      refine SatC.seq ?_
      refine SatC.block ?_
      refine SatC.seq ?_
      obtain ⟨y, hy⟩ : ∃ y, ys[i]? = some y := ⟨_, List.getElem?_eq_getElem (by omega)⟩
      obtain ⟨x, hgx, hxm, hxy⟩ := hyg y (List.mem_of_getElem? hy)
      have hRl := fm_len (gt Ch.id S.ch) ys i
      refine SatC.region ?_
      first | refine SatL.pu (RunV.indexR (by assumption) rfl rfl rfl (by omega) (by omega) rfl) rfl ?_ | refine SatL.pu (RunV.indexS rfl rfl rfl (by omega) (by omega) rfl) rfl ?_
      refine SatL.pu (RunV.loadR1g i 0 (Sl.rd hkl hS (by repeat constructor)) rfl rfl (by omega) (map_get hy) rfl) rfl ?_
      refine SatL.pu (RunV.assign rfl) rfl ?_
      refine SatL.nil (SatE.thenC ?_)
      refine SatC.seq ?_
      refine SatC.region ?_
      refine SatL.pu (RunV.move rfl) rfl ?_
      first | refine SatL.pu (RunV.nil_ptr rfl) rfl ?_ | refine SatL.pu (RunV.nil_func rfl) rfl ?_ | refine SatL.pu (RunV.nil_yield rfl) rfl ?_
      first | refine SatL.pu (RunV.fieldAddrL rfl rfl rfl) rfl ?_ | refine SatL.pu (RunV.fieldAddr rfl rfl rfl) rfl ?_
      refine SatL.pu (RunV.load1 hS rfl rfl (by repeat constructor) rfl) rfl ?_
      refine SatL.pu (RunV.move rfl) rfl ?_
      refine SatL.pu (RunV.cast (v' := .agg (chv S.node x).toArray) (RunV.lookup1 (keyL rfl) hS rfl rfl rfl rfl (by repeat constructor) hmC.is) (by rw [kget_v, hgx]; rfl)) rfl ?_
      refine SatL.pu (RunV.fieldN (cs := chv S.node x) (vs := chc S.node x) rfl rfl rfl (by repeat constructor)) rfl ?_
      refine SatL.op rfl (OpW.alloc hS rfl rfl (by repeat constructor) ?_)
      clear hS
      intro b6 w4 _ hS
      refine SatL.op rfl (OpW.store hS rfl rfl (by repeat constructor) (by repeat constructor) (by repeat constructor) rfl rfl ?_)
      clear hS
      intro w5 hS
      refine SatL.nil (SatE.thenC ?_)
      refine SatC.seq ?_
      refine SatC.region ?_
      refine SatL.pu (RunV.move rfl) rfl ?_
      first | refine SatL.pu (RunV.nil_ptr rfl) rfl ?_ | refine SatL.pu (RunV.nil_func rfl) rfl ?_ | refine SatL.pu (RunV.nil_yield rfl) rfl ?_
      first | refine SatL.pu (RunV.fieldAddrL rfl rfl rfl) rfl ?_ | refine SatL.pu (RunV.fieldAddr rfl rfl rfl) rfl ?_
      refine SatL.pu (RunV.load1 hS rfl rfl (by repeat constructor) rfl) rfl ?_
      refine SatL.pu (RunV.move rfl) rfl ?_
      refine SatL.pu (RunV.cast (v' := .agg (chv S.node x).toArray) (RunV.lookup1 (keyL rfl) hS rfl rfl rfl rfl (by repeat constructor) hmC.is) (by rw [kget_v, hgx]; rfl)) rfl ?_
      refine SatL.pu (RunV.field1 rfl rfl rfl rfl) rfl ?_
      refine SatL.op rfl (OpW.enter rfl rfl rfl (rfl) (stat_any (c := x.h) (own1 (p := hblk x) hS (by simp [hcD x hxm])) (hck x hxm)) ?_)
      rintro r6 w6 ⟨rfl, h⟩
      replace hS := St.callN hS h
      first | refine SatL.pu (RunV.fieldAddrL rfl rfl rfl) rfl ?_ | refine SatL.pu (RunV.fieldAddr rfl rfl rfl) rfl ?_
      refine SatL.op rfl (OpW.store hS rfl rfl (by repeat constructor) (by repeat constructor) (by repeat constructor) rfl rfl ?_)
      clear hS
      intro w7 hS
      refine SatL.nil (SatE.thenC ?_)
      refine SatC.weak (e' := [(0, _), (2, _), (3, _), (6, _), (13, _), (14, _), (15, _)]) (by repeat constructor) ?_
      refine SatC.region ?_
      refine SatL.pu (RunV.move rfl) rfl ?_
      refine SatL.pu (RunV.loadN hS rfl rfl (by repeat constructor) (by repeat constructor)) rfl ?_
      refine SatL.op rfl (OpW.buildSlice1 hS rfl rfl rfl rfl rfl (by repeat constructor) rfl rfl rfl ?_)
      clear hS
      intro b37 w8 _ hS
      refine SatL.op rfl (OpW.append1 hsa hS (by repeat constructor) rfl rfl (by repeat constructor) rfl rfl rfl rfl rfl rfl rfl rfl (by rw [List.length_map]; omega) rfl ?_)
      clear hS
      intro v38 B38 w9 hsl38 hS
      refine SatL.pu (RunV.assign rfl) rfl ?_
      refine SatL.nil (SatE.blk_normal (SatE.thenC ?_))
      refine SatC.region ?_
      refine SatL.pu (RunV.add rfl rfl (by first | exact wrapI64 (by omega) | rfl)) rfl ?_
      refine SatL.pu (RunV.move rfl) rfl ?_
      refine SatL.nil ?_
      refine SatE.again ((i + 1, v38, B38)) ?_ (by first | omega | (dsimp only; omega)) (by repeat constructor)
      refine ⟨by omega, ?_, hS.sel (by repeat constructor)⟩
      rw [fm_step hy hgx, List.map_append]; exact hsl38
    · (try simp only [cx, ne_eq] at h2)
      try (exfalso; (first | omega | exact h2 trivial | contradiction | (first | omega | (simp at h2; done))); done)
      all_goals
      refine SatC.exit (SatE.then_exit (SatE.then_exit (SatE.blk_exit (SatE.thenC ?_))))
      refine SatC.seq ?_
      refine SatC.region ?_
      refine SatL.pu (RunV.move rfl) rfl ?_
      refine SatL.pu (RunV.assign rfl) rfl ?_
      refine SatL.nil (SatE.thenC ?_)
      refine SatC.ret ?_
      refine SatE.ret1 rfl rfl ?_
      refine ⟨AB, by rw [List.take_of_length_le (by omega)] at hsa; exact hsa, hro (L := AB) (hS.sel (by repeat constructor))⟩
end
end Go.Proofs.Ytbnkcagcfbpiiaa
