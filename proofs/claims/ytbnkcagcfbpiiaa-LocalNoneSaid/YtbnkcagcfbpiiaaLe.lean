/- RemoveCheck, Told, Maintain, AddCheck. -/
import Derived.Test.YtbnkcagcfbpiiaaLd
set_option linter.unusedSimpArgs false
set_option linter.unusedVariables false
set_option maxRecDepth 100000
set_option maxHeartbeats 4000000
namespace Go.Proofs.Ytbnkcagcfbpiiaa
open Go.RowKit
section
variable {α : Type} {key : α → List UInt8}
theorem dl_filter {l : List α} {k : List UInt8} (h : (l.map key).Nodup) : dl key l k = l.filter fun x => decide (¬ key x = k) := by
  induction l with
  | nil => rfl
  | cons y l ih =>
    rw [List.map_cons, List.nodup_cons] at h
    unfold dl
    split
    · rename_i e
      rw [List.filter_cons_of_neg (by simp [e]), List.filter_eq_self.2]
      intro x hx
      simp only [decide_eq_true_eq]
      intro e2
      exact h.1 (by rw [← e, ← e2]; exact List.mem_map_of_mem hx)
    · rename_i e
      rw [List.filter_cons_of_pos (by simp only [decide_eq_true_eq]; exact fun h => e h.symm), ih h.2]
theorem gt_split {l : List α} {k : List UInt8} {x : α} (hx : gt key l k = some x) (h : (l.map key).Nodup) : ∃ A D, l = A ++ x :: D ∧ key x = k ∧ (∀ y ∈ A, ¬ key y = k) ∧ ∀ y ∈ D, ¬ key y = k := by
  induction l with
  | nil => cases hx
  | cons y l ih =>
    rw [List.map_cons, List.nodup_cons] at h
    unfold gt at hx
    split at hx
    · rename_i e
      cases hx
      exact ⟨[], l, rfl, e.symm, fun y hy => (by cases hy), fun z hz e2 => h.1 (by rw [← e, ← e2]; exact List.mem_map_of_mem hz)⟩
    · rename_i e
      obtain ⟨A, D, rfl, h1, h2, h3⟩ := ih hx h.2
      refine ⟨y :: A, D, rfl, h1, fun z hz => ?_, h3⟩
      rcases List.mem_cons.1 hz with rfl | hz
      · exact fun e2 => e e2.symm
      · exact h2 z hz
end
theorem fv_p {c d : Ck} (h : c.p = d.p) : fv c = fv d := by rw [fv, fv, h]
def hup (k : List UInt8) (g : Ck → Ck) (l : List Ch) : List Ch := l.map fun c => if c.id = k then { c with h := g c.h } else c
theorem hup_split {k : List UInt8} {g : Ck → Ck} {A D : List Ch} {c : Ch} (h1 : c.id = k) (h2 : ∀ y ∈ A, ¬ y.id = k) (h3 : ∀ y ∈ D, ¬ y.id = k) : hup k g (A ++ c :: D) = A ++ { c with h := g c.h } :: D := by
  have e : ∀ l : List Ch, (∀ y ∈ l, ¬ y.id = k) → (l.map fun c => if c.id = k then { c with h := g c.h } else c) = l := by
    intro l hl
    induction l with
    | nil => rfl
    | cons y l ih => rw [List.map_cons, if_neg (hl y List.mem_cons_self), ih fun z hz => hl z (List.mem_cons_of_mem _ hz)]
  unfold hup
  rw [List.map_append, List.map_cons, if_pos h1, e A h2, e D h3]
theorem hup_ids (k : List UInt8) (g : Ck → Ck) (l : List Ch) : (hup k g l).map Ch.id = l.map Ch.id := by
  unfold hup
  rw [List.map_map]
  refine List.map_congr_left fun c _ => ?_
  simp only [Function.comp]
  split <;> rfl
theorem hup_kv (n : Int) (k : List UInt8) (g : Ck → Ck) (l : List Ch) : ckv n (hup k g l) = ckv n l := by
  unfold hup
  simp only [ckv, kvs, List.map_map]
  refine List.map_congr_left fun c _ => ?_
  simp only [Function.comp]
  split <;> rfl
theorem hup_len (k : List UInt8) (g : Ck → Ck) (l : List Ch) : (hup k g l).length = l.length := List.length_map ..
theorem hup_mem {k : List UInt8} {g : Ck → Ck} {l : List Ch} {x : Ch} (h : x ∈ hup k g l) : ∃ c ∈ l, x = (if c.id = k then { c with h := g c.h } else c) := by
  obtain ⟨c, hc, rfl⟩ := List.mem_map.1 h
  exact ⟨c, hc, rfl⟩
def aHup (S : Lc) (k : List UInt8) (g : Ck → Ck) : Lc := { S with ch := hup k g S.ch }
theorem Agt.hup {b : Nat} {S : Lc} {ms mc : Nat} {oS oC : Obj} {k : List UInt8} {g : Ck → Ck} (h1 : S.sv.length ≤ 16) (h2 : S.ch.length ≤ 16) (h3 : (S.sv.map Sv.id).Nodup) (h4 : (S.ch.map Ch.id).Nodup) (h5 : ∀ s ∈ S.sv, Sl 9 1 s.tv (s.tags.map rs) s.B ∧ s.tags.length ≤ 4) (h6 : ∀ c ∈ S.ch, ¬ c.h.p.kind = 0) (hg : ∀ c, (g c).p = c.p)
    (hmS : Mp str oS (skv S.node S.sv)) (hmC : Mp str oC (ckv S.node S.ch)) : Agt b (aHup S k g) (LO b S.node S.addr ms mc oS oC (tbl S.sv ++ (hup k g S.ch).map hblk)) := by
  refine ⟨h1, by rw [aHup, hup_len]; exact h2, h3, by rw [aHup, hup_ids]; exact h4, h5, fun c hc => ?_, ms, mc, oS, oC, hmS, by rw [aHup, hup_kv]; exact hmC, rfl⟩
  obtain ⟨d, hd, rfl⟩ := hup_mem hc
  split
  · rw [hg]; exact h6 d hd
  · exact h6 d hd
theorem mid_perm {α : Type} {a b c x : α} {T A D : List α} : (a :: b :: c :: (T ++ (A ++ x :: D))).Perm (x :: a :: b :: c :: (T ++ (A ++ D))) := by
  have e : (T ++ (A ++ x :: D)).Perm (x :: (T ++ (A ++ D))) := by
    rw [show T ++ (A ++ x :: D) = (T ++ A) ++ x :: D from by simp, show T ++ (A ++ D) = (T ++ A) ++ D from by simp]
    exact List.perm_middle
  exact (((e.cons c).trans (.swap ..)).cons b |>.trans (.swap ..)).cons a |>.trans (.swap ..)
def addCE (S : Lc) (id sv note : List UInt8) (p : Pl) : Int :=
  if ¬ (okN id = true ∧ (sv = [] ∨ okN sv = true)) then 10 else if 32 < note.length then 3 else if ¬ sv = [] ∧ gt Sv.id S.sv sv = none then 4 else if ¬ Pok p then 2 else if gt Ch.id S.ch id = none ∧ 16 ≤ S.ch.length then 5 else 0
@[reducible] def ck0 (p : Pl) : Ck := ⟨p, 2, 0, 0, 0, 0, false⟩
def aAddC (S : Lc) (c : Ch) : Lc := { S with ch := pt Ch.id S.ch c }
def aDelC (S : Lc) (k : List UInt8) : Lc := { S with ch := dl Ch.id S.ch k }
theorem hbl_pt (l : List Ch) (t : Ch) : ∃ M, (hblk t :: l.map hblk).Perm ((pt Ch.id l t).map hblk ++ M) := by
  induction l with
  | nil => exact ⟨[], by simp [pt]⟩
  | cons x l ih =>
    unfold pt
    split
    · refine ⟨[hblk x], ?_⟩
      simp only [List.map_cons, List.cons_append]
      refine List.Perm.cons _ ?_
      exact (List.perm_append_comm (l₁ := [hblk x]) (l₂ := l.map hblk))
    · obtain ⟨M, hM⟩ := ih
      refine ⟨M, ?_⟩
      simp only [List.map_cons, List.cons_append]
      exact (List.Perm.swap ..).trans (hM.cons _)
theorem addc_perm {α : Type} {a b c x : α} {T H H' M : List α} (h : (x :: H).Perm (H' ++ M)) : (x :: a :: b :: c :: (T ++ H)).Perm ((a :: b :: c :: (T ++ H')) ++ M) := by
  have e1 := (mid_perm (a := a) (b := b) (c := c) (x := x) (T := T) (A := []) (D := H)).symm
  rw [List.nil_append, List.nil_append] at e1
  refine e1.trans ?_
  rw [show (a :: b :: c :: (T ++ H')) ++ M = a :: b :: c :: (T ++ (H' ++ M)) from by simp]
  exact (((h.append_left T).cons c).cons b).cons a
theorem Agt.addC {b ms mc : Nat} {oS o' : Obj} {S : Lc} {t : Ch} (h1 : S.sv.length ≤ 16) (h2 : S.ch.length ≤ 16) (h3 : (S.sv.map Sv.id).Nodup) (h4 : (S.ch.map Ch.id).Nodup) (h5 : ∀ s ∈ S.sv, Sl 9 1 s.tv (s.tags.map rs) s.B ∧ s.tags.length ≤ 4) (h6 : ∀ c ∈ S.ch, ¬ c.h.p.kind = 0)
    (hmS : Mp str oS (skv S.node S.sv)) (hf : ¬ (gt Ch.id S.ch t.id = none ∧ 16 ≤ S.ch.length)) (ht : ¬ t.h.p.kind = 0) (hm : Mp str o' (kput (ckv S.node S.ch) t.id (.agg (chv S.node t).toArray))) :
    Agt b (aAddC S t) (LO b S.node S.addr ms mc oS o' (tbl S.sv ++ (pt Ch.id S.ch t).map hblk)) := by
  refine ⟨h1, ?_, h3, pt_nodup h4, h5, fun c hc => ?_, ms, mc, oS, o', hmS, ?_, rfl⟩
  · show (pt Ch.id S.ch t).length ≤ 16
    rw [pt_len]
    split
    · exact h2
    · rename_i hn
      have : gt Ch.id S.ch t.id = none := by simpa using hn
      have : ¬ 16 ≤ S.ch.length := fun h => hf ⟨this, h⟩
      omega
  · rcases pt_mem hc with rfl | hc
    · exact ht
    · exact h6 c hc
  · have := kput_v Ch.id (fun c : Ch => Value.agg (chv S.node c).toArray) S.ch t
    show Mp str o' (ckv S.node (pt Ch.id S.ch t))
    rw [show ckv S.node (pt Ch.id S.ch t) = _ from this.symm]
    exact hm
theorem lookS (n : Int) (l : List Sv) (k : List UInt8) (h : ∀ s ∈ l, s.tv.oneCell' = true) : ∃ c0 c1 c2 c3 c4 c5 c6, (kget (skv n l) k).getD (.agg #[.int .i64 0, str [], str [], .slice none 0 0, .int .i64 0, .int .u64 0, .int .u64 0]) = .agg #[c0, c1, c2, c3, c4, c5, c6] ∧ ([c0, c1, c2, c3, c4, c5, c6].all fun x => x.oneCell') = true ∧ (kget (skv n l) k).isSome = (gt Sv.id l k).isSome := by
  rw [kget_v]
  cases hq : gt Sv.id l k with
  | none => exact ⟨_, _, _, _, _, _, _, rfl, rfl, rfl⟩
  | some x => exact ⟨_, _, _, _, _, _, _, rfl, svc_one (n := n) (h x (gt_mem hq).1), rfl⟩
theorem addc_err {S : Lc} {id sv note : List UInt8} {p : Pl} {b : Nat} {L X} {w w' : World} {K : Int} {Z : Lc → Prop} (e : addCE S id sv note p = K) (hK : ¬ K = 0) (hw : Agt b S L) (hS : St w X L w') : Value.int .i64 K = .int .i64 (addCE S id sv note p) ∧ ∃ S' L', (addCE S id sv note p = 0 → Z S') ∧ (¬ addCE S id sv note p = 0 → S' = S) ∧ Agt b S' L' ∧ St w X L' w' :=
  ⟨by rw [e], S, L, fun h => absurd (e.symm.trans h) hK, fun _ => rfl, hw, hS⟩
theorem pok_kind {p : Pl} (h : Pok p) : ¬ p.kind = 0 := by
  unfold Pok at h
  omega
section
variable {b : Nat} {S : Lc} {L : List (Nat × Obj)} {w : World}
theorem delc_d (k : List UInt8) (h : Agt b S L) (hown : Own w L) :
    Ret Try.prog 13 #[.pointer (some ⟨b, 0, none⟩), str k] w fun u w' => u = .int .i64 (if (gt Ch.id S.ch k).isSome = true then 0 else 4) ∧ ∃ L', Agt b (aDelC S k) L' ∧ St w (L.map Prod.fst) L' w' := by
  have hw := h
  obtain ⟨hs16, hc16, hsu, hcu, htg, hck, ms, mc, oS, oC, hmS, hmC, rfl⟩ := h
  have hS := St.init hown
  generalize hX : (LO b S.node S.addr ms mc oS oC (tbl S.sv ++ S.ch.map hblk)).map Prod.fst = X at hS ⊢
  cases hq : gt Ch.id S.ch k with
  | none =>
    have e : dl Ch.id S.ch k = S.ch := by
      rw [dl_filter hcu, List.filter_eq_self.2]
      intro x hx
      simp only [decide_eq_true_eq]
      rintro rfl
      exact gt_none.1 hq (List.mem_map_of_mem hx)
    generalize hD : tbl S.sv ++ S.ch.map hblk = D at hS hw
    refine Ret.enter Try.func13 Try.ntmps13 rfl rfl ?_
    simp only [argEnv, Nat.reduceAdd]
    refine SatC.seq ?_
    refine SatC.region ?_
    refine SatL.pu (RunV.assign rfl) rfl ?_
    refine SatL.nil (SatE.thenC ?_)
    refine SatC.seq ?_
    refine SatC.seq ?_
    refine SatC.region ?_
    refine SatL.pu (RunV.move rfl) rfl ?_
    refine SatL.op rfl (OpW.enter rfl rfl rfl (rfl) (lnone_any (hS.ownT (A := [(b, C 63 (lcc S.node S.addr ms mc))]) (by repeat constructor))) ?_)
    rintro r1 w1 ⟨rfl, h⟩
    replace hS := St.callN hS h
    refine SatL.nil (SatE.thenC ?_)
    refine SatC.cond rfl (fun h1 => ?_) (fun h1 => ?_)
    · (try simp only [cx, ne_eq] at h1)
      try (exfalso; (first | omega | exact h1 trivial | contradiction | (first | omega | (simp at h1; done))); done)
      all_goals
      refine SatC.seq ?_
      refine SatC.region ?_
      refine SatL.pu (RunV.assign rfl) rfl ?_
      refine SatL.nil (SatE.thenC ?_)
      refine SatC.ret (SatE.then_ret ?_)
      refine SatE.ret1 rfl rfl ?_
      exact ⟨rfl, _, by rw [show aDelC S k = S from by rw [aDelC, e]]; exact hw, hS.sel (by repeat constructor)⟩
    · (try simp only [cx, ne_eq] at h1)
      try (exfalso; (first | omega | exact h1 trivial | contradiction | (first | omega | (simp at h1; done))); done)
      all_goals
      refine SatC.skip (SatE.thenC ?_)
      refine SatC.seq ?_
      refine SatC.seq ?_
      refine SatC.region ?_
      refine SatL.pu (RunV.move rfl) rfl ?_
      first | refine SatL.pu (RunV.nil_ptr rfl) rfl ?_ | refine SatL.pu (RunV.nil_func rfl) rfl ?_ | refine SatL.pu (RunV.nil_yield rfl) rfl ?_
      first | refine SatL.pu (RunV.fieldAddrL rfl rfl rfl) rfl ?_ | refine SatL.pu (RunV.fieldAddr rfl rfl rfl) rfl ?_
      refine SatL.pu (RunV.load1 hS rfl rfl (by repeat constructor) rfl) rfl ?_
      refine SatL.pu (RunV.move rfl) rfl ?_
      refine SatL.pu (RunV.cast (RunV.lookup2 (keyL rfl) hS rfl rfl rfl rfl (by repeat constructor) hmC.is) (by rw [kget_v, hq])) rfl ?_
      refine SatL.pu (RunV.move rfl) rfl ?_
      refine SatL.pu (RunV.extract rfl rfl) rfl ?_
      refine SatL.pu (RunV.extract rfl rfl) rfl ?_
      refine SatL.op rfl (OpW.alloc hS rfl rfl (by repeat constructor) ?_)
      clear hS
      intro b5 w2 _ hS
      refine SatL.op rfl (OpW.store hS rfl rfl (by repeat constructor) (by repeat constructor) (by repeat constructor) rfl rfl ?_)
      clear hS
      intro w3 hS
      refine SatL.pu (RunV.assign rfl) rfl ?_
      refine SatL.nil (SatE.thenC ?_)
      refine SatC.seq ?_
      refine SatC.weak (e' := [(0, _), (1, _), (4, _), (6, _)]) (by repeat constructor) ?_
      refine SatC.region ?_
      refine SatL.pu (RunV.move rfl) rfl ?_
      refine SatL.pu (RunV.not rfl) rfl ?_
      refine SatL.nil (SatE.thenC ?_)
      refine SatC.cond rfl (fun h2 => ?_) (fun h2 => ?_)
      · (try simp only [cx, ne_eq] at h2)
        try (exfalso; (first | omega | exact h2 trivial | contradiction | (first | omega | (simp at h2; done))); done)
        all_goals
        refine SatC.seq ?_
        refine SatC.region ?_
        refine SatL.pu (RunV.assign rfl) rfl ?_
        refine SatL.nil (SatE.thenC ?_)
        refine SatC.ret (SatE.then_ret ?_)
        refine SatE.ret1 rfl rfl ?_
        exact ⟨rfl, _, by rw [show aDelC S k = S from by rw [aDelC, e]]; exact hw, hS.sel (by repeat constructor)⟩
      · (try simp only [cx, ne_eq] at h2)
        try (exfalso; (first | omega | exact h2 trivial | contradiction | (first | omega | (simp at h2; done))); done)
        all_goals
        refine SatC.skip (SatE.thenC ?_)
        refine SatC.seq ?_
        refine SatC.region ?_
        refine SatL.pu (RunV.move rfl) rfl ?_
        first | refine SatL.pu (RunV.nil_ptr rfl) rfl ?_ | refine SatL.pu (RunV.nil_func rfl) rfl ?_ | refine SatL.pu (RunV.nil_yield rfl) rfl ?_
        first | refine SatL.pu (RunV.fieldAddrL rfl rfl rfl) rfl ?_ | refine SatL.pu (RunV.fieldAddr rfl rfl rfl) rfl ?_
        refine SatL.pu (RunV.load1 hS rfl rfl (by repeat constructor) rfl) rfl ?_
        refine SatL.pu (RunV.move rfl) rfl ?_
        refine SatL.op rfl (OpW.delete (keyStr rfl) hS rfl rfl rfl (by assumption) _ (fun o' => by repeat constructor) ?_)
        clear hS
        intro o4 w4 ho4 hS
        refine SatL.nil (SatE.thenC ?_)
        refine SatC.seq ?_
        refine SatC.region ?_
        refine SatL.pu (RunV.assign rfl) rfl ?_
        refine SatL.nil (SatE.thenC ?_)
        refine SatC.ret ?_
        refine SatE.ret1 rfl rfl ?_
        exact ⟨rfl, _, by rw [show aDelC S k = S from by rw [aDelC, e]]; exact hw, hS.sel (by repeat constructor)⟩
  | some x =>
    generalize hD : tbl S.sv ++ S.ch.map hblk = D at hS hw
    refine Ret.enter Try.func13 Try.ntmps13 rfl rfl ?_
    simp only [argEnv, Nat.reduceAdd]
    refine SatC.seq ?_
    refine SatC.region ?_
    refine SatL.pu (RunV.assign rfl) rfl ?_
    refine SatL.nil (SatE.thenC ?_)
    refine SatC.seq ?_
    refine SatC.seq ?_
    refine SatC.region ?_
    refine SatL.pu (RunV.move rfl) rfl ?_
    refine SatL.op rfl (OpW.enter rfl rfl rfl (rfl) (lnone_any (hS.ownT (A := [(b, C 63 (lcc S.node S.addr ms mc))]) (by repeat constructor))) ?_)
    rintro r1 w1 ⟨rfl, h⟩
    replace hS := St.callN hS h
    refine SatL.nil (SatE.thenC ?_)
    refine SatC.cond rfl (fun h1 => ?_) (fun h1 => ?_)
    · (try simp only [cx, ne_eq] at h1)
      try (exfalso; (first | omega | exact h1 trivial | contradiction | (first | omega | (simp at h1; done))); done)
      all_goals
      refine SatC.seq ?_
      refine SatC.region ?_
      refine SatL.pu (RunV.assign rfl) rfl ?_
      refine SatL.nil (SatE.thenC ?_)
      refine SatC.ret (SatE.then_ret ?_)
      refine SatE.ret1 rfl rfl ?_
      subst D
      refine ⟨rfl, LO b S.node S.addr ms mc oS o8 (tbl S.sv ++ (dl Ch.id S.ch k).map hblk), ⟨hs16, Nat.le_trans (dl_sub _ _).length_le hc16, hsu, dl_nodup hcu, htg, fun c hc => hck c ((dl_sub _ _).subset hc), ms, mc, oS, o8, hmS, by rw [show aDelC S k = { S with ch := dl Ch.id S.ch k } from rfl, show ckv S.node (dl Ch.id S.ch k) = _ from (kdel_v Ch.id _ S.ch k).symm]; exact hmp8, rfl⟩, ?_⟩
      exact (hS.sel (R := LO b S.node S.addr ms mc oS o8 (tbl S.sv ++ S.ch.map hblk)) (by repeat constructor)).sub ((((List.Sublist.append_left ((dl_sub S.ch k).map hblk) (tbl S.sv)).cons_cons _).cons_cons _).cons_cons _)
    · (try simp only [cx, ne_eq] at h1)
      try (exfalso; (first | omega | exact h1 trivial | contradiction | (first | omega | (simp at h1; done))); done)
      all_goals
      refine SatC.skip (SatE.thenC ?_)
      refine SatC.seq ?_
      refine SatC.seq ?_
      refine SatC.region ?_
      refine SatL.pu (RunV.move rfl) rfl ?_
      first | refine SatL.pu (RunV.nil_ptr rfl) rfl ?_ | refine SatL.pu (RunV.nil_func rfl) rfl ?_ | refine SatL.pu (RunV.nil_yield rfl) rfl ?_
      first | refine SatL.pu (RunV.fieldAddrL rfl rfl rfl) rfl ?_ | refine SatL.pu (RunV.fieldAddr rfl rfl rfl) rfl ?_
      refine SatL.pu (RunV.load1 hS rfl rfl (by repeat constructor) rfl) rfl ?_
      refine SatL.pu (RunV.move rfl) rfl ?_
      refine SatL.pu (RunV.cast (v' := .tuple #[.agg (chv S.node x).toArray, .bool true]) (RunV.lookup2 (keyL rfl) hS rfl rfl rfl rfl (by repeat constructor) hmC.is) (by rw [kget_v, hq]; rfl)) rfl ?_
      refine SatL.pu (RunV.move rfl) rfl ?_
      refine SatL.pu (RunV.extract rfl rfl) rfl ?_
      refine SatL.pu (RunV.extract rfl rfl) rfl ?_
      refine SatL.op rfl (OpW.alloc hS rfl rfl (by repeat constructor) ?_)
      clear hS
      intro b5 w2 _ hS
      refine SatL.op rfl (OpW.store hS rfl rfl (by repeat constructor) (by repeat constructor) (by repeat constructor) rfl rfl ?_)
      clear hS
      intro w3 hS
      refine SatL.pu (RunV.assign rfl) rfl ?_
      refine SatL.nil (SatE.thenC ?_)
      refine SatC.seq ?_
      refine SatC.weak (e' := [(0, _), (1, _), (4, _), (6, _)]) (by repeat constructor) ?_
      refine SatC.region ?_
      refine SatL.pu (RunV.move rfl) rfl ?_
      refine SatL.pu (RunV.not rfl) rfl ?_
      refine SatL.nil (SatE.thenC ?_)
      refine SatC.cond rfl (fun h2 => ?_) (fun h2 => ?_)
      · (try simp only [cx, ne_eq] at h2)
        try (exfalso; (first | omega | exact h2 trivial | contradiction | (first | omega | (simp at h2; done))); done)
        all_goals
        refine SatC.seq ?_
        refine SatC.region ?_
        refine SatL.pu (RunV.assign rfl) rfl ?_
        refine SatL.nil (SatE.thenC ?_)
        refine SatC.ret (SatE.then_ret ?_)
        refine SatE.ret1 rfl rfl ?_
        subst D
        refine ⟨rfl, LO b S.node S.addr ms mc oS o8 (tbl S.sv ++ (dl Ch.id S.ch k).map hblk), ⟨hs16, Nat.le_trans (dl_sub _ _).length_le hc16, hsu, dl_nodup hcu, htg, fun c hc => hck c ((dl_sub _ _).subset hc), ms, mc, oS, o8, hmS, by rw [show aDelC S k = { S with ch := dl Ch.id S.ch k } from rfl, show ckv S.node (dl Ch.id S.ch k) = _ from (kdel_v Ch.id _ S.ch k).symm]; exact hmp8, rfl⟩, ?_⟩
        exact (hS.sel (R := LO b S.node S.addr ms mc oS o8 (tbl S.sv ++ S.ch.map hblk)) (by repeat constructor)).sub ((((List.Sublist.append_left ((dl_sub S.ch k).map hblk) (tbl S.sv)).cons_cons _).cons_cons _).cons_cons _)
      · (try simp only [cx, ne_eq] at h2)
        try (exfalso; (first | omega | exact h2 trivial | contradiction | (first | omega | (simp at h2; done))); done)
        all_goals
        refine SatC.skip (SatE.thenC ?_)
        refine SatC.seq ?_
        refine SatC.region ?_
        refine SatL.pu (RunV.move rfl) rfl ?_
        first | refine SatL.pu (RunV.nil_ptr rfl) rfl ?_ | refine SatL.pu (RunV.nil_func rfl) rfl ?_ | refine SatL.pu (RunV.nil_yield rfl) rfl ?_
        first | refine SatL.pu (RunV.fieldAddrL rfl rfl rfl) rfl ?_ | refine SatL.pu (RunV.fieldAddr rfl rfl rfl) rfl ?_
        refine SatL.pu (RunV.load1 hS rfl rfl (by repeat constructor) rfl) rfl ?_
        refine SatL.pu (RunV.move rfl) rfl ?_
        refine SatL.op rfl (OpW.deleteM (keyL rfl) hS rfl rfl rfl hmC _ (fun o' => by repeat constructor) ?_)
        clear hS
        intro o8 w4 hmp8 hS
        refine SatL.nil (SatE.thenC ?_)
        refine SatC.seq ?_
        refine SatC.region ?_
        refine SatL.pu (RunV.assign rfl) rfl ?_
        refine SatL.nil (SatE.thenC ?_)
        refine SatC.ret ?_
        refine SatE.ret1 rfl rfl ?_
        subst D
        refine ⟨rfl, LO b S.node S.addr ms mc oS o8 (tbl S.sv ++ (dl Ch.id S.ch k).map hblk), ⟨hs16, Nat.le_trans (dl_sub _ _).length_le hc16, hsu, dl_nodup hcu, htg, fun c hc => hck c ((dl_sub _ _).subset hc), ms, mc, oS, o8, hmS, by rw [show aDelC S k = { S with ch := dl Ch.id S.ch k } from rfl, show ckv S.node (dl Ch.id S.ch k) = _ from (kdel_v Ch.id _ S.ch k).symm]; exact hmp8, rfl⟩, ?_⟩
        exact (hS.sel (R := LO b S.node S.addr ms mc oS o8 (tbl S.sv ++ S.ch.map hblk)) (by repeat constructor)).sub ((((List.Sublist.append_left ((dl_sub S.ch k).map hblk) (tbl S.sv)).cons_cons _).cons_cons _).cons_cons _)
theorem ofT_d (k : List UInt8) (s : Int) (hbd : ∀ c ∈ S.ch, Bd 1000000 c.h) (h : Agt b S L) (hown : Own w L) :
    Ret Try.prog 60 #[.pointer (some ⟨b, 0, none⟩), str k, .func (.func 61) #[] #[], .int .i64 s] w fun u w' => u = .int .i64 (match gt Ch.id S.ch k with | none => 4 | some x => toldA x.h s) ∧ ∃ L', Agt b (aHup S k (fun c => toldC c s)) L' ∧ St w (L.map Prod.fst) L' w' := by
  have hw := h
  obtain ⟨hs16, hc16, hsu, hcu, htg, hck, ms, mc, oS, oC, hmS, hmC, rfl⟩ := h
  have hS := St.init hown
  generalize hX : (LO b S.node S.addr ms mc oS oC (tbl S.sv ++ S.ch.map hblk)).map Prod.fst = X at hS ⊢
  cases hq : gt Ch.id S.ch k with
  | none =>
    have e : hup k (fun c => toldC c s) S.ch = S.ch := by
      unfold hup
      conv => rhs; rw [← List.map_id S.ch]
      refine List.map_congr_left fun c hc => ?_
      rw [if_neg (fun e => gt_none.1 hq (by rw [← e]; exact List.mem_map_of_mem hc))]
      rfl
    generalize hD : tbl S.sv ++ S.ch.map hblk = D at hS hw
    refine Ret.enter Try.func60 Try.ntmps60 rfl rfl ?_
    simp only [argEnv, Nat.reduceAdd]
    refine SatC.seq ?_
    refine SatC.region ?_
    refine SatL.pu (RunV.assign rfl) rfl ?_
    refine SatL.nil (SatE.thenC ?_)
    refine SatC.seq ?_
    refine SatC.seq ?_
    refine SatC.region ?_
    refine SatL.pu (RunV.move rfl) rfl ?_
    refine SatL.op rfl (OpW.enter rfl rfl rfl (rfl) (lnone_any (hS.ownT (A := [(b, C 63 (lcc S.node S.addr ms mc))]) (by repeat constructor))) ?_)
    rintro r1 w1 ⟨rfl, h⟩
    replace hS := St.callN hS h
    refine SatL.nil (SatE.thenC ?_)
    refine SatC.cond rfl (fun h1 => ?_) (fun h1 => ?_)
    · (try simp only [cx, ne_eq] at h1)
      try (exfalso; (first | omega | exact h1 trivial | contradiction | (first | omega | (simp at h1; done))); done)
      all_goals
      refine SatC.seq ?_
      refine SatC.region ?_
      refine SatL.pu (RunV.assign rfl) rfl ?_
      refine SatL.nil (SatE.thenC ?_)
      refine SatC.ret (SatE.then_ret ?_)
      refine SatE.ret1 rfl rfl ?_
      exact ⟨rfl, _, by rw [show aHup S k (fun c => toldC c s) = S from by rw [aHup, e]]; exact hw, hS.sel (by repeat constructor)⟩
    · (try simp only [cx, ne_eq] at h1)
      try (exfalso; (first | omega | exact h1 trivial | contradiction | (first | omega | (simp at h1; done))); done)
      all_goals
      refine SatC.skip (SatE.thenC ?_)
      refine SatC.seq ?_
      refine SatC.region ?_
      refine SatL.pu (RunV.move rfl) rfl ?_
      first | refine SatL.pu (RunV.nil_ptr rfl) rfl ?_ | refine SatL.pu (RunV.nil_func rfl) rfl ?_ | refine SatL.pu (RunV.nil_yield rfl) rfl ?_
      first | refine SatL.pu (RunV.fieldAddrL rfl rfl rfl) rfl ?_ | refine SatL.pu (RunV.fieldAddr rfl rfl rfl) rfl ?_
      refine SatL.pu (RunV.load1 hS rfl rfl (by repeat constructor) rfl) rfl ?_
      refine SatL.pu (RunV.move rfl) rfl ?_
      refine SatL.pu (RunV.cast (RunV.lookup2 (keyL rfl) hS rfl rfl rfl rfl (by repeat constructor) hmC.is) (by rw [kget_v, hq])) rfl ?_
      refine SatL.pu (RunV.move rfl) rfl ?_
      refine SatL.pu (RunV.extract rfl rfl) rfl ?_
      refine SatL.pu (RunV.extract rfl rfl) rfl ?_
      refine SatL.op rfl (OpW.alloc hS rfl rfl (by repeat constructor) ?_)
      clear hS
      intro b9 w2 _ hS
      refine SatL.op rfl (OpW.store hS rfl rfl (by repeat constructor) (by repeat constructor) (by repeat constructor) rfl rfl ?_)
      clear hS
      intro w3 hS
      refine SatL.pu (RunV.assign rfl) rfl ?_
      refine SatL.nil (SatE.thenC ?_)
      refine SatC.seq ?_
      refine SatC.seq ?_
      refine SatC.weak (e' := [(2, _), (3, _), (8, _), (9, _), (10, _)]) (by repeat constructor) ?_
      refine SatC.region ?_
      refine SatL.pu (RunV.move rfl) rfl ?_
      refine SatL.pu (RunV.not rfl) rfl ?_
      refine SatL.nil (SatE.thenC ?_)
      refine SatC.cond rfl (fun h2 => ?_) (fun h2 => ?_)
      · (try simp only [cx, ne_eq] at h2)
        try (exfalso; (first | omega | exact h2 trivial | contradiction | (first | omega | (simp at h2; done))); done)
        all_goals
        refine SatC.seq ?_
        refine SatC.region ?_
        refine SatL.pu (RunV.assign rfl) rfl ?_
        refine SatL.nil (SatE.thenC ?_)
        refine SatC.ret (SatE.then_ret ?_)
        refine SatE.ret1 rfl rfl ?_
        exact ⟨rfl, _, by rw [show aHup S k (fun c => toldC c s) = S from by rw [aHup, e]]; exact hw, hS.sel (by repeat constructor)⟩
      · (try simp only [cx, ne_eq] at h2)
        try (exfalso; (first | omega | exact h2 trivial | contradiction | (first | omega | (simp at h2; done))); done)
        all_goals
        refine SatC.skip (SatE.thenC ?_)
        refine SatC.seq ?_
        refine SatC.region ?_
        refine SatL.pu (RunV.move rfl) rfl ?_
        first | refine SatL.pu (RunV.fieldAddrL rfl rfl rfl) rfl ?_ | refine SatL.pu (RunV.fieldAddr rfl rfl rfl) rfl ?_
        refine SatL.pu (RunV.load1 hS rfl rfl (by repeat constructor) rfl) rfl ?_
        refine SatL.pu (RunV.move rfl) rfl ?_
        -- STOP -- CALL t24
        done
  | some x =>
    obtain ⟨A, D, hl, hxk, hA, hDk⟩ := gt_split hq hcu
    have hup' := hup_split (g := (fun c => toldC c s)) hxk hA hDk
    rw [← hl] at hup'
    have hkx := hck x (by rw [hl]; simp)
    have hbx := hbd x (by rw [hl]; simp)
    have hS2 : St w X (hblk x :: LO b S.node S.addr ms mc oS oC (tbl S.sv ++ (A.map hblk ++ D.map hblk))) w := by
      refine hS.perm ?_
      rw [hl, List.map_append, List.map_cons]
      exact mid_perm
    clear hS
    have hS := hS2
    clear hS2
    generalize hE : tbl S.sv ++ (A.map hblk ++ D.map hblk) = E at hS
    unfold hblk at hS
    refine Ret.enter Try.func60 Try.ntmps60 rfl rfl ?_
    simp only [argEnv, Nat.reduceAdd]
    refine SatC.seq ?_
    refine SatC.region ?_
    refine SatL.pu (RunV.assign rfl) rfl ?_
    refine SatL.nil (SatE.thenC ?_)
    refine SatC.seq ?_
    refine SatC.seq ?_
    refine SatC.region ?_
    refine SatL.pu (RunV.move rfl) rfl ?_
    refine SatL.op rfl (OpW.enter rfl rfl rfl (rfl) (lnone_any (hS.ownT (A := [(b, C 63 (lcc S.node S.addr ms mc))]) (by repeat constructor))) ?_)
    rintro r1 w1 ⟨rfl, h⟩
    replace hS := St.callN hS h
    refine SatL.nil (SatE.thenC ?_)
    refine SatC.cond rfl (fun h1 => ?_) (fun h1 => ?_)
    · (try simp only [cx, ne_eq] at h1)
      try (exfalso; (first | omega | exact h1 trivial | contradiction | (first | omega | (simp at h1; done))); done)
      all_goals
      refine SatC.seq ?_
      refine SatC.region ?_
      refine SatL.pu (RunV.assign rfl) rfl ?_
      refine SatL.nil (SatE.thenC ?_)
      refine SatC.ret (SatE.then_ret ?_)
      refine SatE.ret1 rfl rfl ?_
      refine ⟨rfl, _, Agt.hup (ms := ms) (mc := mc) hs16 hc16 hsu hcu htg hck (by intro c; exact toldC_p c _) hmS hmC, ?_⟩
      rw [hup', List.map_append, List.map_cons]
      subst E
      exact (hS.sel (R := hblk { x with h := (fun c => toldC c s) x.h } :: LO b S.node S.addr ms mc oS oC (tbl S.sv ++ (A.map hblk ++ D.map hblk))) (by repeat constructor)).perm mid_perm.symm
    · (try simp only [cx, ne_eq] at h1)
      try (exfalso; (first | omega | exact h1 trivial | contradiction | (first | omega | (simp at h1; done))); done)
      all_goals
      refine SatC.skip (SatE.thenC ?_)
      refine SatC.seq ?_
      refine SatC.region ?_
      refine SatL.pu (RunV.move rfl) rfl ?_
      first | refine SatL.pu (RunV.nil_ptr rfl) rfl ?_ | refine SatL.pu (RunV.nil_func rfl) rfl ?_ | refine SatL.pu (RunV.nil_yield rfl) rfl ?_
      first | refine SatL.pu (RunV.fieldAddrL rfl rfl rfl) rfl ?_ | refine SatL.pu (RunV.fieldAddr rfl rfl rfl) rfl ?_
      refine SatL.pu (RunV.load1 hS rfl rfl (by repeat constructor) rfl) rfl ?_
      refine SatL.pu (RunV.move rfl) rfl ?_
      refine SatL.pu (RunV.cast (v' := .tuple #[.agg (chv S.node x).toArray, .bool true]) (RunV.lookup2 (keyL rfl) hS rfl rfl rfl rfl (by repeat constructor) hmC.is) (by rw [kget_v, hq]; rfl)) rfl ?_
      refine SatL.pu (RunV.move rfl) rfl ?_
      refine SatL.pu (RunV.extract rfl rfl) rfl ?_
      refine SatL.pu (RunV.extract rfl rfl) rfl ?_
      refine SatL.op rfl (OpW.alloc hS rfl rfl (by repeat constructor) ?_)
      clear hS
      intro b9 w2 _ hS
      refine SatL.op rfl (OpW.store hS rfl rfl (by repeat constructor) (by repeat constructor) (by repeat constructor) rfl rfl ?_)
      clear hS
      intro w3 hS
      refine SatL.pu (RunV.assign rfl) rfl ?_
      refine SatL.nil (SatE.thenC ?_)
      refine SatC.seq ?_
      refine SatC.seq ?_
      refine SatC.weak (e' := [(2, _), (3, _), (8, _), (9, _), (10, _)]) (by repeat constructor) ?_
      refine SatC.region ?_
      refine SatL.pu (RunV.move rfl) rfl ?_
      refine SatL.pu (RunV.not rfl) rfl ?_
      refine SatL.nil (SatE.thenC ?_)
      refine SatC.cond rfl (fun h2 => ?_) (fun h2 => ?_)
      · (try simp only [cx, ne_eq] at h2)
        try (exfalso; (first | omega | exact h2 trivial | contradiction | (first | omega | (simp at h2; done))); done)
        all_goals
        refine SatC.seq ?_
        refine SatC.region ?_
        refine SatL.pu (RunV.assign rfl) rfl ?_
        refine SatL.nil (SatE.thenC ?_)
        refine SatC.ret (SatE.then_ret ?_)
        refine SatE.ret1 rfl rfl ?_
        refine ⟨rfl, _, Agt.hup (ms := ms) (mc := mc) hs16 hc16 hsu hcu htg hck (by intro c; exact toldC_p c _) hmS hmC, ?_⟩
        rw [hup', List.map_append, List.map_cons]
        subst E
        exact (hS.sel (R := hblk { x with h := (fun c => toldC c s) x.h } :: LO b S.node S.addr ms mc oS oC (tbl S.sv ++ (A.map hblk ++ D.map hblk))) (by repeat constructor)).perm mid_perm.symm
      · (try simp only [cx, ne_eq] at h2)
        try (exfalso; (first | omega | exact h2 trivial | contradiction | (first | omega | (simp at h2; done))); done)
        all_goals
        refine SatC.skip (SatE.thenC ?_)
        refine SatC.seq ?_
        refine SatC.region ?_
        refine SatL.pu (RunV.move rfl) rfl ?_
        first | refine SatL.pu (RunV.fieldAddrL rfl rfl rfl) rfl ?_ | refine SatL.pu (RunV.fieldAddr rfl rfl rfl) rfl ?_
        refine SatL.pu (RunV.load1 hS rfl rfl (by repeat constructor) rfl) rfl ?_
        refine SatL.pu (RunV.move rfl) rfl ?_
        refine SatL.op rfl (OpW.enter rfl rfl rfl (rfl) (told_any s rfl (hS.ownOf (by repeat constructor)) hkx hbx) ?_)
        rintro r4 w4 ⟨rfl, h⟩
        replace hS := hS.callR (A := [(x.hb, C 108 (hc (fv x.h) x.h))]) (by repeat constructor) h
        rw [fv_p (toldC_p x.h s).symm] at hS
        refine SatL.pu (RunV.assign rfl) rfl ?_
        refine SatL.nil (SatE.thenC ?_)
        refine SatC.ret ?_
        refine SatE.ret1 rfl rfl ?_
        refine ⟨rfl, _, Agt.hup (ms := ms) (mc := mc) hs16 hc16 hsu hcu htg hck (by intro c; exact toldC_p c _) hmS hmC, ?_⟩
        rw [hup', List.map_append, List.map_cons]
        subst E
        exact (hS.sel (R := hblk { x with h := (fun c => toldC c s) x.h } :: LO b S.node S.addr ms mc oS oC (tbl S.sv ++ (A.map hblk ++ D.map hblk))) (by repeat constructor)).perm mid_perm.symm
theorem mtn_any {c : Ck} {b : Nat} {f : Value} {w : World} (on : Bool) (hown : Own w [(b, C 108 (hc f c))]) (hk : ¬ c.p.kind = 0) : Ret Try.prog 63 #[.pointer (some ⟨b, 0, none⟩), .bool on] w fun v w' => v = .int .i64 0 ∧ St w [b] [(b, C 108 (hc f { c with maint := on }))] w' := by
  have hS := St.init hown
  simp only [List.map_cons, List.map_nil] at hS
  refine Ret.enter Try.func63 Try.ntmps63 rfl rfl ?_
  simp only [argEnv, Nat.reduceAdd]
  refine SatC.seq ?_
  refine SatC.region ?_
  refine SatL.pu (RunV.assign rfl) rfl ?_
  refine SatL.nil (SatE.thenC ?_)
  refine SatC.seq ?_
  refine SatC.region ?_
  refine SatL.pu (RunV.move rfl) rfl ?_
  refine SatL.pu (RunV.move rfl) rfl ?_
  refine SatL.op rfl (OpW.enter rfl rfl rfl (rfl) (maint_any on (hS.ownOf (by repeat constructor)) hk) ?_)
  rintro r1 w1 h
  replace hS := hS.callR (A := [(b, C 108 (hc f c))]) (by repeat constructor) h
  refine SatL.nil (SatE.thenC ?_)
  refine SatC.seq ?_
  refine SatC.region ?_
  refine SatL.pu (RunV.assign rfl) rfl ?_
  refine SatL.nil (SatE.thenC ?_)
  refine SatC.ret ?_
  refine SatE.ret1 rfl rfl ?_
  exact ⟨rfl, hS⟩
theorem ofM_d (k : List UInt8) (on : Bool) (hbd : ∀ c ∈ S.ch, Bd 1000000 c.h) (h : Agt b S L) (hown : Own w L) :
    Ret Try.prog 62 #[.pointer (some ⟨b, 0, none⟩), str k, .func (.func 63) #[] #[], .bool on] w fun u w' => u = .int .i64 (match gt Ch.id S.ch k with | none => 4 | some _ => 0) ∧ ∃ L', Agt b (aHup S k (fun c => { c with maint := on })) L' ∧ St w (L.map Prod.fst) L' w' := by
  have hw := h
  obtain ⟨hs16, hc16, hsu, hcu, htg, hck, ms, mc, oS, oC, hmS, hmC, rfl⟩ := h
  have hS := St.init hown
  generalize hX : (LO b S.node S.addr ms mc oS oC (tbl S.sv ++ S.ch.map hblk)).map Prod.fst = X at hS ⊢
  cases hq : gt Ch.id S.ch k with
  | none =>
    have e : hup k (fun c => { c with maint := on }) S.ch = S.ch := by
      unfold hup
      conv => rhs; rw [← List.map_id S.ch]
      refine List.map_congr_left fun c hc => ?_
      rw [if_neg (fun e => gt_none.1 hq (by rw [← e]; exact List.mem_map_of_mem hc))]
      rfl
    generalize hD : tbl S.sv ++ S.ch.map hblk = D at hS hw
    refine Ret.enter Try.func62 Try.ntmps62 rfl rfl ?_
    simp only [argEnv, Nat.reduceAdd]
    refine SatC.seq ?_
    refine SatC.region ?_
    refine SatL.pu (RunV.assign rfl) rfl ?_
    refine SatL.nil (SatE.thenC ?_)
    refine SatC.seq ?_
    refine SatC.seq ?_
    refine SatC.region ?_
    refine SatL.pu (RunV.move rfl) rfl ?_
    refine SatL.op rfl (OpW.enter rfl rfl rfl (rfl) (lnone_any (hS.ownT (A := [(b, C 63 (lcc S.node S.addr ms mc))]) (by repeat constructor))) ?_)
    rintro r1 w1 ⟨rfl, h⟩
    replace hS := St.callN hS h
    refine SatL.nil (SatE.thenC ?_)
    refine SatC.cond rfl (fun h1 => ?_) (fun h1 => ?_)
    · (try simp only [cx, ne_eq] at h1)
      try (exfalso; (first | omega | exact h1 trivial | contradiction | (first | omega | (simp at h1; done))); done)
      all_goals
      refine SatC.seq ?_
      refine SatC.region ?_
      refine SatL.pu (RunV.assign rfl) rfl ?_
      refine SatL.nil (SatE.thenC ?_)
      refine SatC.ret (SatE.then_ret ?_)
      refine SatE.ret1 rfl rfl ?_
      exact ⟨rfl, _, by rw [show aHup S k (fun c => { c with maint := on }) = S from by rw [aHup, e]]; exact hw, hS.sel (by repeat constructor)⟩
    · (try simp only [cx, ne_eq] at h1)
      try (exfalso; (first | omega | exact h1 trivial | contradiction | (first | omega | (simp at h1; done))); done)
      all_goals
      refine SatC.skip (SatE.thenC ?_)
      refine SatC.seq ?_
      refine SatC.region ?_
      refine SatL.pu (RunV.move rfl) rfl ?_
      first | refine SatL.pu (RunV.nil_ptr rfl) rfl ?_ | refine SatL.pu (RunV.nil_func rfl) rfl ?_ | refine SatL.pu (RunV.nil_yield rfl) rfl ?_
      first | refine SatL.pu (RunV.fieldAddrL rfl rfl rfl) rfl ?_ | refine SatL.pu (RunV.fieldAddr rfl rfl rfl) rfl ?_
      refine SatL.pu (RunV.load1 hS rfl rfl (by repeat constructor) rfl) rfl ?_
      refine SatL.pu (RunV.move rfl) rfl ?_
      refine SatL.pu (RunV.cast (RunV.lookup2 (keyL rfl) hS rfl rfl rfl rfl (by repeat constructor) hmC.is) (by rw [kget_v, hq])) rfl ?_
      refine SatL.pu (RunV.move rfl) rfl ?_
      refine SatL.pu (RunV.extract rfl rfl) rfl ?_
      refine SatL.pu (RunV.extract rfl rfl) rfl ?_
      refine SatL.op rfl (OpW.alloc hS rfl rfl (by repeat constructor) ?_)
      clear hS
      intro b9 w2 _ hS
      refine SatL.op rfl (OpW.store hS rfl rfl (by repeat constructor) (by repeat constructor) (by repeat constructor) rfl rfl ?_)
      clear hS
      intro w3 hS
      refine SatL.pu (RunV.assign rfl) rfl ?_
      refine SatL.nil (SatE.thenC ?_)
      refine SatC.seq ?_
      refine SatC.seq ?_
      refine SatC.weak (e' := [(2, _), (3, _), (8, _), (9, _), (10, _)]) (by repeat constructor) ?_
      refine SatC.region ?_
      refine SatL.pu (RunV.move rfl) rfl ?_
      refine SatL.pu (RunV.not rfl) rfl ?_
      refine SatL.nil (SatE.thenC ?_)
      refine SatC.cond rfl (fun h2 => ?_) (fun h2 => ?_)
      · (try simp only [cx, ne_eq] at h2)
        try (exfalso; (first | omega | exact h2 trivial | contradiction | (first | omega | (simp at h2; done))); done)
        all_goals
        refine SatC.seq ?_
        refine SatC.region ?_
        refine SatL.pu (RunV.assign rfl) rfl ?_
        refine SatL.nil (SatE.thenC ?_)
        refine SatC.ret (SatE.then_ret ?_)
        refine SatE.ret1 rfl rfl ?_
        exact ⟨rfl, _, by rw [show aHup S k (fun c => { c with maint := on }) = S from by rw [aHup, e]]; exact hw, hS.sel (by repeat constructor)⟩
      · (try simp only [cx, ne_eq] at h2)
        try (exfalso; (first | omega | exact h2 trivial | contradiction | (first | omega | (simp at h2; done))); done)
        all_goals
        refine SatC.skip (SatE.thenC ?_)
        refine SatC.seq ?_
        refine SatC.region ?_
        refine SatL.pu (RunV.move rfl) rfl ?_
        first | refine SatL.pu (RunV.fieldAddrL rfl rfl rfl) rfl ?_ | refine SatL.pu (RunV.fieldAddr rfl rfl rfl) rfl ?_
        refine SatL.pu (RunV.load1 hS rfl rfl (by repeat constructor) rfl) rfl ?_
        refine SatL.pu (RunV.move rfl) rfl ?_
        -- STOP -- CALL t24
        done
  | some x =>
    obtain ⟨A, D, hl, hxk, hA, hDk⟩ := gt_split hq hcu
    have hup' := hup_split (g := (fun c => { c with maint := on })) hxk hA hDk
    rw [← hl] at hup'
    have hkx := hck x (by rw [hl]; simp)
    have hbx := hbd x (by rw [hl]; simp)
    have hS2 : St w X (hblk x :: LO b S.node S.addr ms mc oS oC (tbl S.sv ++ (A.map hblk ++ D.map hblk))) w := by
      refine hS.perm ?_
      rw [hl, List.map_append, List.map_cons]
      exact mid_perm
    clear hS
    have hS := hS2
    clear hS2
    generalize hE : tbl S.sv ++ (A.map hblk ++ D.map hblk) = E at hS
    unfold hblk at hS
    refine Ret.enter Try.func62 Try.ntmps62 rfl rfl ?_
    simp only [argEnv, Nat.reduceAdd]
    refine SatC.seq ?_
    refine SatC.region ?_
    refine SatL.pu (RunV.assign rfl) rfl ?_
    refine SatL.nil (SatE.thenC ?_)
    refine SatC.seq ?_
    refine SatC.seq ?_
    refine SatC.region ?_
    refine SatL.pu (RunV.move rfl) rfl ?_
    refine SatL.op rfl (OpW.enter rfl rfl rfl (rfl) (lnone_any (hS.ownT (A := [(b, C 63 (lcc S.node S.addr ms mc))]) (by repeat constructor))) ?_)
    rintro r1 w1 ⟨rfl, h⟩
    replace hS := St.callN hS h
    refine SatL.nil (SatE.thenC ?_)
    refine SatC.cond rfl (fun h1 => ?_) (fun h1 => ?_)
    · (try simp only [cx, ne_eq] at h1)
      try (exfalso; (first | omega | exact h1 trivial | contradiction | (first | omega | (simp at h1; done))); done)
      all_goals
      refine SatC.seq ?_
      refine SatC.region ?_
      refine SatL.pu (RunV.assign rfl) rfl ?_
      refine SatL.nil (SatE.thenC ?_)
      refine SatC.ret (SatE.then_ret ?_)
      refine SatE.ret1 rfl rfl ?_
      refine ⟨rfl, _, Agt.hup (ms := ms) (mc := mc) hs16 hc16 hsu hcu htg hck (by intro c; rfl) hmS hmC, ?_⟩
      rw [hup', List.map_append, List.map_cons]
      subst E
      exact (hS.sel (R := hblk { x with h := (fun c => { c with maint := on }) x.h } :: LO b S.node S.addr ms mc oS oC (tbl S.sv ++ (A.map hblk ++ D.map hblk))) (by repeat constructor)).perm mid_perm.symm
    · (try simp only [cx, ne_eq] at h1)
      try (exfalso; (first | omega | exact h1 trivial | contradiction | (first | omega | (simp at h1; done))); done)
      all_goals
      refine SatC.skip (SatE.thenC ?_)
      refine SatC.seq ?_
      refine SatC.region ?_
      refine SatL.pu (RunV.move rfl) rfl ?_
      first | refine SatL.pu (RunV.nil_ptr rfl) rfl ?_ | refine SatL.pu (RunV.nil_func rfl) rfl ?_ | refine SatL.pu (RunV.nil_yield rfl) rfl ?_
      first | refine SatL.pu (RunV.fieldAddrL rfl rfl rfl) rfl ?_ | refine SatL.pu (RunV.fieldAddr rfl rfl rfl) rfl ?_
      refine SatL.pu (RunV.load1 hS rfl rfl (by repeat constructor) rfl) rfl ?_
      refine SatL.pu (RunV.move rfl) rfl ?_
      refine SatL.pu (RunV.cast (v' := .tuple #[.agg (chv S.node x).toArray, .bool true]) (RunV.lookup2 (keyL rfl) hS rfl rfl rfl rfl (by repeat constructor) hmC.is) (by rw [kget_v, hq]; rfl)) rfl ?_
      refine SatL.pu (RunV.move rfl) rfl ?_
      refine SatL.pu (RunV.extract rfl rfl) rfl ?_
      refine SatL.pu (RunV.extract rfl rfl) rfl ?_
      refine SatL.op rfl (OpW.alloc hS rfl rfl (by repeat constructor) ?_)
      clear hS
      intro b9 w2 _ hS
      refine SatL.op rfl (OpW.store hS rfl rfl (by repeat constructor) (by repeat constructor) (by repeat constructor) rfl rfl ?_)
      clear hS
      intro w3 hS
      refine SatL.pu (RunV.assign rfl) rfl ?_
      refine SatL.nil (SatE.thenC ?_)
      refine SatC.seq ?_
      refine SatC.seq ?_
      refine SatC.weak (e' := [(2, _), (3, _), (8, _), (9, _), (10, _)]) (by repeat constructor) ?_
      refine SatC.region ?_
      refine SatL.pu (RunV.move rfl) rfl ?_
      refine SatL.pu (RunV.not rfl) rfl ?_
      refine SatL.nil (SatE.thenC ?_)
      refine SatC.cond rfl (fun h2 => ?_) (fun h2 => ?_)
      · (try simp only [cx, ne_eq] at h2)
        try (exfalso; (first | omega | exact h2 trivial | contradiction | (first | omega | (simp at h2; done))); done)
        all_goals
        refine SatC.seq ?_
        refine SatC.region ?_
        refine SatL.pu (RunV.assign rfl) rfl ?_
        refine SatL.nil (SatE.thenC ?_)
        refine SatC.ret (SatE.then_ret ?_)
        refine SatE.ret1 rfl rfl ?_
        refine ⟨rfl, _, Agt.hup (ms := ms) (mc := mc) hs16 hc16 hsu hcu htg hck (by intro c; rfl) hmS hmC, ?_⟩
        rw [hup', List.map_append, List.map_cons]
        subst E
        exact (hS.sel (R := hblk { x with h := (fun c => { c with maint := on }) x.h } :: LO b S.node S.addr ms mc oS oC (tbl S.sv ++ (A.map hblk ++ D.map hblk))) (by repeat constructor)).perm mid_perm.symm
      · (try simp only [cx, ne_eq] at h2)
        try (exfalso; (first | omega | exact h2 trivial | contradiction | (first | omega | (simp at h2; done))); done)
        all_goals
        refine SatC.skip (SatE.thenC ?_)
        refine SatC.seq ?_
        refine SatC.region ?_
        refine SatL.pu (RunV.move rfl) rfl ?_
        first | refine SatL.pu (RunV.fieldAddrL rfl rfl rfl) rfl ?_ | refine SatL.pu (RunV.fieldAddr rfl rfl rfl) rfl ?_
        refine SatL.pu (RunV.load1 hS rfl rfl (by repeat constructor) rfl) rfl ?_
        refine SatL.pu (RunV.move rfl) rfl ?_
        refine SatL.op rfl (OpW.enter rfl rfl rfl (rfl) (mtn_any on (hS.ownOf (by repeat constructor)) hkx) ?_)
        rintro r4 w4 ⟨rfl, h⟩
        replace hS := hS.callR (A := [(x.hb, C 108 (hc (fv x.h) x.h))]) (by repeat constructor) h
        refine SatL.pu (RunV.assign rfl) rfl ?_
        refine SatL.nil (SatE.thenC ?_)
        refine SatC.ret ?_
        refine SatE.ret1 rfl rfl ?_
        refine ⟨rfl, _, Agt.hup (ms := ms) (mc := mc) hs16 hc16 hsu hcu htg hck (by intro c; rfl) hmS hmC, ?_⟩
        rw [hup', List.map_append, List.map_cons]
        subst E
        exact (hS.sel (R := hblk { x with h := (fun c => { c with maint := on }) x.h } :: LO b S.node S.addr ms mc oS oC (tbl S.sv ++ (A.map hblk ++ D.map hblk))) (by repeat constructor)).perm mid_perm.symm
theorem addc_yes (cn st mk ix : Int) (id sv note : List UInt8) (p : Pl) (hp : Pok p) (hnl : note.length ≤ 9223372036854775807) (h : Agt b S L) (hown : Own w L) :
    Ret Try.prog 16 #[.pointer (some ⟨b, 0, none⟩), .agg #[.int .i64 cn, str id, str sv, str note, .int .i64 st, .int .u64 mk, .int .u64 ix], .agg (plc p).toArray] w fun u w' => u = .int .i64 (addCE S id sv note p) ∧ ∃ S' L', (addCE S id sv note p = 0 → ∃ hb, S' = aAddC S ⟨id, sv, note, hb, ck0 p⟩) ∧ (¬ addCE S id sv note p = 0 → S' = S) ∧ Agt b S' L' ∧ St w (L.map Prod.fst) L' w' := by
  have hw := h
  obtain ⟨hs16, hc16, hsu, hcu, htg, hck, ms, mc, oS, oC, hmS, hmC, rfl⟩ := h
  have hS := St.init hown
  generalize hX : (LO b S.node S.addr ms mc oS oC (tbl S.sv ++ S.ch.map hblk)).map Prod.fst = X at hS ⊢
  generalize hD : tbl S.sv ++ S.ch.map hblk = D at hS hw
  obtain ⟨z0, z1, z2, z3, z4, z5, z6, hz, hz1, hzs⟩ := lookS S.node S.sv sv fun s hs => (htg s hs).1.one
  refine Ret.enter Try.func16 Try.ntmps16 rfl rfl ?_
  simp only [argEnv, Nat.reduceAdd]
  refine SatC.seq ?_
  refine SatC.region ?_
  refine SatL.op rfl (OpW.box hS rfl rfl (by repeat constructor) ?_)
  clear hS
  intro b4 w1 _ hS
  refine SatL.op rfl (OpW.box hS rfl rfl (by repeat constructor) ?_)
  clear hS
  intro b5 w2 _ hS
  refine SatL.pu (RunV.assign rfl) rfl ?_
  refine SatL.nil (SatE.thenC ?_)
  refine SatC.seq ?_
  refine SatC.seq ?_
  refine SatC.region ?_
  refine SatL.pu (RunV.move rfl) rfl ?_
  refine SatL.op rfl (OpW.enter rfl rfl rfl (rfl) (lnone_any (hS.ownT (A := [(b, C 63 (lcc S.node S.addr ms mc))]) (by repeat constructor))) ?_)
  rintro r3 w3 ⟨rfl, h⟩
  replace hS := St.callN hS h
  refine SatL.nil (SatE.thenC ?_)
  refine SatC.cond rfl (fun h1 => ?_) (fun h1 => ?_)
  · (try simp only [cx, ne_eq] at h1)
    try (exfalso; (first | omega | exact h1 trivial | contradiction | (first | omega | (simp at h1; done))); done)
    all_goals
    refine SatC.seq ?_
    refine SatC.region ?_
    refine SatL.pu (RunV.assign rfl) rfl ?_
    refine SatL.nil (SatE.thenC ?_)
    refine SatC.ret (SatE.then_ret ?_)
    refine SatE.ret1 rfl rfl ?_
    first
    | exact addc_err (by unfold addCE; (repeat' split) <;> first | rfl | (exfalso; simp_all; done) | (exfalso; simp_all; omega) | (exfalso; omega)) (by decide) hw (hS.sel (by repeat constructor))
    | (have e : addCE S id sv note p = 0 := (by unfold addCE; (repeat' split) <;> first | rfl | (exfalso; simp_all; done) | (exfalso; simp_all; omega) | (exfalso; omega))
       refine ⟨by rw [e], _, _, fun _ => ⟨hb, rfl⟩, fun h0 => absurd e h0, Agt.addC (ms := ms) (mc := mc) (t := ⟨id, sv, note, hb, ck0 p⟩) hs16 hc16 hsu hcu htg hck hmS (by assumption) (pok_kind hp) hmp8, ?_⟩
       have hS2 := hS.sel (R := hblk ⟨id, sv, note, hb, ck0 p⟩ :: LO b S.node S.addr ms mc oS o8 D) (by repeat constructor)
       obtain ⟨M, hM⟩ := hbl_pt S.ch ⟨id, sv, note, hb, ck0 p⟩
       refine (hS2.perm (L' := LO b S.node S.addr ms mc oS o8 (tbl S.sv ++ (pt Ch.id S.ch ⟨id, sv, note, hb, ck0 p⟩).map hblk) ++ M) ?_).sub (List.sublist_append_left _ _)
       subst D
       exact addc_perm hM)
  · (try simp only [cx, ne_eq] at h1)
    try (exfalso; (first | omega | exact h1 trivial | contradiction | (first | omega | (simp at h1; done))); done)
    all_goals
    refine SatC.skip (SatE.thenC ?_)
    refine SatC.seq ?_
    refine SatC.drawnT 13 hS (hS) (by kernel_rfl) ?_
    clear hS
    intro w4 hh hS hD
    refine SatD.tk 0 rfl hD (fun _ hw => RunV.move rfl) ?_
    first | refine SatD.tk 1 rfl hD (fun _ hw => RunV.nil_ptr rfl) ?_ | refine SatD.tk 1 rfl hD (fun _ hw => RunV.nil_func rfl) ?_ | refine SatD.tk 1 rfl hD (fun _ hw => RunV.nil_yield rfl) ?_
    first | refine SatD.tk 2 rfl hD (fun _ hw => RunV.fieldAddrL rfl rfl rfl) ?_ | refine SatD.tk 2 rfl hD (fun _ hw => RunV.fieldAddr rfl rfl rfl) ?_
    refine SatD.tk 3 rfl hD (fun _ hw => RunV.load1 hw rfl rfl (by repeat constructor) rfl) ?_
    first | refine SatD.tk 4 rfl hD (fun _ hw => RunV.fieldAddrL rfl rfl rfl) ?_ | refine SatD.tk 4 rfl hD (fun _ hw => RunV.fieldAddr rfl rfl rfl) ?_
    refine SatD.tk 5 rfl hD (fun _ hw => RunV.load1 hw rfl rfl (by repeat constructor) rfl) ?_
    refine SatD.tk 6 rfl hD (fun _ hw => RunV.cast (v' := .tuple #[.agg #[z0, z1, z2, z3, z4, z5, z6], .bool (gt Sv.id S.sv sv).isSome]) (RunV.lookup2 (keyL rfl) hw rfl rfl rfl rfl (by repeat constructor) hmS.is) (by rw [hzs]; exact congrArg (fun z => Value.tuple #[z, _]) hz)) ?_
    refine SatD.tk 7 rfl hD (fun _ hw => RunV.move rfl) ?_
    refine SatD.tk 8 rfl hD (fun _ hw => RunV.extract rfl rfl) ?_
    refine SatD.tk 9 rfl hD (fun _ hw => RunV.extract rfl rfl) ?_
    refine SatD.ef 10 rfl (OpW.alloc hS rfl rfl (by repeat constructor) ?_)
    clear hS
    intro b7 w5 _ hS
    refine keepS (hS.sel (by repeat constructor)) (fun hD => ?_)
    refine SatD.ef 11 rfl (OpW.store hS rfl rfl (by repeat constructor) (by repeat constructor) (by repeat constructor) rfl hz1 ?_)
    clear hS
    intro w6 hS
    refine keepS (hS.sel (by repeat constructor)) (fun hD => ?_)
    refine SatD.tk 12 rfl hD (fun _ hw => RunV.assign rfl) ?_
    refine SatD.done 0 (by kernel_rfl) (SatE.thenC ?_)
    clear hD
    refine SatC.seq ?_
    refine SatC.weak (e' := [(0, _), (4, _), (5, _), (6, _), (8, _)]) (by repeat constructor) ?_
    refine SatC.region ?_
    refine SatL.pu (RunV.loadN hS rfl rfl (by repeat constructor) (by repeat constructor)) rfl ?_
    refine SatL.op rfl (OpW.enter rfl rfl rfl (rfl) (new_any p _ hp) ?_)
    rintro r7 w7 ⟨hb, rfl, h⟩
    replace hS := hS.callT (A := []) .nil h
    refine SatL.pu (RunV.move rfl) rfl ?_
    refine SatL.pu (RunV.extract rfl rfl) rfl ?_
    refine SatL.pu (RunV.extract rfl rfl) rfl ?_
    refine SatL.pu (RunV.assign rfl) rfl ?_
    refine SatL.pu (RunV.assign rfl) rfl ?_
    refine SatL.nil (SatE.thenC ?_)
    refine SatC.seq ?_
    refine SatC.block ?_
    refine SatC.seq ?_
    refine SatC.region ?_
    first | refine SatL.pu (RunV.fieldAddrL rfl rfl rfl) rfl ?_ | refine SatL.pu (RunV.fieldAddr rfl rfl rfl) rfl ?_
    refine SatL.pu (RunV.load1 hS rfl rfl (by repeat constructor) rfl) rfl ?_
    refine SatL.op rfl (OpW.enter rfl rfl rfl (rfl) (right_any _ _) ?_)
    rintro r8 w8 ⟨rfl, h⟩
    replace hS := St.callN hS h
    refine SatL.pu (RunV.not rfl) rfl ?_
    refine SatL.pu (RunV.move rfl) rfl ?_
    refine SatL.guard rfl rfl rfl (fun h2 => ?_) (fun h2 => ?_)
    · (try simp only [cx, ne_eq] at h2)
      try (exfalso; (first | omega | exact h2 trivial | contradiction | (first | omega | (simp at h2; done))); done)
      all_goals
      first | refine SatL.pu (RunV.fieldAddrL rfl rfl rfl) rfl ?_ | refine SatL.pu (RunV.fieldAddr rfl rfl rfl) rfl ?_
      refine SatL.guard_y rfl rfl ?_
      refine SatL.pu (RunV.load1 hS rfl rfl (by repeat constructor) rfl) rfl ?_
      refine SatL.guard_y rfl rfl ?_
      refine SatL.pu (RunV.sneq rfl rfl) rfl ?_
      refine SatL.guard_y rfl rfl ?_
      refine SatL.pu (RunV.move rfl) rfl ?_
      refine SatL.guard rfl rfl rfl (fun h3 => ?_) (fun h3 => ?_)
      · (try simp only [cx, ne_eq] at h3)
        try (exfalso; (first | omega | exact h3 trivial | contradiction | (first | omega | (simp at h3; done))); done)
        all_goals
        first | refine SatL.pu (RunV.fieldAddrL rfl rfl rfl) rfl ?_ | refine SatL.pu (RunV.fieldAddr rfl rfl rfl) rfl ?_
        refine SatL.guard_y rfl rfl ?_
        refine SatL.pu (RunV.load1 hS rfl rfl (by repeat constructor) rfl) rfl ?_
        refine SatL.guard_y rfl rfl ?_
        refine SatL.op rfl (OpW.enter rfl rfl rfl (rfl) (right_any _ _) ?_)
        rintro r9 w9 ⟨rfl, h⟩
        replace hS := St.callN hS h
        refine SatL.guard_y rfl rfl ?_
        refine SatL.pu (RunV.not rfl) rfl ?_
        refine SatL.guard_y rfl rfl ?_
        refine SatL.pu (RunV.pick_t rfl rfl) rfl ?_
        refine SatL.pu (RunV.pick_f rfl rfl) rfl ?_
        refine SatL.pu (RunV.assign rfl) rfl ?_
        refine SatL.nil (SatE.thenC ?_)
        refine SatC.weak (e' := [(0, _), (4, _), (6, _), (8, _), (9, _), (10, _), (28, _)]) (by repeat constructor) ?_
        refine SatC.cond rfl (fun h4 => ?_) (fun h4 => ?_)
        · (try simp only [cx, ne_eq] at h4)
          try (exfalso; (first | omega | exact h4 trivial | contradiction | (first | omega | (simp at h4; done))); done)
          all_goals
          refine SatC.seq ?_
          refine SatC.region ?_
          refine SatL.pu (RunV.assign rfl) rfl ?_
          refine SatL.nil (SatE.thenC ?_)
          refine SatC.ret (SatE.blk_ret (SatE.then_ret ?_))
          refine SatE.ret1 rfl rfl ?_
          first
          | exact addc_err (by unfold addCE; (repeat' split) <;> first | rfl | (exfalso; simp_all; done) | (exfalso; simp_all; omega) | (exfalso; omega)) (by decide) hw (hS.sel (by repeat constructor))
          | (have e : addCE S id sv note p = 0 := (by unfold addCE; (repeat' split) <;> first | rfl | (exfalso; simp_all; done) | (exfalso; simp_all; omega) | (exfalso; omega))
             refine ⟨by rw [e], _, _, fun _ => ⟨hb, rfl⟩, fun h0 => absurd e h0, Agt.addC (ms := ms) (mc := mc) (t := ⟨id, sv, note, hb, ck0 p⟩) hs16 hc16 hsu hcu htg hck hmS (by assumption) (pok_kind hp) hmp8, ?_⟩
             have hS2 := hS.sel (R := hblk ⟨id, sv, note, hb, ck0 p⟩ :: LO b S.node S.addr ms mc oS o8 D) (by repeat constructor)
             obtain ⟨M, hM⟩ := hbl_pt S.ch ⟨id, sv, note, hb, ck0 p⟩
             refine (hS2.perm (L' := LO b S.node S.addr ms mc oS o8 (tbl S.sv ++ (pt Ch.id S.ch ⟨id, sv, note, hb, ck0 p⟩).map hblk) ++ M) ?_).sub (List.sublist_append_left _ _)
             subst D
             exact addc_perm hM)
        · (try simp only [cx, ne_eq] at h4)
          try (exfalso; (first | omega | exact h4 trivial | contradiction | (first | omega | (simp at h4; done))); done)
          all_goals
          refine SatC.seq ?_
          refine SatC.region ?_
          first | refine SatL.pu (RunV.fieldAddrL rfl rfl rfl) rfl ?_ | refine SatL.pu (RunV.fieldAddr rfl rfl rfl) rfl ?_
          refine SatL.pu (RunV.load1 hS rfl rfl (by repeat constructor) rfl) rfl ?_
          refine SatL.pu (RunV.lenB rfl rfl) rfl ?_
          refine SatL.pu (RunV.gtr rfl rfl) rfl ?_
          refine SatL.pu (RunV.assign rfl) rfl ?_
          refine SatL.nil (SatE.thenC ?_)
          refine SatC.cond rfl (fun h5 => ?_) (fun h5 => ?_)
          · (try simp only [cx, ne_eq] at h5)
            try (exfalso; (first | omega | exact h5 trivial | contradiction | (first | omega | (simp at h5; done))); done)
            all_goals
            refine SatC.seq ?_
            refine SatC.region ?_
            refine SatL.pu (RunV.assign rfl) rfl ?_
            refine SatL.nil (SatE.thenC ?_)
            refine SatC.ret (SatE.blk_ret (SatE.then_ret ?_))
            refine SatE.ret1 rfl rfl ?_
            first
            | exact addc_err (by unfold addCE; (repeat' split) <;> first | rfl | (exfalso; simp_all; done) | (exfalso; simp_all; omega) | (exfalso; omega)) (by decide) hw (hS.sel (by repeat constructor))
            | (have e : addCE S id sv note p = 0 := (by unfold addCE; (repeat' split) <;> first | rfl | (exfalso; simp_all; done) | (exfalso; simp_all; omega) | (exfalso; omega))
               refine ⟨by rw [e], _, _, fun _ => ⟨hb, rfl⟩, fun h0 => absurd e h0, Agt.addC (ms := ms) (mc := mc) (t := ⟨id, sv, note, hb, ck0 p⟩) hs16 hc16 hsu hcu htg hck hmS (by assumption) (pok_kind hp) hmp8, ?_⟩
               have hS2 := hS.sel (R := hblk ⟨id, sv, note, hb, ck0 p⟩ :: LO b S.node S.addr ms mc oS o8 D) (by repeat constructor)
               obtain ⟨M, hM⟩ := hbl_pt S.ch ⟨id, sv, note, hb, ck0 p⟩
               refine (hS2.perm (L' := LO b S.node S.addr ms mc oS o8 (tbl S.sv ++ (pt Ch.id S.ch ⟨id, sv, note, hb, ck0 p⟩).map hblk) ++ M) ?_).sub (List.sublist_append_left _ _)
               subst D
               exact addc_perm hM)
          · (try simp only [cx, ne_eq] at h5)
            try (exfalso; (first | omega | exact h5 trivial | contradiction | (first | omega | (simp at h5; done))); done)
            all_goals
            refine SatC.seq ?_
            refine SatC.region ?_
            first | refine SatL.pu (RunV.fieldAddrL rfl rfl rfl) rfl ?_ | refine SatL.pu (RunV.fieldAddr rfl rfl rfl) rfl ?_
            refine SatL.pu (RunV.load1 hS rfl rfl (by repeat constructor) rfl) rfl ?_
            refine SatL.pu (RunV.sneq rfl rfl) rfl ?_
            refine SatL.pu (RunV.move rfl) rfl ?_
            refine SatL.guard rfl rfl rfl (fun h6 => ?_) (fun h6 => ?_)
            · (try simp only [cx, ne_eq] at h6)
              try (exfalso; (first | omega | exact h6 trivial | contradiction | (first | omega | (simp at h6; done))); done)
              all_goals
              refine SatL.pu (RunV.move rfl) rfl ?_
              refine SatL.guard_y rfl rfl ?_
              refine SatL.pu (RunV.not rfl) rfl ?_
              refine SatL.pu (RunV.pick_t rfl rfl) rfl ?_
              refine SatL.pu (RunV.assign rfl) rfl ?_
              refine SatL.nil (SatE.thenC ?_)
              refine SatC.weak (e' := [(0, _), (4, _), (6, _), (9, _), (10, _), (49, _)]) (by repeat constructor) ?_
              refine SatC.cond rfl (fun h7 => ?_) (fun h7 => ?_)
              · (try simp only [cx, ne_eq] at h7)
                try (exfalso; (first | omega | exact h7 trivial | contradiction | (first | omega | (simp at h7; done))); done)
                all_goals
                refine SatC.seq ?_
                refine SatC.region ?_
                refine SatL.pu (RunV.assign rfl) rfl ?_
                refine SatL.nil (SatE.thenC ?_)
                refine SatC.ret (SatE.blk_ret (SatE.then_ret ?_))
                refine SatE.ret1 rfl rfl ?_
                first
                | exact addc_err (by unfold addCE; (repeat' split) <;> first | rfl | (exfalso; simp_all; done) | (exfalso; simp_all; omega) | (exfalso; omega)) (by decide) hw (hS.sel (by repeat constructor))
                | (have e : addCE S id sv note p = 0 := (by unfold addCE; (repeat' split) <;> first | rfl | (exfalso; simp_all; done) | (exfalso; simp_all; omega) | (exfalso; omega))
                   refine ⟨by rw [e], _, _, fun _ => ⟨hb, rfl⟩, fun h0 => absurd e h0, Agt.addC (ms := ms) (mc := mc) (t := ⟨id, sv, note, hb, ck0 p⟩) hs16 hc16 hsu hcu htg hck hmS (by assumption) (pok_kind hp) hmp8, ?_⟩
                   have hS2 := hS.sel (R := hblk ⟨id, sv, note, hb, ck0 p⟩ :: LO b S.node S.addr ms mc oS o8 D) (by repeat constructor)
                   obtain ⟨M, hM⟩ := hbl_pt S.ch ⟨id, sv, note, hb, ck0 p⟩
                   refine (hS2.perm (L' := LO b S.node S.addr ms mc oS o8 (tbl S.sv ++ (pt Ch.id S.ch ⟨id, sv, note, hb, ck0 p⟩).map hblk) ++ M) ?_).sub (List.sublist_append_left _ _)
                   subst D
                   exact addc_perm hM)
              · (try simp only [cx, ne_eq] at h7)
                try (exfalso; (first | omega | exact h7 trivial | contradiction | (first | omega | (simp at h7; done))); done)
                all_goals
                refine SatC.seq ?_
                refine SatC.region ?_
                refine SatL.pu (RunV.move rfl) rfl ?_
                refine SatL.pu (RunV.neq rfl rfl) rfl ?_
                refine SatL.pu (RunV.assign rfl) rfl ?_
                refine SatL.nil (SatE.thenC ?_)
                refine SatC.cond rfl (fun h8 => ?_) (fun h8 => ?_)
                · (try simp only [cx, ne_eq] at h8)
                  try (exfalso; (first | omega | exact h8 trivial | contradiction | (first | omega | (simp at h8; done))); done)
                  all_goals
                  refine SatC.seq ?_
                  refine SatC.region ?_
                  refine SatL.pu (RunV.move rfl) rfl ?_
                  refine SatL.pu (RunV.assign rfl) rfl ?_
                  refine SatL.nil (SatE.thenC ?_)
                  refine SatC.ret (SatE.blk_ret (SatE.then_ret ?_))
                  refine SatE.ret1 rfl rfl ?_
                  first
                  | exact addc_err (by unfold addCE; (repeat' split) <;> first | rfl | (exfalso; simp_all; done) | (exfalso; simp_all; omega) | (exfalso; omega)) (by decide) hw (hS.sel (by repeat constructor))
                  | (have e : addCE S id sv note p = 0 := (by unfold addCE; (repeat' split) <;> first | rfl | (exfalso; simp_all; done) | (exfalso; simp_all; omega) | (exfalso; omega))
                     refine ⟨by rw [e], _, _, fun _ => ⟨hb, rfl⟩, fun h0 => absurd e h0, Agt.addC (ms := ms) (mc := mc) (t := ⟨id, sv, note, hb, ck0 p⟩) hs16 hc16 hsu hcu htg hck hmS (by assumption) (pok_kind hp) hmp8, ?_⟩
                     have hS2 := hS.sel (R := hblk ⟨id, sv, note, hb, ck0 p⟩ :: LO b S.node S.addr ms mc oS o8 D) (by repeat constructor)
                     obtain ⟨M, hM⟩ := hbl_pt S.ch ⟨id, sv, note, hb, ck0 p⟩
                     refine (hS2.perm (L' := LO b S.node S.addr ms mc oS o8 (tbl S.sv ++ (pt Ch.id S.ch ⟨id, sv, note, hb, ck0 p⟩).map hblk) ++ M) ?_).sub (List.sublist_append_left _ _)
                     subst D
                     exact addc_perm hM)
                · (try simp only [cx, ne_eq] at h8)
                  try (exfalso; (first | omega | exact h8 trivial | contradiction | (first | omega | (simp at h8; done))); done)
                  all_goals
                  refine SatC.seq ?_
                  refine SatC.drawnT 8 hS (hS) (by kernel_rfl) ?_
                  clear hS
                  intro w10 hh hS hD
                  refine SatD.tk 0 rfl hD (fun _ hw => RunV.move rfl) ?_
                  first | refine SatD.tk 1 rfl hD (fun _ hw => RunV.nil_ptr rfl) ?_ | refine SatD.tk 1 rfl hD (fun _ hw => RunV.nil_func rfl) ?_ | refine SatD.tk 1 rfl hD (fun _ hw => RunV.nil_yield rfl) ?_
                  first | refine SatD.tk 2 rfl hD (fun _ hw => RunV.fieldAddrL rfl rfl rfl) ?_ | refine SatD.tk 2 rfl hD (fun _ hw => RunV.fieldAddr rfl rfl rfl) ?_
                  refine SatD.tk 3 rfl hD (fun _ hw => RunV.load1 hw rfl rfl (by repeat constructor) rfl) ?_
                  first | refine SatD.tk 4 rfl hD (fun _ hw => RunV.fieldAddrL rfl rfl rfl) ?_ | refine SatD.tk 4 rfl hD (fun _ hw => RunV.fieldAddr rfl rfl rfl) ?_
                  refine SatD.tk 5 rfl hD (fun _ hw => RunV.load1 hw rfl rfl (by repeat constructor) rfl) ?_
                  refine SatD.ef 6 rfl (OpW.enter rfl rfl rfl (rfl) (fullC_any S.ch _ _ _ hmC (hS.ownT (A := [(mc, oC)]) (by repeat constructor))) ?_)
                  rintro r11 w11 ⟨rfl, h⟩
                  replace hS := St.callN hS h
                  refine keepS (hS.sel (by repeat constructor)) (fun hD => ?_)
                  refine SatD.tk 7 rfl hD (fun _ hw => RunV.assign rfl) ?_
                  refine SatD.done 0 (by kernel_rfl) (SatE.thenC ?_)
                  clear hD
                  refine SatC.weak (e' := [(0, _), (4, _), (6, _), (9, _), (61, _)]) (by repeat constructor) ?_
                  refine SatC.cond rfl (fun h9 => ?_) (fun h9 => ?_)
                  · (try simp only [cx, ne_eq] at h9)
                    try (exfalso; (first | omega | exact h9 trivial | contradiction | (first | omega | (simp at h9; done))); done)
                    all_goals
                    refine SatC.seq ?_
                    refine SatC.region ?_
                    refine SatL.pu (RunV.assign rfl) rfl ?_
                    refine SatL.nil (SatE.thenC ?_)
                    refine SatC.ret (SatE.blk_ret (SatE.then_ret ?_))
                    refine SatE.ret1 rfl rfl ?_
                    first
                    | exact addc_err (by unfold addCE; (repeat' split) <;> first | rfl | (exfalso; simp_all; done) | (exfalso; simp_all; omega) | (exfalso; omega)) (by decide) hw (hS.sel (by repeat constructor))
                    | (have e : addCE S id sv note p = 0 := (by unfold addCE; (repeat' split) <;> first | rfl | (exfalso; simp_all; done) | (exfalso; simp_all; omega) | (exfalso; omega))
                       refine ⟨by rw [e], _, _, fun _ => ⟨hb, rfl⟩, fun h0 => absurd e h0, Agt.addC (ms := ms) (mc := mc) (t := ⟨id, sv, note, hb, ck0 p⟩) hs16 hc16 hsu hcu htg hck hmS (by assumption) (pok_kind hp) hmp8, ?_⟩
                       have hS2 := hS.sel (R := hblk ⟨id, sv, note, hb, ck0 p⟩ :: LO b S.node S.addr ms mc oS o8 D) (by repeat constructor)
                       obtain ⟨M, hM⟩ := hbl_pt S.ch ⟨id, sv, note, hb, ck0 p⟩
                       refine (hS2.perm (L' := LO b S.node S.addr ms mc oS o8 (tbl S.sv ++ (pt Ch.id S.ch ⟨id, sv, note, hb, ck0 p⟩).map hblk) ++ M) ?_).sub (List.sublist_append_left _ _)
                       subst D
                       exact addc_perm hM)
                  · (try simp only [cx, ne_eq] at h9)
                    try (exfalso; (first | omega | exact h9 trivial | contradiction | (first | omega | (simp at h9; done))); done)
                    all_goals
                    refine SatC.skip (SatE.blk_normal (SatE.thenC ?_))
                    refine SatC.seq ?_
                    refine SatC.drawnT 19 hS (hS) (by kernel_rfl) ?_
                    clear hS
                    intro w12 hh hS hD
                    refine SatD.tk 0 rfl hD (fun _ hw => RunV.move rfl) ?_
                    first | refine SatD.tk 1 rfl hD (fun _ hw => RunV.nil_ptr rfl) ?_ | refine SatD.tk 1 rfl hD (fun _ hw => RunV.nil_func rfl) ?_ | refine SatD.tk 1 rfl hD (fun _ hw => RunV.nil_yield rfl) ?_
                    first | refine SatD.tk 2 rfl hD (fun _ hw => RunV.fieldAddrL rfl rfl rfl) ?_ | refine SatD.tk 2 rfl hD (fun _ hw => RunV.fieldAddr rfl rfl rfl) ?_
                    refine SatD.tk 3 rfl hD (fun _ hw => RunV.load1 hw rfl rfl (by repeat constructor) rfl) ?_
                    first | refine SatD.tk 4 rfl hD (fun _ hw => RunV.fieldAddrL rfl rfl rfl) ?_ | refine SatD.tk 4 rfl hD (fun _ hw => RunV.fieldAddr rfl rfl rfl) ?_
                    refine SatD.tk 5 rfl hD (fun _ hw => RunV.load1 hw rfl rfl (by repeat constructor) rfl) ?_
                    refine SatD.tk 6 rfl hD (fun _ hw => RunV.move rfl) ?_
                    first | refine SatD.tk 7 rfl hD (fun _ hw => RunV.nil_ptr rfl) ?_ | refine SatD.tk 7 rfl hD (fun _ hw => RunV.nil_func rfl) ?_ | refine SatD.tk 7 rfl hD (fun _ hw => RunV.nil_yield rfl) ?_
                    first | refine SatD.tk 8 rfl hD (fun _ hw => RunV.fieldAddrL rfl rfl rfl) ?_ | refine SatD.tk 8 rfl hD (fun _ hw => RunV.fieldAddr rfl rfl rfl) ?_
                    refine SatD.tk 9 rfl hD (fun _ hw => RunV.load1 hw rfl rfl (by repeat constructor) rfl) ?_
                    first | refine SatD.tk 10 rfl hD (fun _ hw => RunV.fieldAddrL rfl rfl rfl) ?_ | refine SatD.tk 10 rfl hD (fun _ hw => RunV.fieldAddr rfl rfl rfl) ?_
                    refine SatD.tk 11 rfl hD (fun _ hw => RunV.load1 hw rfl rfl (by repeat constructor) rfl) ?_
                    first | refine SatD.tk 12 rfl hD (fun _ hw => RunV.fieldAddrL rfl rfl rfl) ?_ | refine SatD.tk 12 rfl hD (fun _ hw => RunV.fieldAddr rfl rfl rfl) ?_
                    refine SatD.tk 13 rfl hD (fun _ hw => RunV.load1 hw rfl rfl (by repeat constructor) rfl) ?_
                    first | refine SatD.tk 14 rfl hD (fun _ hw => RunV.fieldAddrL rfl rfl rfl) ?_ | refine SatD.tk 14 rfl hD (fun _ hw => RunV.fieldAddr rfl rfl rfl) ?_
                    refine SatD.tk 15 rfl hD (fun _ hw => RunV.load1 hw rfl rfl (by repeat constructor) rfl) ?_
                    refine SatD.tk 16 rfl hD (fun _ hw => RunV.build rfl (by simp [go_sem]; try rfl)) ?_
                    refine SatD.tk 17 rfl hD (fun _ hw => RunV.move rfl) ?_
                    refine SatD.tk 18 rfl hD (fun _ hw => RunV.build rfl (by simp [go_sem]; try rfl)) ?_
                    refine SatD.effF (by kernel_rfl) rfl rfl (OpW.mapUpdateM (keyL rfl) hS rfl rfl rfl rfl hmC _ (fun o' => by repeat constructor) ?_)
                    clear hS
                    intro o8 w13 hmp8 hS
                    refine SatD.done 0 (by kernel_rfl) (SatE.thenC ?_)
                    clear hD
                    refine SatC.seq ?_
                    refine SatC.weak (e' := [(6, _)]) (by repeat constructor) ?_
                    refine SatC.region ?_
                    refine SatL.pu (RunV.assign rfl) rfl ?_
                    refine SatL.nil (SatE.thenC ?_)
                    refine SatC.ret ?_
                    refine SatE.ret1 rfl rfl ?_
                    first
                    | exact addc_err (by unfold addCE; (repeat' split) <;> first | rfl | (exfalso; simp_all; done) | (exfalso; simp_all; omega) | (exfalso; omega)) (by decide) hw (hS.sel (by repeat constructor))
                    | (have e : addCE S id sv note p = 0 := (by unfold addCE; (repeat' split) <;> first | rfl | (exfalso; simp_all; done) | (exfalso; simp_all; omega) | (exfalso; omega))
                       refine ⟨by rw [e], _, _, fun _ => ⟨hb, rfl⟩, fun h0 => absurd e h0, Agt.addC (ms := ms) (mc := mc) (t := ⟨id, sv, note, hb, ck0 p⟩) hs16 hc16 hsu hcu htg hck hmS (by assumption) (pok_kind hp) hmp8, ?_⟩
                       have hS2 := hS.sel (R := hblk ⟨id, sv, note, hb, ck0 p⟩ :: LO b S.node S.addr ms mc oS o8 D) (by repeat constructor)
                       obtain ⟨M, hM⟩ := hbl_pt S.ch ⟨id, sv, note, hb, ck0 p⟩
                       refine (hS2.perm (L' := LO b S.node S.addr ms mc oS o8 (tbl S.sv ++ (pt Ch.id S.ch ⟨id, sv, note, hb, ck0 p⟩).map hblk) ++ M) ?_).sub (List.sublist_append_left _ _)
                       subst D
                       exact addc_perm hM)
            · (try simp only [cx, ne_eq] at h6)
              try (exfalso; (first | omega | exact h6 trivial | contradiction | (first | omega | (simp at h6; done))); done)
              all_goals
              refine SatL.guard_n rfl rfl rfl rfl ?_
              refine SatL.pu (RunV.pick_f rfl rfl) rfl ?_
              refine SatL.pu (RunV.assign rfl) rfl ?_
              refine SatL.nil (SatE.thenC ?_)
              refine SatC.weak (e' := [(0, _), (4, _), (6, _), (9, _), (10, _), (49, _)]) (by repeat constructor) ?_
              refine SatC.cond_f rfl ?_
              refine SatC.seq ?_
              refine SatC.region ?_
              refine SatL.pu (RunV.move rfl) rfl ?_
              refine SatL.pu (RunV.neq rfl rfl) rfl ?_
              refine SatL.pu (RunV.assign rfl) rfl ?_
              refine SatL.nil (SatE.thenC ?_)
              refine SatC.cond rfl (fun h7 => ?_) (fun h7 => ?_)
              · (try simp only [cx, ne_eq] at h7)
                try (exfalso; (first | omega | exact h7 trivial | contradiction | (first | omega | (simp at h7; done))); done)
                all_goals
                refine SatC.seq ?_
                refine SatC.region ?_
                refine SatL.pu (RunV.move rfl) rfl ?_
                refine SatL.pu (RunV.assign rfl) rfl ?_
                refine SatL.nil (SatE.thenC ?_)
                refine SatC.ret (SatE.blk_ret (SatE.then_ret ?_))
                refine SatE.ret1 rfl rfl ?_
                first
                | exact addc_err (by unfold addCE; (repeat' split) <;> first | rfl | (exfalso; simp_all; done) | (exfalso; simp_all; omega) | (exfalso; omega)) (by decide) hw (hS.sel (by repeat constructor))
                | (have e : addCE S id sv note p = 0 := (by unfold addCE; (repeat' split) <;> first | rfl | (exfalso; simp_all; done) | (exfalso; simp_all; omega) | (exfalso; omega))
                   refine ⟨by rw [e], _, _, fun _ => ⟨hb, rfl⟩, fun h0 => absurd e h0, Agt.addC (ms := ms) (mc := mc) (t := ⟨id, sv, note, hb, ck0 p⟩) hs16 hc16 hsu hcu htg hck hmS (by assumption) (pok_kind hp) hmp8, ?_⟩
                   have hS2 := hS.sel (R := hblk ⟨id, sv, note, hb, ck0 p⟩ :: LO b S.node S.addr ms mc oS o8 D) (by repeat constructor)
                   obtain ⟨M, hM⟩ := hbl_pt S.ch ⟨id, sv, note, hb, ck0 p⟩
                   refine (hS2.perm (L' := LO b S.node S.addr ms mc oS o8 (tbl S.sv ++ (pt Ch.id S.ch ⟨id, sv, note, hb, ck0 p⟩).map hblk) ++ M) ?_).sub (List.sublist_append_left _ _)
                   subst D
                   exact addc_perm hM)
              · (try simp only [cx, ne_eq] at h7)
                try (exfalso; (first | omega | exact h7 trivial | contradiction | (first | omega | (simp at h7; done))); done)
                all_goals
                refine SatC.seq ?_
                refine SatC.drawnT 8 hS (hS) (by kernel_rfl) ?_
                clear hS
                intro w10 hh hS hD
                refine SatD.tk 0 rfl hD (fun _ hw => RunV.move rfl) ?_
                first | refine SatD.tk 1 rfl hD (fun _ hw => RunV.nil_ptr rfl) ?_ | refine SatD.tk 1 rfl hD (fun _ hw => RunV.nil_func rfl) ?_ | refine SatD.tk 1 rfl hD (fun _ hw => RunV.nil_yield rfl) ?_
                first | refine SatD.tk 2 rfl hD (fun _ hw => RunV.fieldAddrL rfl rfl rfl) ?_ | refine SatD.tk 2 rfl hD (fun _ hw => RunV.fieldAddr rfl rfl rfl) ?_
                refine SatD.tk 3 rfl hD (fun _ hw => RunV.load1 hw rfl rfl (by repeat constructor) rfl) ?_
                first | refine SatD.tk 4 rfl hD (fun _ hw => RunV.fieldAddrL rfl rfl rfl) ?_ | refine SatD.tk 4 rfl hD (fun _ hw => RunV.fieldAddr rfl rfl rfl) ?_
                refine SatD.tk 5 rfl hD (fun _ hw => RunV.load1 hw rfl rfl (by repeat constructor) rfl) ?_
                refine SatD.ef 6 rfl (OpW.enter rfl rfl rfl (rfl) (fullC_any S.ch _ _ _ hmC (hS.ownT (A := [(mc, oC)]) (by repeat constructor))) ?_)
                rintro r11 w11 ⟨rfl, h⟩
                replace hS := St.callN hS h
                refine keepS (hS.sel (by repeat constructor)) (fun hD => ?_)
                refine SatD.tk 7 rfl hD (fun _ hw => RunV.assign rfl) ?_
                refine SatD.done 0 (by kernel_rfl) (SatE.thenC ?_)
                clear hD
                refine SatC.weak (e' := [(0, _), (4, _), (6, _), (9, _), (61, _)]) (by repeat constructor) ?_
                refine SatC.cond rfl (fun h8 => ?_) (fun h8 => ?_)
                · (try simp only [cx, ne_eq] at h8)
                  try (exfalso; (first | omega | exact h8 trivial | contradiction | (first | omega | (simp at h8; done))); done)
                  all_goals
                  refine SatC.seq ?_
                  refine SatC.region ?_
                  refine SatL.pu (RunV.assign rfl) rfl ?_
                  refine SatL.nil (SatE.thenC ?_)
                  refine SatC.ret (SatE.blk_ret (SatE.then_ret ?_))
                  refine SatE.ret1 rfl rfl ?_
                  first
                  | exact addc_err (by unfold addCE; (repeat' split) <;> first | rfl | (exfalso; simp_all; done) | (exfalso; simp_all; omega) | (exfalso; omega)) (by decide) hw (hS.sel (by repeat constructor))
                  | (have e : addCE S id sv note p = 0 := (by unfold addCE; (repeat' split) <;> first | rfl | (exfalso; simp_all; done) | (exfalso; simp_all; omega) | (exfalso; omega))
                     refine ⟨by rw [e], _, _, fun _ => ⟨hb, rfl⟩, fun h0 => absurd e h0, Agt.addC (ms := ms) (mc := mc) (t := ⟨id, sv, note, hb, ck0 p⟩) hs16 hc16 hsu hcu htg hck hmS (by assumption) (pok_kind hp) hmp8, ?_⟩
                     have hS2 := hS.sel (R := hblk ⟨id, sv, note, hb, ck0 p⟩ :: LO b S.node S.addr ms mc oS o8 D) (by repeat constructor)
                     obtain ⟨M, hM⟩ := hbl_pt S.ch ⟨id, sv, note, hb, ck0 p⟩
                     refine (hS2.perm (L' := LO b S.node S.addr ms mc oS o8 (tbl S.sv ++ (pt Ch.id S.ch ⟨id, sv, note, hb, ck0 p⟩).map hblk) ++ M) ?_).sub (List.sublist_append_left _ _)
                     subst D
                     exact addc_perm hM)
                · (try simp only [cx, ne_eq] at h8)
                  try (exfalso; (first | omega | exact h8 trivial | contradiction | (first | omega | (simp at h8; done))); done)
                  all_goals
                  refine SatC.skip (SatE.blk_normal (SatE.thenC ?_))
                  refine SatC.seq ?_
                  refine SatC.drawnT 19 hS (hS) (by kernel_rfl) ?_
                  clear hS
                  intro w12 hh hS hD
                  refine SatD.tk 0 rfl hD (fun _ hw => RunV.move rfl) ?_
                  first | refine SatD.tk 1 rfl hD (fun _ hw => RunV.nil_ptr rfl) ?_ | refine SatD.tk 1 rfl hD (fun _ hw => RunV.nil_func rfl) ?_ | refine SatD.tk 1 rfl hD (fun _ hw => RunV.nil_yield rfl) ?_
                  first | refine SatD.tk 2 rfl hD (fun _ hw => RunV.fieldAddrL rfl rfl rfl) ?_ | refine SatD.tk 2 rfl hD (fun _ hw => RunV.fieldAddr rfl rfl rfl) ?_
                  refine SatD.tk 3 rfl hD (fun _ hw => RunV.load1 hw rfl rfl (by repeat constructor) rfl) ?_
                  first | refine SatD.tk 4 rfl hD (fun _ hw => RunV.fieldAddrL rfl rfl rfl) ?_ | refine SatD.tk 4 rfl hD (fun _ hw => RunV.fieldAddr rfl rfl rfl) ?_
                  refine SatD.tk 5 rfl hD (fun _ hw => RunV.load1 hw rfl rfl (by repeat constructor) rfl) ?_
                  refine SatD.tk 6 rfl hD (fun _ hw => RunV.move rfl) ?_
                  first | refine SatD.tk 7 rfl hD (fun _ hw => RunV.nil_ptr rfl) ?_ | refine SatD.tk 7 rfl hD (fun _ hw => RunV.nil_func rfl) ?_ | refine SatD.tk 7 rfl hD (fun _ hw => RunV.nil_yield rfl) ?_
                  first | refine SatD.tk 8 rfl hD (fun _ hw => RunV.fieldAddrL rfl rfl rfl) ?_ | refine SatD.tk 8 rfl hD (fun _ hw => RunV.fieldAddr rfl rfl rfl) ?_
                  refine SatD.tk 9 rfl hD (fun _ hw => RunV.load1 hw rfl rfl (by repeat constructor) rfl) ?_
                  first | refine SatD.tk 10 rfl hD (fun _ hw => RunV.fieldAddrL rfl rfl rfl) ?_ | refine SatD.tk 10 rfl hD (fun _ hw => RunV.fieldAddr rfl rfl rfl) ?_
                  refine SatD.tk 11 rfl hD (fun _ hw => RunV.load1 hw rfl rfl (by repeat constructor) rfl) ?_
                  first | refine SatD.tk 12 rfl hD (fun _ hw => RunV.fieldAddrL rfl rfl rfl) ?_ | refine SatD.tk 12 rfl hD (fun _ hw => RunV.fieldAddr rfl rfl rfl) ?_
                  refine SatD.tk 13 rfl hD (fun _ hw => RunV.load1 hw rfl rfl (by repeat constructor) rfl) ?_
                  first | refine SatD.tk 14 rfl hD (fun _ hw => RunV.fieldAddrL rfl rfl rfl) ?_ | refine SatD.tk 14 rfl hD (fun _ hw => RunV.fieldAddr rfl rfl rfl) ?_
                  refine SatD.tk 15 rfl hD (fun _ hw => RunV.load1 hw rfl rfl (by repeat constructor) rfl) ?_
                  refine SatD.tk 16 rfl hD (fun _ hw => RunV.build rfl (by simp [go_sem]; try rfl)) ?_
                  refine SatD.tk 17 rfl hD (fun _ hw => RunV.move rfl) ?_
                  refine SatD.tk 18 rfl hD (fun _ hw => RunV.build rfl (by simp [go_sem]; try rfl)) ?_
                  refine SatD.effF (by kernel_rfl) rfl rfl (OpW.mapUpdateM (keyL rfl) hS rfl rfl rfl rfl hmC _ (fun o' => by repeat constructor) ?_)
                  clear hS
                  intro o8 w13 hmp8 hS
                  refine SatD.done 0 (by kernel_rfl) (SatE.thenC ?_)
                  clear hD
                  refine SatC.seq ?_
                  refine SatC.weak (e' := [(6, _)]) (by repeat constructor) ?_
                  refine SatC.region ?_
                  refine SatL.pu (RunV.assign rfl) rfl ?_
                  refine SatL.nil (SatE.thenC ?_)
                  refine SatC.ret ?_
                  refine SatE.ret1 rfl rfl ?_
                  first
                  | exact addc_err (by unfold addCE; (repeat' split) <;> first | rfl | (exfalso; simp_all; done) | (exfalso; simp_all; omega) | (exfalso; omega)) (by decide) hw (hS.sel (by repeat constructor))
                  | (have e : addCE S id sv note p = 0 := (by unfold addCE; (repeat' split) <;> first | rfl | (exfalso; simp_all; done) | (exfalso; simp_all; omega) | (exfalso; omega))
                     refine ⟨by rw [e], _, _, fun _ => ⟨hb, rfl⟩, fun h0 => absurd e h0, Agt.addC (ms := ms) (mc := mc) (t := ⟨id, sv, note, hb, ck0 p⟩) hs16 hc16 hsu hcu htg hck hmS (by assumption) (pok_kind hp) hmp8, ?_⟩
                     have hS2 := hS.sel (R := hblk ⟨id, sv, note, hb, ck0 p⟩ :: LO b S.node S.addr ms mc oS o8 D) (by repeat constructor)
                     obtain ⟨M, hM⟩ := hbl_pt S.ch ⟨id, sv, note, hb, ck0 p⟩
                     refine (hS2.perm (L' := LO b S.node S.addr ms mc oS o8 (tbl S.sv ++ (pt Ch.id S.ch ⟨id, sv, note, hb, ck0 p⟩).map hblk) ++ M) ?_).sub (List.sublist_append_left _ _)
                     subst D
                     exact addc_perm hM)
      · (try simp only [cx, ne_eq] at h3)
        try (exfalso; (first | omega | exact h3 trivial | contradiction | (first | omega | (simp at h3; done))); done)
        all_goals
        refine SatL.guard_n rfl rfl rfl rfl ?_
        refine SatL.guard_n rfl rfl rfl rfl ?_
        refine SatL.guard_n rfl rfl rfl rfl ?_
        refine SatL.guard_y rfl rfl ?_
        refine SatL.pu (RunV.pick_f rfl rfl) rfl ?_
        refine SatL.pu (RunV.pick_f rfl rfl) rfl ?_
        refine SatL.pu (RunV.assign rfl) rfl ?_
        refine SatL.nil (SatE.thenC ?_)
        refine SatC.weak (e' := [(0, _), (4, _), (6, _), (8, _), (9, _), (10, _), (28, _)]) (by repeat constructor) ?_
        refine SatC.cond_f rfl ?_
        refine SatC.seq ?_
        refine SatC.region ?_
        first | refine SatL.pu (RunV.fieldAddrL rfl rfl rfl) rfl ?_ | refine SatL.pu (RunV.fieldAddr rfl rfl rfl) rfl ?_
        refine SatL.pu (RunV.load1 hS rfl rfl (by repeat constructor) rfl) rfl ?_
        refine SatL.pu (RunV.lenB rfl rfl) rfl ?_
        refine SatL.pu (RunV.gtr rfl rfl) rfl ?_
        refine SatL.pu (RunV.assign rfl) rfl ?_
        refine SatL.nil (SatE.thenC ?_)
        refine SatC.cond rfl (fun h4 => ?_) (fun h4 => ?_)
        · (try simp only [cx, ne_eq] at h4)
          try (exfalso; (first | omega | exact h4 trivial | contradiction | (first | omega | (simp at h4; done))); done)
          all_goals
          refine SatC.seq ?_
          refine SatC.region ?_
          refine SatL.pu (RunV.assign rfl) rfl ?_
          refine SatL.nil (SatE.thenC ?_)
          refine SatC.ret (SatE.blk_ret (SatE.then_ret ?_))
          refine SatE.ret1 rfl rfl ?_
          first
          | exact addc_err (by unfold addCE; (repeat' split) <;> first | rfl | (exfalso; simp_all; done) | (exfalso; simp_all; omega) | (exfalso; omega)) (by decide) hw (hS.sel (by repeat constructor))
          | (have e : addCE S id sv note p = 0 := (by unfold addCE; (repeat' split) <;> first | rfl | (exfalso; simp_all; done) | (exfalso; simp_all; omega) | (exfalso; omega))
             refine ⟨by rw [e], _, _, fun _ => ⟨hb, rfl⟩, fun h0 => absurd e h0, Agt.addC (ms := ms) (mc := mc) (t := ⟨id, sv, note, hb, ck0 p⟩) hs16 hc16 hsu hcu htg hck hmS (by assumption) (pok_kind hp) hmp8, ?_⟩
             have hS2 := hS.sel (R := hblk ⟨id, sv, note, hb, ck0 p⟩ :: LO b S.node S.addr ms mc oS o8 D) (by repeat constructor)
             obtain ⟨M, hM⟩ := hbl_pt S.ch ⟨id, sv, note, hb, ck0 p⟩
             refine (hS2.perm (L' := LO b S.node S.addr ms mc oS o8 (tbl S.sv ++ (pt Ch.id S.ch ⟨id, sv, note, hb, ck0 p⟩).map hblk) ++ M) ?_).sub (List.sublist_append_left _ _)
             subst D
             exact addc_perm hM)
        · (try simp only [cx, ne_eq] at h4)
          try (exfalso; (first | omega | exact h4 trivial | contradiction | (first | omega | (simp at h4; done))); done)
          all_goals
          refine SatC.seq ?_
          refine SatC.region ?_
          first | refine SatL.pu (RunV.fieldAddrL rfl rfl rfl) rfl ?_ | refine SatL.pu (RunV.fieldAddr rfl rfl rfl) rfl ?_
          refine SatL.pu (RunV.load1 hS rfl rfl (by repeat constructor) rfl) rfl ?_
          refine SatL.pu (RunV.sneq rfl rfl) rfl ?_
          refine SatL.pu (RunV.move rfl) rfl ?_
          refine SatL.guard rfl rfl rfl (fun h5 => ?_) (fun h5 => ?_)
          · (try simp only [cx, ne_eq] at h5)
            try (exfalso; (first | omega | exact h5 trivial | contradiction | (first | omega | (simp at h5; done))); done)
            all_goals
            refine SatL.pu (RunV.move rfl) rfl ?_
            refine SatL.guard_y rfl rfl ?_
            refine SatL.pu (RunV.not rfl) rfl ?_
            refine SatL.pu (RunV.pick_t rfl rfl) rfl ?_
            refine SatL.pu (RunV.assign rfl) rfl ?_
            refine SatL.nil (SatE.thenC ?_)
            refine SatC.weak (e' := [(0, _), (4, _), (6, _), (9, _), (10, _), (49, _)]) (by repeat constructor) ?_
            refine SatC.cond rfl (fun h6 => ?_) (fun h6 => ?_)
            · (try simp only [cx, ne_eq] at h6)
              try (exfalso; (first | omega | exact h6 trivial | contradiction | (first | omega | (simp at h6; done))); done)
              all_goals
              refine SatC.seq ?_
              refine SatC.region ?_
              refine SatL.pu (RunV.assign rfl) rfl ?_
              refine SatL.nil (SatE.thenC ?_)
              refine SatC.ret (SatE.blk_ret (SatE.then_ret ?_))
              refine SatE.ret1 rfl rfl ?_
              first
              | exact addc_err (by unfold addCE; (repeat' split) <;> first | rfl | (exfalso; simp_all; done) | (exfalso; simp_all; omega) | (exfalso; omega)) (by decide) hw (hS.sel (by repeat constructor))
              | (have e : addCE S id sv note p = 0 := (by unfold addCE; (repeat' split) <;> first | rfl | (exfalso; simp_all; done) | (exfalso; simp_all; omega) | (exfalso; omega))
                 refine ⟨by rw [e], _, _, fun _ => ⟨hb, rfl⟩, fun h0 => absurd e h0, Agt.addC (ms := ms) (mc := mc) (t := ⟨id, sv, note, hb, ck0 p⟩) hs16 hc16 hsu hcu htg hck hmS (by assumption) (pok_kind hp) hmp8, ?_⟩
                 have hS2 := hS.sel (R := hblk ⟨id, sv, note, hb, ck0 p⟩ :: LO b S.node S.addr ms mc oS o8 D) (by repeat constructor)
                 obtain ⟨M, hM⟩ := hbl_pt S.ch ⟨id, sv, note, hb, ck0 p⟩
                 refine (hS2.perm (L' := LO b S.node S.addr ms mc oS o8 (tbl S.sv ++ (pt Ch.id S.ch ⟨id, sv, note, hb, ck0 p⟩).map hblk) ++ M) ?_).sub (List.sublist_append_left _ _)
                 subst D
                 exact addc_perm hM)
            · (try simp only [cx, ne_eq] at h6)
              try (exfalso; (first | omega | exact h6 trivial | contradiction | (first | omega | (simp at h6; done))); done)
              all_goals
              refine SatC.seq ?_
              refine SatC.region ?_
              refine SatL.pu (RunV.move rfl) rfl ?_
              refine SatL.pu (RunV.neq rfl rfl) rfl ?_
              refine SatL.pu (RunV.assign rfl) rfl ?_
              refine SatL.nil (SatE.thenC ?_)
              refine SatC.cond rfl (fun h7 => ?_) (fun h7 => ?_)
              · (try simp only [cx, ne_eq] at h7)
                try (exfalso; (first | omega | exact h7 trivial | contradiction | (first | omega | (simp at h7; done))); done)
                all_goals
                refine SatC.seq ?_
                refine SatC.region ?_
                refine SatL.pu (RunV.move rfl) rfl ?_
                refine SatL.pu (RunV.assign rfl) rfl ?_
                refine SatL.nil (SatE.thenC ?_)
                refine SatC.ret (SatE.blk_ret (SatE.then_ret ?_))
                refine SatE.ret1 rfl rfl ?_
                first
                | exact addc_err (by unfold addCE; (repeat' split) <;> first | rfl | (exfalso; simp_all; done) | (exfalso; simp_all; omega) | (exfalso; omega)) (by decide) hw (hS.sel (by repeat constructor))
                | (have e : addCE S id sv note p = 0 := (by unfold addCE; (repeat' split) <;> first | rfl | (exfalso; simp_all; done) | (exfalso; simp_all; omega) | (exfalso; omega))
                   refine ⟨by rw [e], _, _, fun _ => ⟨hb, rfl⟩, fun h0 => absurd e h0, Agt.addC (ms := ms) (mc := mc) (t := ⟨id, sv, note, hb, ck0 p⟩) hs16 hc16 hsu hcu htg hck hmS (by assumption) (pok_kind hp) hmp8, ?_⟩
                   have hS2 := hS.sel (R := hblk ⟨id, sv, note, hb, ck0 p⟩ :: LO b S.node S.addr ms mc oS o8 D) (by repeat constructor)
                   obtain ⟨M, hM⟩ := hbl_pt S.ch ⟨id, sv, note, hb, ck0 p⟩
                   refine (hS2.perm (L' := LO b S.node S.addr ms mc oS o8 (tbl S.sv ++ (pt Ch.id S.ch ⟨id, sv, note, hb, ck0 p⟩).map hblk) ++ M) ?_).sub (List.sublist_append_left _ _)
                   subst D
                   exact addc_perm hM)
              · (try simp only [cx, ne_eq] at h7)
                try (exfalso; (first | omega | exact h7 trivial | contradiction | (first | omega | (simp at h7; done))); done)
                all_goals
                refine SatC.seq ?_
                refine SatC.drawnT 8 hS (hS) (by kernel_rfl) ?_
                clear hS
                intro w9 hh hS hD
                refine SatD.tk 0 rfl hD (fun _ hw => RunV.move rfl) ?_
                first | refine SatD.tk 1 rfl hD (fun _ hw => RunV.nil_ptr rfl) ?_ | refine SatD.tk 1 rfl hD (fun _ hw => RunV.nil_func rfl) ?_ | refine SatD.tk 1 rfl hD (fun _ hw => RunV.nil_yield rfl) ?_
                first | refine SatD.tk 2 rfl hD (fun _ hw => RunV.fieldAddrL rfl rfl rfl) ?_ | refine SatD.tk 2 rfl hD (fun _ hw => RunV.fieldAddr rfl rfl rfl) ?_
                refine SatD.tk 3 rfl hD (fun _ hw => RunV.load1 hw rfl rfl (by repeat constructor) rfl) ?_
                first | refine SatD.tk 4 rfl hD (fun _ hw => RunV.fieldAddrL rfl rfl rfl) ?_ | refine SatD.tk 4 rfl hD (fun _ hw => RunV.fieldAddr rfl rfl rfl) ?_
                refine SatD.tk 5 rfl hD (fun _ hw => RunV.load1 hw rfl rfl (by repeat constructor) rfl) ?_
                refine SatD.ef 6 rfl (OpW.enter rfl rfl rfl (rfl) (fullC_any S.ch _ _ _ hmC (hS.ownT (A := [(mc, oC)]) (by repeat constructor))) ?_)
                rintro r10 w10 ⟨rfl, h⟩
                replace hS := St.callN hS h
                refine keepS (hS.sel (by repeat constructor)) (fun hD => ?_)
                refine SatD.tk 7 rfl hD (fun _ hw => RunV.assign rfl) ?_
                refine SatD.done 0 (by kernel_rfl) (SatE.thenC ?_)
                clear hD
                refine SatC.weak (e' := [(0, _), (4, _), (6, _), (9, _), (61, _)]) (by repeat constructor) ?_
                refine SatC.cond rfl (fun h8 => ?_) (fun h8 => ?_)
                · (try simp only [cx, ne_eq] at h8)
                  try (exfalso; (first | omega | exact h8 trivial | contradiction | (first | omega | (simp at h8; done))); done)
                  all_goals
                  refine SatC.seq ?_
                  refine SatC.region ?_
                  refine SatL.pu (RunV.assign rfl) rfl ?_
                  refine SatL.nil (SatE.thenC ?_)
                  refine SatC.ret (SatE.blk_ret (SatE.then_ret ?_))
                  refine SatE.ret1 rfl rfl ?_
                  first
                  | exact addc_err (by unfold addCE; (repeat' split) <;> first | rfl | (exfalso; simp_all; done) | (exfalso; simp_all; omega) | (exfalso; omega)) (by decide) hw (hS.sel (by repeat constructor))
                  | (have e : addCE S id sv note p = 0 := (by unfold addCE; (repeat' split) <;> first | rfl | (exfalso; simp_all; done) | (exfalso; simp_all; omega) | (exfalso; omega))
                     refine ⟨by rw [e], _, _, fun _ => ⟨hb, rfl⟩, fun h0 => absurd e h0, Agt.addC (ms := ms) (mc := mc) (t := ⟨id, sv, note, hb, ck0 p⟩) hs16 hc16 hsu hcu htg hck hmS (by assumption) (pok_kind hp) hmp8, ?_⟩
                     have hS2 := hS.sel (R := hblk ⟨id, sv, note, hb, ck0 p⟩ :: LO b S.node S.addr ms mc oS o8 D) (by repeat constructor)
                     obtain ⟨M, hM⟩ := hbl_pt S.ch ⟨id, sv, note, hb, ck0 p⟩
                     refine (hS2.perm (L' := LO b S.node S.addr ms mc oS o8 (tbl S.sv ++ (pt Ch.id S.ch ⟨id, sv, note, hb, ck0 p⟩).map hblk) ++ M) ?_).sub (List.sublist_append_left _ _)
                     subst D
                     exact addc_perm hM)
                · (try simp only [cx, ne_eq] at h8)
                  try (exfalso; (first | omega | exact h8 trivial | contradiction | (first | omega | (simp at h8; done))); done)
                  all_goals
                  refine SatC.skip (SatE.blk_normal (SatE.thenC ?_))
                  refine SatC.seq ?_
                  refine SatC.drawnT 19 hS (hS) (by kernel_rfl) ?_
                  clear hS
                  intro w11 hh hS hD
                  refine SatD.tk 0 rfl hD (fun _ hw => RunV.move rfl) ?_
                  first | refine SatD.tk 1 rfl hD (fun _ hw => RunV.nil_ptr rfl) ?_ | refine SatD.tk 1 rfl hD (fun _ hw => RunV.nil_func rfl) ?_ | refine SatD.tk 1 rfl hD (fun _ hw => RunV.nil_yield rfl) ?_
                  first | refine SatD.tk 2 rfl hD (fun _ hw => RunV.fieldAddrL rfl rfl rfl) ?_ | refine SatD.tk 2 rfl hD (fun _ hw => RunV.fieldAddr rfl rfl rfl) ?_
                  refine SatD.tk 3 rfl hD (fun _ hw => RunV.load1 hw rfl rfl (by repeat constructor) rfl) ?_
                  first | refine SatD.tk 4 rfl hD (fun _ hw => RunV.fieldAddrL rfl rfl rfl) ?_ | refine SatD.tk 4 rfl hD (fun _ hw => RunV.fieldAddr rfl rfl rfl) ?_
                  refine SatD.tk 5 rfl hD (fun _ hw => RunV.load1 hw rfl rfl (by repeat constructor) rfl) ?_
                  refine SatD.tk 6 rfl hD (fun _ hw => RunV.move rfl) ?_
                  first | refine SatD.tk 7 rfl hD (fun _ hw => RunV.nil_ptr rfl) ?_ | refine SatD.tk 7 rfl hD (fun _ hw => RunV.nil_func rfl) ?_ | refine SatD.tk 7 rfl hD (fun _ hw => RunV.nil_yield rfl) ?_
                  first | refine SatD.tk 8 rfl hD (fun _ hw => RunV.fieldAddrL rfl rfl rfl) ?_ | refine SatD.tk 8 rfl hD (fun _ hw => RunV.fieldAddr rfl rfl rfl) ?_
                  refine SatD.tk 9 rfl hD (fun _ hw => RunV.load1 hw rfl rfl (by repeat constructor) rfl) ?_
                  first | refine SatD.tk 10 rfl hD (fun _ hw => RunV.fieldAddrL rfl rfl rfl) ?_ | refine SatD.tk 10 rfl hD (fun _ hw => RunV.fieldAddr rfl rfl rfl) ?_
                  refine SatD.tk 11 rfl hD (fun _ hw => RunV.load1 hw rfl rfl (by repeat constructor) rfl) ?_
                  first | refine SatD.tk 12 rfl hD (fun _ hw => RunV.fieldAddrL rfl rfl rfl) ?_ | refine SatD.tk 12 rfl hD (fun _ hw => RunV.fieldAddr rfl rfl rfl) ?_
                  refine SatD.tk 13 rfl hD (fun _ hw => RunV.load1 hw rfl rfl (by repeat constructor) rfl) ?_
                  first | refine SatD.tk 14 rfl hD (fun _ hw => RunV.fieldAddrL rfl rfl rfl) ?_ | refine SatD.tk 14 rfl hD (fun _ hw => RunV.fieldAddr rfl rfl rfl) ?_
                  refine SatD.tk 15 rfl hD (fun _ hw => RunV.load1 hw rfl rfl (by repeat constructor) rfl) ?_
                  refine SatD.tk 16 rfl hD (fun _ hw => RunV.build rfl (by simp [go_sem]; try rfl)) ?_
                  refine SatD.tk 17 rfl hD (fun _ hw => RunV.move rfl) ?_
                  refine SatD.tk 18 rfl hD (fun _ hw => RunV.build rfl (by simp [go_sem]; try rfl)) ?_
                  refine SatD.effF (by kernel_rfl) rfl rfl (OpW.mapUpdateM (keyL rfl) hS rfl rfl rfl rfl hmC _ (fun o' => by repeat constructor) ?_)
                  clear hS
                  intro o8 w12 hmp8 hS
                  refine SatD.done 0 (by kernel_rfl) (SatE.thenC ?_)
                  clear hD
                  refine SatC.seq ?_
                  refine SatC.weak (e' := [(6, _)]) (by repeat constructor) ?_
                  refine SatC.region ?_
                  refine SatL.pu (RunV.assign rfl) rfl ?_
                  refine SatL.nil (SatE.thenC ?_)
                  refine SatC.ret ?_
                  refine SatE.ret1 rfl rfl ?_
                  first
                  | exact addc_err (by unfold addCE; (repeat' split) <;> first | rfl | (exfalso; simp_all; done) | (exfalso; simp_all; omega) | (exfalso; omega)) (by decide) hw (hS.sel (by repeat constructor))
                  | (have e : addCE S id sv note p = 0 := (by unfold addCE; (repeat' split) <;> first | rfl | (exfalso; simp_all; done) | (exfalso; simp_all; omega) | (exfalso; omega))
                     refine ⟨by rw [e], _, _, fun _ => ⟨hb, rfl⟩, fun h0 => absurd e h0, Agt.addC (ms := ms) (mc := mc) (t := ⟨id, sv, note, hb, ck0 p⟩) hs16 hc16 hsu hcu htg hck hmS (by assumption) (pok_kind hp) hmp8, ?_⟩
                     have hS2 := hS.sel (R := hblk ⟨id, sv, note, hb, ck0 p⟩ :: LO b S.node S.addr ms mc oS o8 D) (by repeat constructor)
                     obtain ⟨M, hM⟩ := hbl_pt S.ch ⟨id, sv, note, hb, ck0 p⟩
                     refine (hS2.perm (L' := LO b S.node S.addr ms mc oS o8 (tbl S.sv ++ (pt Ch.id S.ch ⟨id, sv, note, hb, ck0 p⟩).map hblk) ++ M) ?_).sub (List.sublist_append_left _ _)
                     subst D
                     exact addc_perm hM)
          · (try simp only [cx, ne_eq] at h5)
            try (exfalso; (first | omega | exact h5 trivial | contradiction | (first | omega | (simp at h5; done))); done)
            all_goals
            refine SatL.guard_n rfl rfl rfl rfl ?_
            refine SatL.pu (RunV.pick_f rfl rfl) rfl ?_
            refine SatL.pu (RunV.assign rfl) rfl ?_
            refine SatL.nil (SatE.thenC ?_)
            refine SatC.weak (e' := [(0, _), (4, _), (6, _), (9, _), (10, _), (49, _)]) (by repeat constructor) ?_
            refine SatC.cond_f rfl ?_
            refine SatC.seq ?_
            refine SatC.region ?_
            refine SatL.pu (RunV.move rfl) rfl ?_
            refine SatL.pu (RunV.neq rfl rfl) rfl ?_
            refine SatL.pu (RunV.assign rfl) rfl ?_
            refine SatL.nil (SatE.thenC ?_)
            refine SatC.cond rfl (fun h6 => ?_) (fun h6 => ?_)
            · (try simp only [cx, ne_eq] at h6)
              try (exfalso; (first | omega | exact h6 trivial | contradiction | (first | omega | (simp at h6; done))); done)
              all_goals
              refine SatC.seq ?_
              refine SatC.region ?_
              refine SatL.pu (RunV.move rfl) rfl ?_
              refine SatL.pu (RunV.assign rfl) rfl ?_
              refine SatL.nil (SatE.thenC ?_)
              refine SatC.ret (SatE.blk_ret (SatE.then_ret ?_))
              refine SatE.ret1 rfl rfl ?_
              first
              | exact addc_err (by unfold addCE; (repeat' split) <;> first | rfl | (exfalso; simp_all; done) | (exfalso; simp_all; omega) | (exfalso; omega)) (by decide) hw (hS.sel (by repeat constructor))
              | (have e : addCE S id sv note p = 0 := (by unfold addCE; (repeat' split) <;> first | rfl | (exfalso; simp_all; done) | (exfalso; simp_all; omega) | (exfalso; omega))
                 refine ⟨by rw [e], _, _, fun _ => ⟨hb, rfl⟩, fun h0 => absurd e h0, Agt.addC (ms := ms) (mc := mc) (t := ⟨id, sv, note, hb, ck0 p⟩) hs16 hc16 hsu hcu htg hck hmS (by assumption) (pok_kind hp) hmp8, ?_⟩
                 have hS2 := hS.sel (R := hblk ⟨id, sv, note, hb, ck0 p⟩ :: LO b S.node S.addr ms mc oS o8 D) (by repeat constructor)
                 obtain ⟨M, hM⟩ := hbl_pt S.ch ⟨id, sv, note, hb, ck0 p⟩
                 refine (hS2.perm (L' := LO b S.node S.addr ms mc oS o8 (tbl S.sv ++ (pt Ch.id S.ch ⟨id, sv, note, hb, ck0 p⟩).map hblk) ++ M) ?_).sub (List.sublist_append_left _ _)
                 subst D
                 exact addc_perm hM)
            · (try simp only [cx, ne_eq] at h6)
              try (exfalso; (first | omega | exact h6 trivial | contradiction | (first | omega | (simp at h6; done))); done)
              all_goals
              refine SatC.seq ?_
              refine SatC.drawnT 8 hS (hS) (by kernel_rfl) ?_
              clear hS
              intro w9 hh hS hD
              refine SatD.tk 0 rfl hD (fun _ hw => RunV.move rfl) ?_
              first | refine SatD.tk 1 rfl hD (fun _ hw => RunV.nil_ptr rfl) ?_ | refine SatD.tk 1 rfl hD (fun _ hw => RunV.nil_func rfl) ?_ | refine SatD.tk 1 rfl hD (fun _ hw => RunV.nil_yield rfl) ?_
              first | refine SatD.tk 2 rfl hD (fun _ hw => RunV.fieldAddrL rfl rfl rfl) ?_ | refine SatD.tk 2 rfl hD (fun _ hw => RunV.fieldAddr rfl rfl rfl) ?_
              refine SatD.tk 3 rfl hD (fun _ hw => RunV.load1 hw rfl rfl (by repeat constructor) rfl) ?_
              first | refine SatD.tk 4 rfl hD (fun _ hw => RunV.fieldAddrL rfl rfl rfl) ?_ | refine SatD.tk 4 rfl hD (fun _ hw => RunV.fieldAddr rfl rfl rfl) ?_
              refine SatD.tk 5 rfl hD (fun _ hw => RunV.load1 hw rfl rfl (by repeat constructor) rfl) ?_
              refine SatD.ef 6 rfl (OpW.enter rfl rfl rfl (rfl) (fullC_any S.ch _ _ _ hmC (hS.ownT (A := [(mc, oC)]) (by repeat constructor))) ?_)
              rintro r10 w10 ⟨rfl, h⟩
              replace hS := St.callN hS h
              refine keepS (hS.sel (by repeat constructor)) (fun hD => ?_)
              refine SatD.tk 7 rfl hD (fun _ hw => RunV.assign rfl) ?_
              refine SatD.done 0 (by kernel_rfl) (SatE.thenC ?_)
              clear hD
              refine SatC.weak (e' := [(0, _), (4, _), (6, _), (9, _), (61, _)]) (by repeat constructor) ?_
              refine SatC.cond rfl (fun h7 => ?_) (fun h7 => ?_)
              · (try simp only [cx, ne_eq] at h7)
                try (exfalso; (first | omega | exact h7 trivial | contradiction | (first | omega | (simp at h7; done))); done)
                all_goals
                refine SatC.seq ?_
                refine SatC.region ?_
                refine SatL.pu (RunV.assign rfl) rfl ?_
                refine SatL.nil (SatE.thenC ?_)
                refine SatC.ret (SatE.blk_ret (SatE.then_ret ?_))
                refine SatE.ret1 rfl rfl ?_
                first
                | exact addc_err (by unfold addCE; (repeat' split) <;> first | rfl | (exfalso; simp_all; done) | (exfalso; simp_all; omega) | (exfalso; omega)) (by decide) hw (hS.sel (by repeat constructor))
                | (have e : addCE S id sv note p = 0 := (by unfold addCE; (repeat' split) <;> first | rfl | (exfalso; simp_all; done) | (exfalso; simp_all; omega) | (exfalso; omega))
                   refine ⟨by rw [e], _, _, fun _ => ⟨hb, rfl⟩, fun h0 => absurd e h0, Agt.addC (ms := ms) (mc := mc) (t := ⟨id, sv, note, hb, ck0 p⟩) hs16 hc16 hsu hcu htg hck hmS (by assumption) (pok_kind hp) hmp8, ?_⟩
                   have hS2 := hS.sel (R := hblk ⟨id, sv, note, hb, ck0 p⟩ :: LO b S.node S.addr ms mc oS o8 D) (by repeat constructor)
                   obtain ⟨M, hM⟩ := hbl_pt S.ch ⟨id, sv, note, hb, ck0 p⟩
                   refine (hS2.perm (L' := LO b S.node S.addr ms mc oS o8 (tbl S.sv ++ (pt Ch.id S.ch ⟨id, sv, note, hb, ck0 p⟩).map hblk) ++ M) ?_).sub (List.sublist_append_left _ _)
                   subst D
                   exact addc_perm hM)
              · (try simp only [cx, ne_eq] at h7)
                try (exfalso; (first | omega | exact h7 trivial | contradiction | (first | omega | (simp at h7; done))); done)
                all_goals
                refine SatC.skip (SatE.blk_normal (SatE.thenC ?_))
                refine SatC.seq ?_
                refine SatC.drawnT 19 hS (hS) (by kernel_rfl) ?_
                clear hS
                intro w11 hh hS hD
                refine SatD.tk 0 rfl hD (fun _ hw => RunV.move rfl) ?_
                first | refine SatD.tk 1 rfl hD (fun _ hw => RunV.nil_ptr rfl) ?_ | refine SatD.tk 1 rfl hD (fun _ hw => RunV.nil_func rfl) ?_ | refine SatD.tk 1 rfl hD (fun _ hw => RunV.nil_yield rfl) ?_
                first | refine SatD.tk 2 rfl hD (fun _ hw => RunV.fieldAddrL rfl rfl rfl) ?_ | refine SatD.tk 2 rfl hD (fun _ hw => RunV.fieldAddr rfl rfl rfl) ?_
                refine SatD.tk 3 rfl hD (fun _ hw => RunV.load1 hw rfl rfl (by repeat constructor) rfl) ?_
                first | refine SatD.tk 4 rfl hD (fun _ hw => RunV.fieldAddrL rfl rfl rfl) ?_ | refine SatD.tk 4 rfl hD (fun _ hw => RunV.fieldAddr rfl rfl rfl) ?_
                refine SatD.tk 5 rfl hD (fun _ hw => RunV.load1 hw rfl rfl (by repeat constructor) rfl) ?_
                refine SatD.tk 6 rfl hD (fun _ hw => RunV.move rfl) ?_
                first | refine SatD.tk 7 rfl hD (fun _ hw => RunV.nil_ptr rfl) ?_ | refine SatD.tk 7 rfl hD (fun _ hw => RunV.nil_func rfl) ?_ | refine SatD.tk 7 rfl hD (fun _ hw => RunV.nil_yield rfl) ?_
                first | refine SatD.tk 8 rfl hD (fun _ hw => RunV.fieldAddrL rfl rfl rfl) ?_ | refine SatD.tk 8 rfl hD (fun _ hw => RunV.fieldAddr rfl rfl rfl) ?_
                refine SatD.tk 9 rfl hD (fun _ hw => RunV.load1 hw rfl rfl (by repeat constructor) rfl) ?_
                first | refine SatD.tk 10 rfl hD (fun _ hw => RunV.fieldAddrL rfl rfl rfl) ?_ | refine SatD.tk 10 rfl hD (fun _ hw => RunV.fieldAddr rfl rfl rfl) ?_
                refine SatD.tk 11 rfl hD (fun _ hw => RunV.load1 hw rfl rfl (by repeat constructor) rfl) ?_
                first | refine SatD.tk 12 rfl hD (fun _ hw => RunV.fieldAddrL rfl rfl rfl) ?_ | refine SatD.tk 12 rfl hD (fun _ hw => RunV.fieldAddr rfl rfl rfl) ?_
                refine SatD.tk 13 rfl hD (fun _ hw => RunV.load1 hw rfl rfl (by repeat constructor) rfl) ?_
                first | refine SatD.tk 14 rfl hD (fun _ hw => RunV.fieldAddrL rfl rfl rfl) ?_ | refine SatD.tk 14 rfl hD (fun _ hw => RunV.fieldAddr rfl rfl rfl) ?_
                refine SatD.tk 15 rfl hD (fun _ hw => RunV.load1 hw rfl rfl (by repeat constructor) rfl) ?_
                refine SatD.tk 16 rfl hD (fun _ hw => RunV.build rfl (by simp [go_sem]; try rfl)) ?_
                refine SatD.tk 17 rfl hD (fun _ hw => RunV.move rfl) ?_
                refine SatD.tk 18 rfl hD (fun _ hw => RunV.build rfl (by simp [go_sem]; try rfl)) ?_
                refine SatD.effF (by kernel_rfl) rfl rfl (OpW.mapUpdateM (keyL rfl) hS rfl rfl rfl rfl hmC _ (fun o' => by repeat constructor) ?_)
                clear hS
                intro o8 w12 hmp8 hS
                refine SatD.done 0 (by kernel_rfl) (SatE.thenC ?_)
                clear hD
                refine SatC.seq ?_
                refine SatC.weak (e' := [(6, _)]) (by repeat constructor) ?_
                refine SatC.region ?_
                refine SatL.pu (RunV.assign rfl) rfl ?_
                refine SatL.nil (SatE.thenC ?_)
                refine SatC.ret ?_
                refine SatE.ret1 rfl rfl ?_
                first
                | exact addc_err (by unfold addCE; (repeat' split) <;> first | rfl | (exfalso; simp_all; done) | (exfalso; simp_all; omega) | (exfalso; omega)) (by decide) hw (hS.sel (by repeat constructor))
                | (have e : addCE S id sv note p = 0 := (by unfold addCE; (repeat' split) <;> first | rfl | (exfalso; simp_all; done) | (exfalso; simp_all; omega) | (exfalso; omega))
                   refine ⟨by rw [e], _, _, fun _ => ⟨hb, rfl⟩, fun h0 => absurd e h0, Agt.addC (ms := ms) (mc := mc) (t := ⟨id, sv, note, hb, ck0 p⟩) hs16 hc16 hsu hcu htg hck hmS (by assumption) (pok_kind hp) hmp8, ?_⟩
                   have hS2 := hS.sel (R := hblk ⟨id, sv, note, hb, ck0 p⟩ :: LO b S.node S.addr ms mc oS o8 D) (by repeat constructor)
                   obtain ⟨M, hM⟩ := hbl_pt S.ch ⟨id, sv, note, hb, ck0 p⟩
                   refine (hS2.perm (L' := LO b S.node S.addr ms mc oS o8 (tbl S.sv ++ (pt Ch.id S.ch ⟨id, sv, note, hb, ck0 p⟩).map hblk) ++ M) ?_).sub (List.sublist_append_left _ _)
                   subst D
                   exact addc_perm hM)
    · (try simp only [cx, ne_eq] at h2)
      try (exfalso; (first | omega | exact h2 trivial | contradiction | (first | omega | (simp at h2; done))); done)
      all_goals
      refine SatL.guard_n rfl rfl rfl rfl ?_
      refine SatL.guard_n rfl rfl rfl rfl ?_
      refine SatL.guard_n rfl rfl rfl rfl ?_
      refine SatL.guard_u rfl rfl rfl ?_
      refine SatL.guard_u rfl rfl rfl ?_
      refine SatL.guard_u rfl rfl rfl ?_
      refine SatL.guard_u rfl rfl rfl ?_
      refine SatL.guard_n rfl rfl rfl rfl ?_
      refine SatL.pu (RunV.pick_t rfl rfl) rfl ?_
      refine SatL.pu (RunV.assign rfl) rfl ?_
      refine SatL.nil (SatE.thenC ?_)
      refine SatC.weak (e' := [(0, _), (4, _), (6, _), (8, _), (9, _), (10, _), (28, _)]) (by repeat constructor) ?_
      refine SatC.cond_t rfl ?_
      refine SatC.seq ?_
      refine SatC.region ?_
      refine SatL.pu (RunV.assign rfl) rfl ?_
      refine SatL.nil (SatE.thenC ?_)
      refine SatC.ret (SatE.blk_ret (SatE.then_ret ?_))
      refine SatE.ret1 rfl rfl ?_
      first
      | exact addc_err (by unfold addCE; (repeat' split) <;> first | rfl | (exfalso; simp_all; done) | (exfalso; simp_all; omega) | (exfalso; omega)) (by decide) hw (hS.sel (by repeat constructor))
      | (have e : addCE S id sv note p = 0 := (by unfold addCE; (repeat' split) <;> first | rfl | (exfalso; simp_all; done) | (exfalso; simp_all; omega) | (exfalso; omega))
         refine ⟨by rw [e], _, _, fun _ => ⟨hb, rfl⟩, fun h0 => absurd e h0, Agt.addC (ms := ms) (mc := mc) (t := ⟨id, sv, note, hb, ck0 p⟩) hs16 hc16 hsu hcu htg hck hmS (by assumption) (pok_kind hp) hmp8, ?_⟩
         have hS2 := hS.sel (R := hblk ⟨id, sv, note, hb, ck0 p⟩ :: LO b S.node S.addr ms mc oS o8 D) (by repeat constructor)
         obtain ⟨M, hM⟩ := hbl_pt S.ch ⟨id, sv, note, hb, ck0 p⟩
         refine (hS2.perm (L' := LO b S.node S.addr ms mc oS o8 (tbl S.sv ++ (pt Ch.id S.ch ⟨id, sv, note, hb, ck0 p⟩).map hblk) ++ M) ?_).sub (List.sublist_append_left _ _)
         subst D
         exact addc_perm hM)
theorem addc_no (cn st mk ix : Int) (id sv note : List UInt8) (p : Pl) (hp : ¬ Pok p) (hnl : note.length ≤ 9223372036854775807) (h : Agt b S L) (hown : Own w L) :
    Ret Try.prog 16 #[.pointer (some ⟨b, 0, none⟩), .agg #[.int .i64 cn, str id, str sv, str note, .int .i64 st, .int .u64 mk, .int .u64 ix], .agg (plc p).toArray] w fun u w' => u = .int .i64 (addCE S id sv note p) ∧ ∃ S' L', (addCE S id sv note p = 0 → ∃ hb, S' = aAddC S ⟨id, sv, note, hb, ck0 p⟩) ∧ (¬ addCE S id sv note p = 0 → S' = S) ∧ Agt b S' L' ∧ St w (L.map Prod.fst) L' w' := by
  have hw := h
  obtain ⟨hs16, hc16, hsu, hcu, htg, hck, ms, mc, oS, oC, hmS, hmC, rfl⟩ := h
  have hS := St.init hown
  generalize hX : (LO b S.node S.addr ms mc oS oC (tbl S.sv ++ S.ch.map hblk)).map Prod.fst = X at hS ⊢
  generalize hD : tbl S.sv ++ S.ch.map hblk = D at hS hw
  obtain ⟨z0, z1, z2, z3, z4, z5, z6, hz, hz1, hzs⟩ := lookS S.node S.sv sv fun s hs => (htg s hs).1.one
  refine Ret.enter Try.func16 Try.ntmps16 rfl rfl ?_
  simp only [argEnv, Nat.reduceAdd]
  refine SatC.seq ?_
  refine SatC.region ?_
  refine SatL.op rfl (OpW.box hS rfl rfl (by repeat constructor) ?_)
  clear hS
  intro b4 w1 _ hS
  refine SatL.op rfl (OpW.box hS rfl rfl (by repeat constructor) ?_)
  clear hS
  intro b5 w2 _ hS
  refine SatL.pu (RunV.assign rfl) rfl ?_
  refine SatL.nil (SatE.thenC ?_)
  refine SatC.seq ?_
  refine SatC.seq ?_
  refine SatC.region ?_
  refine SatL.pu (RunV.move rfl) rfl ?_
  refine SatL.op rfl (OpW.enter rfl rfl rfl (rfl) (lnone_any (hS.ownT (A := [(b, C 63 (lcc S.node S.addr ms mc))]) (by repeat constructor))) ?_)
  rintro r3 w3 ⟨rfl, h⟩
  replace hS := St.callN hS h
  refine SatL.nil (SatE.thenC ?_)
  refine SatC.cond rfl (fun h1 => ?_) (fun h1 => ?_)
  · (try simp only [cx, ne_eq] at h1)
    try (exfalso; (first | omega | exact h1 trivial | contradiction | (first | omega | (simp at h1; done))); done)
    all_goals
    refine SatC.seq ?_
    refine SatC.region ?_
    refine SatL.pu (RunV.assign rfl) rfl ?_
    refine SatL.nil (SatE.thenC ?_)
    refine SatC.ret (SatE.then_ret ?_)
    refine SatE.ret1 rfl rfl ?_
    exact addc_err (by unfold addCE; (repeat' split) <;> first | rfl | (exfalso; simp_all; done) | (exfalso; simp_all; omega) | (exfalso; omega)) (by decide) hw (hS.sel (by repeat constructor))
  · (try simp only [cx, ne_eq] at h1)
    try (exfalso; (first | omega | exact h1 trivial | contradiction | (first | omega | (simp at h1; done))); done)
    all_goals
    refine SatC.skip (SatE.thenC ?_)
    refine SatC.seq ?_
    refine SatC.drawnT 13 hS (hS) (by kernel_rfl) ?_
    clear hS
    intro w4 hh hS hD
    refine SatD.tk 0 rfl hD (fun _ hw => RunV.move rfl) ?_
    first | refine SatD.tk 1 rfl hD (fun _ hw => RunV.nil_ptr rfl) ?_ | refine SatD.tk 1 rfl hD (fun _ hw => RunV.nil_func rfl) ?_ | refine SatD.tk 1 rfl hD (fun _ hw => RunV.nil_yield rfl) ?_
    first | refine SatD.tk 2 rfl hD (fun _ hw => RunV.fieldAddrL rfl rfl rfl) ?_ | refine SatD.tk 2 rfl hD (fun _ hw => RunV.fieldAddr rfl rfl rfl) ?_
    refine SatD.tk 3 rfl hD (fun _ hw => RunV.load1 hw rfl rfl (by repeat constructor) rfl) ?_
    first | refine SatD.tk 4 rfl hD (fun _ hw => RunV.fieldAddrL rfl rfl rfl) ?_ | refine SatD.tk 4 rfl hD (fun _ hw => RunV.fieldAddr rfl rfl rfl) ?_
    refine SatD.tk 5 rfl hD (fun _ hw => RunV.load1 hw rfl rfl (by repeat constructor) rfl) ?_
    refine SatD.tk 6 rfl hD (fun _ hw => RunV.cast (v' := .tuple #[.agg #[z0, z1, z2, z3, z4, z5, z6], .bool (gt Sv.id S.sv sv).isSome]) (RunV.lookup2 (keyL rfl) hw rfl rfl rfl rfl (by repeat constructor) hmS.is) (by rw [hzs]; exact congrArg (fun z => Value.tuple #[z, _]) hz)) ?_
    refine SatD.tk 7 rfl hD (fun _ hw => RunV.move rfl) ?_
    refine SatD.tk 8 rfl hD (fun _ hw => RunV.extract rfl rfl) ?_
    refine SatD.tk 9 rfl hD (fun _ hw => RunV.extract rfl rfl) ?_
    refine SatD.ef 10 rfl (OpW.alloc hS rfl rfl (by repeat constructor) ?_)
    clear hS
    intro b7 w5 _ hS
    refine keepS (hS.sel (by repeat constructor)) (fun hD => ?_)
    refine SatD.ef 11 rfl (OpW.store hS rfl rfl (by repeat constructor) (by repeat constructor) (by repeat constructor) rfl hz1 ?_)
    clear hS
    intro w6 hS
    refine keepS (hS.sel (by repeat constructor)) (fun hD => ?_)
    refine SatD.tk 12 rfl hD (fun _ hw => RunV.assign rfl) ?_
    refine SatD.done 0 (by kernel_rfl) (SatE.thenC ?_)
    clear hD
    refine SatC.seq ?_
    refine SatC.weak (e' := [(0, _), (4, _), (5, _), (6, _), (8, _)]) (by repeat constructor) ?_
    refine SatC.region ?_
    refine SatL.pu (RunV.loadN hS rfl rfl (by repeat constructor) (by repeat constructor)) rfl ?_
    refine SatL.op rfl (OpW.enter rfl rfl rfl (rfl) (new_no p _ hp) ?_)
    rintro r7 w7 ⟨rfl, h⟩
    replace hS := St.callN hS h
    refine SatL.pu (RunV.move rfl) rfl ?_
    refine SatL.pu (RunV.extract rfl rfl) rfl ?_
    refine SatL.pu (RunV.extract rfl rfl) rfl ?_
    refine SatL.pu (RunV.assign rfl) rfl ?_
    refine SatL.pu (RunV.assign rfl) rfl ?_
    refine SatL.nil (SatE.thenC ?_)
    refine SatC.seq ?_
    refine SatC.block ?_
    refine SatC.seq ?_
    refine SatC.region ?_
    first | refine SatL.pu (RunV.fieldAddrL rfl rfl rfl) rfl ?_ | refine SatL.pu (RunV.fieldAddr rfl rfl rfl) rfl ?_
    refine SatL.pu (RunV.load1 hS rfl rfl (by repeat constructor) rfl) rfl ?_
    refine SatL.op rfl (OpW.enter rfl rfl rfl (rfl) (right_any _ _) ?_)
    rintro r8 w8 ⟨rfl, h⟩
    replace hS := St.callN hS h
    refine SatL.pu (RunV.not rfl) rfl ?_
    refine SatL.pu (RunV.move rfl) rfl ?_
    refine SatL.guard rfl rfl rfl (fun h2 => ?_) (fun h2 => ?_)
    · (try simp only [cx, ne_eq] at h2)
      try (exfalso; (first | omega | exact h2 trivial | contradiction | (first | omega | (simp at h2; done))); done)
      all_goals
      first | refine SatL.pu (RunV.fieldAddrL rfl rfl rfl) rfl ?_ | refine SatL.pu (RunV.fieldAddr rfl rfl rfl) rfl ?_
      refine SatL.guard_y rfl rfl ?_
      refine SatL.pu (RunV.load1 hS rfl rfl (by repeat constructor) rfl) rfl ?_
      refine SatL.guard_y rfl rfl ?_
      refine SatL.pu (RunV.sneq rfl rfl) rfl ?_
      refine SatL.guard_y rfl rfl ?_
      refine SatL.pu (RunV.move rfl) rfl ?_
      refine SatL.guard rfl rfl rfl (fun h3 => ?_) (fun h3 => ?_)
      · (try simp only [cx, ne_eq] at h3)
        try (exfalso; (first | omega | exact h3 trivial | contradiction | (first | omega | (simp at h3; done))); done)
        all_goals
        first | refine SatL.pu (RunV.fieldAddrL rfl rfl rfl) rfl ?_ | refine SatL.pu (RunV.fieldAddr rfl rfl rfl) rfl ?_
        refine SatL.guard_y rfl rfl ?_
        refine SatL.pu (RunV.load1 hS rfl rfl (by repeat constructor) rfl) rfl ?_
        refine SatL.guard_y rfl rfl ?_
        refine SatL.op rfl (OpW.enter rfl rfl rfl (rfl) (right_any _ _) ?_)
        rintro r9 w9 ⟨rfl, h⟩
        replace hS := St.callN hS h
        refine SatL.guard_y rfl rfl ?_
        refine SatL.pu (RunV.not rfl) rfl ?_
        refine SatL.guard_y rfl rfl ?_
        refine SatL.pu (RunV.pick_t rfl rfl) rfl ?_
        refine SatL.pu (RunV.pick_f rfl rfl) rfl ?_
        refine SatL.pu (RunV.assign rfl) rfl ?_
        refine SatL.nil (SatE.thenC ?_)
        refine SatC.weak (e' := [(0, _), (4, _), (6, _), (8, _), (9, _), (10, _), (28, _)]) (by repeat constructor) ?_
        refine SatC.cond rfl (fun h4 => ?_) (fun h4 => ?_)
        · (try simp only [cx, ne_eq] at h4)
          try (exfalso; (first | omega | exact h4 trivial | contradiction | (first | omega | (simp at h4; done))); done)
          all_goals
          refine SatC.seq ?_
          refine SatC.region ?_
          refine SatL.pu (RunV.assign rfl) rfl ?_
          refine SatL.nil (SatE.thenC ?_)
          refine SatC.ret (SatE.blk_ret (SatE.then_ret ?_))
          refine SatE.ret1 rfl rfl ?_
          exact addc_err (by unfold addCE; (repeat' split) <;> first | rfl | (exfalso; simp_all; done) | (exfalso; simp_all; omega) | (exfalso; omega)) (by decide) hw (hS.sel (by repeat constructor))
        · (try simp only [cx, ne_eq] at h4)
          try (exfalso; (first | omega | exact h4 trivial | contradiction | (first | omega | (simp at h4; done))); done)
          all_goals
          refine SatC.seq ?_
          refine SatC.region ?_
          first | refine SatL.pu (RunV.fieldAddrL rfl rfl rfl) rfl ?_ | refine SatL.pu (RunV.fieldAddr rfl rfl rfl) rfl ?_
          refine SatL.pu (RunV.load1 hS rfl rfl (by repeat constructor) rfl) rfl ?_
          refine SatL.pu (RunV.lenB rfl rfl) rfl ?_
          refine SatL.pu (RunV.gtr rfl rfl) rfl ?_
          refine SatL.pu (RunV.assign rfl) rfl ?_
          refine SatL.nil (SatE.thenC ?_)
          refine SatC.cond rfl (fun h5 => ?_) (fun h5 => ?_)
          · (try simp only [cx, ne_eq] at h5)
            try (exfalso; (first | omega | exact h5 trivial | contradiction | (first | omega | (simp at h5; done))); done)
            all_goals
            refine SatC.seq ?_
            refine SatC.region ?_
            refine SatL.pu (RunV.assign rfl) rfl ?_
            refine SatL.nil (SatE.thenC ?_)
            refine SatC.ret (SatE.blk_ret (SatE.then_ret ?_))
            refine SatE.ret1 rfl rfl ?_
            exact addc_err (by unfold addCE; (repeat' split) <;> first | rfl | (exfalso; simp_all; done) | (exfalso; simp_all; omega) | (exfalso; omega)) (by decide) hw (hS.sel (by repeat constructor))
          · (try simp only [cx, ne_eq] at h5)
            try (exfalso; (first | omega | exact h5 trivial | contradiction | (first | omega | (simp at h5; done))); done)
            all_goals
            refine SatC.seq ?_
            refine SatC.region ?_
            first | refine SatL.pu (RunV.fieldAddrL rfl rfl rfl) rfl ?_ | refine SatL.pu (RunV.fieldAddr rfl rfl rfl) rfl ?_
            refine SatL.pu (RunV.load1 hS rfl rfl (by repeat constructor) rfl) rfl ?_
            refine SatL.pu (RunV.sneq rfl rfl) rfl ?_
            refine SatL.pu (RunV.move rfl) rfl ?_
            refine SatL.guard rfl rfl rfl (fun h6 => ?_) (fun h6 => ?_)
            · (try simp only [cx, ne_eq] at h6)
              try (exfalso; (first | omega | exact h6 trivial | contradiction | (first | omega | (simp at h6; done))); done)
              all_goals
              refine SatL.pu (RunV.move rfl) rfl ?_
              refine SatL.guard_y rfl rfl ?_
              refine SatL.pu (RunV.not rfl) rfl ?_
              refine SatL.pu (RunV.pick_t rfl rfl) rfl ?_
              refine SatL.pu (RunV.assign rfl) rfl ?_
              refine SatL.nil (SatE.thenC ?_)
              refine SatC.weak (e' := [(0, _), (4, _), (6, _), (9, _), (10, _), (49, _)]) (by repeat constructor) ?_
              refine SatC.cond rfl (fun h7 => ?_) (fun h7 => ?_)
              · (try simp only [cx, ne_eq] at h7)
                try (exfalso; (first | omega | exact h7 trivial | contradiction | (first | omega | (simp at h7; done))); done)
                all_goals
                refine SatC.seq ?_
                refine SatC.region ?_
                refine SatL.pu (RunV.assign rfl) rfl ?_
                refine SatL.nil (SatE.thenC ?_)
                refine SatC.ret (SatE.blk_ret (SatE.then_ret ?_))
                refine SatE.ret1 rfl rfl ?_
                exact addc_err (by unfold addCE; (repeat' split) <;> first | rfl | (exfalso; simp_all; done) | (exfalso; simp_all; omega) | (exfalso; omega)) (by decide) hw (hS.sel (by repeat constructor))
              · (try simp only [cx, ne_eq] at h7)
                try (exfalso; (first | omega | exact h7 trivial | contradiction | (first | omega | (simp at h7; done))); done)
                all_goals
                refine SatC.seq ?_
                refine SatC.region ?_
                refine SatL.pu (RunV.move rfl) rfl ?_
                refine SatL.pu (RunV.neq rfl rfl) rfl ?_
                refine SatL.pu (RunV.assign rfl) rfl ?_
                refine SatL.nil (SatE.thenC ?_)
                refine SatC.cond rfl (fun h8 => ?_) (fun h8 => ?_)
                · (try simp only [cx, ne_eq] at h8)
                  try (exfalso; (first | omega | exact h8 trivial | contradiction | (first | omega | (simp at h8; done))); done)
                  all_goals
                  refine SatC.seq ?_
                  refine SatC.region ?_
                  refine SatL.pu (RunV.move rfl) rfl ?_
                  refine SatL.pu (RunV.assign rfl) rfl ?_
                  refine SatL.nil (SatE.thenC ?_)
                  refine SatC.ret (SatE.blk_ret (SatE.then_ret ?_))
                  refine SatE.ret1 rfl rfl ?_
                  exact addc_err (by unfold addCE; (repeat' split) <;> first | rfl | (exfalso; simp_all; done) | (exfalso; simp_all; omega) | (exfalso; omega)) (by decide) hw (hS.sel (by repeat constructor))
                · (try simp only [cx, ne_eq] at h8)
                  try (exfalso; (first | omega | exact h8 trivial | contradiction | (first | omega | (simp at h8; done))); done)
                  all_goals
                  refine SatC.seq ?_
                  refine SatC.drawnT 8 hS (hS) (by kernel_rfl) ?_
                  clear hS
                  intro w10 hh hS hD
                  refine SatD.tk 0 rfl hD (fun _ hw => RunV.move rfl) ?_
                  first | refine SatD.tk 1 rfl hD (fun _ hw => RunV.nil_ptr rfl) ?_ | refine SatD.tk 1 rfl hD (fun _ hw => RunV.nil_func rfl) ?_ | refine SatD.tk 1 rfl hD (fun _ hw => RunV.nil_yield rfl) ?_
                  first | refine SatD.tk 2 rfl hD (fun _ hw => RunV.fieldAddrL rfl rfl rfl) ?_ | refine SatD.tk 2 rfl hD (fun _ hw => RunV.fieldAddr rfl rfl rfl) ?_
                  refine SatD.tk 3 rfl hD (fun _ hw => RunV.load1 hw rfl rfl (by repeat constructor) rfl) ?_
                  first | refine SatD.tk 4 rfl hD (fun _ hw => RunV.fieldAddrL rfl rfl rfl) ?_ | refine SatD.tk 4 rfl hD (fun _ hw => RunV.fieldAddr rfl rfl rfl) ?_
                  refine SatD.tk 5 rfl hD (fun _ hw => RunV.load1 hw rfl rfl (by repeat constructor) rfl) ?_
                  refine SatD.ef 6 rfl (OpW.enter rfl rfl rfl (rfl) (fullC_any S.ch _ _ _ hmC (hS.ownT (A := [(mc, oC)]) (by repeat constructor))) ?_)
                  rintro r11 w11 ⟨rfl, h⟩
                  replace hS := St.callN hS h
                  refine keepS (hS.sel (by repeat constructor)) (fun hD => ?_)
                  refine SatD.tk 7 rfl hD (fun _ hw => RunV.assign rfl) ?_
                  refine SatD.done 0 (by kernel_rfl) (SatE.thenC ?_)
                  clear hD
                  refine SatC.weak (e' := [(0, _), (4, _), (6, _), (9, _), (61, _)]) (by repeat constructor) ?_
                  refine SatC.cond rfl (fun h9 => ?_) (fun h9 => ?_)
                  · (try simp only [cx, ne_eq] at h9)
                    try (exfalso; (first | omega | exact h9 trivial | contradiction | (first | omega | (simp at h9; done))); done)
                    all_goals
                    refine SatC.seq ?_
                    refine SatC.region ?_
                    refine SatL.pu (RunV.assign rfl) rfl ?_
                    refine SatL.nil (SatE.thenC ?_)
                    refine SatC.ret (SatE.blk_ret (SatE.then_ret ?_))
                    refine SatE.ret1 rfl rfl ?_
                    exact addc_err (by unfold addCE; (repeat' split) <;> first | rfl | (exfalso; simp_all; done) | (exfalso; simp_all; omega) | (exfalso; omega)) (by decide) hw (hS.sel (by repeat constructor))
                  · (try simp only [cx, ne_eq] at h9)
                    try (exfalso; (first | omega | exact h9 trivial | contradiction | (first | omega | (simp at h9; done))); done)
                    all_goals
                    refine SatC.skip (SatE.blk_normal (SatE.thenC ?_))
                    refine SatC.seq ?_
                    refine SatC.drawnT 19 hS (hS) (by kernel_rfl) ?_
                    clear hS
                    intro w12 hh hS hD
                    refine SatD.tk 0 rfl hD (fun _ hw => RunV.move rfl) ?_
                    first | refine SatD.tk 1 rfl hD (fun _ hw => RunV.nil_ptr rfl) ?_ | refine SatD.tk 1 rfl hD (fun _ hw => RunV.nil_func rfl) ?_ | refine SatD.tk 1 rfl hD (fun _ hw => RunV.nil_yield rfl) ?_
                    first | refine SatD.tk 2 rfl hD (fun _ hw => RunV.fieldAddrL rfl rfl rfl) ?_ | refine SatD.tk 2 rfl hD (fun _ hw => RunV.fieldAddr rfl rfl rfl) ?_
                    refine SatD.tk 3 rfl hD (fun _ hw => RunV.load1 hw rfl rfl (by repeat constructor) rfl) ?_
                    first | refine SatD.tk 4 rfl hD (fun _ hw => RunV.fieldAddrL rfl rfl rfl) ?_ | refine SatD.tk 4 rfl hD (fun _ hw => RunV.fieldAddr rfl rfl rfl) ?_
                    refine SatD.tk 5 rfl hD (fun _ hw => RunV.load1 hw rfl rfl (by repeat constructor) rfl) ?_
                    refine SatD.tk 6 rfl hD (fun _ hw => RunV.move rfl) ?_
                    first | refine SatD.tk 7 rfl hD (fun _ hw => RunV.nil_ptr rfl) ?_ | refine SatD.tk 7 rfl hD (fun _ hw => RunV.nil_func rfl) ?_ | refine SatD.tk 7 rfl hD (fun _ hw => RunV.nil_yield rfl) ?_
                    first | refine SatD.tk 8 rfl hD (fun _ hw => RunV.fieldAddrL rfl rfl rfl) ?_ | refine SatD.tk 8 rfl hD (fun _ hw => RunV.fieldAddr rfl rfl rfl) ?_
                    refine SatD.tk 9 rfl hD (fun _ hw => RunV.load1 hw rfl rfl (by repeat constructor) rfl) ?_
                    first | refine SatD.tk 10 rfl hD (fun _ hw => RunV.fieldAddrL rfl rfl rfl) ?_ | refine SatD.tk 10 rfl hD (fun _ hw => RunV.fieldAddr rfl rfl rfl) ?_
                    refine SatD.tk 11 rfl hD (fun _ hw => RunV.load1 hw rfl rfl (by repeat constructor) rfl) ?_
                    first | refine SatD.tk 12 rfl hD (fun _ hw => RunV.fieldAddrL rfl rfl rfl) ?_ | refine SatD.tk 12 rfl hD (fun _ hw => RunV.fieldAddr rfl rfl rfl) ?_
                    refine SatD.tk 13 rfl hD (fun _ hw => RunV.load1 hw rfl rfl (by repeat constructor) rfl) ?_
                    first | refine SatD.tk 14 rfl hD (fun _ hw => RunV.fieldAddrL rfl rfl rfl) ?_ | refine SatD.tk 14 rfl hD (fun _ hw => RunV.fieldAddr rfl rfl rfl) ?_
                    refine SatD.tk 15 rfl hD (fun _ hw => RunV.load1 hw rfl rfl (by repeat constructor) rfl) ?_
                    refine SatD.tk 16 rfl hD (fun _ hw => RunV.build rfl (by simp [go_sem]; try rfl)) ?_
                    refine SatD.tk 17 rfl hD (fun _ hw => RunV.move rfl) ?_
                    refine SatD.tk 18 rfl hD (fun _ hw => RunV.build rfl (by simp [go_sem]; try rfl)) ?_
                    refine SatD.effF (by kernel_rfl) rfl rfl (OpW.mapUpdate (keyStr rfl) hS rfl rfl rfl rfl (by assumption) _ (fun o' => by repeat constructor) ?_)
                    clear hS
                    intro o13 w13 ho13 hS
                    refine SatD.done 0 (by kernel_rfl) (SatE.thenC ?_)
                    clear hD
                    refine SatC.seq ?_
                    refine SatC.weak (e' := [(6, _)]) (by repeat constructor) ?_
                    refine SatC.region ?_
                    refine SatL.pu (RunV.assign rfl) rfl ?_
                    refine SatL.nil (SatE.thenC ?_)
                    refine SatC.ret ?_
                    refine SatE.ret1 rfl rfl ?_
                    exact addc_err (by unfold addCE; (repeat' split) <;> first | rfl | (exfalso; simp_all; done) | (exfalso; simp_all; omega) | (exfalso; omega)) (by decide) hw (hS.sel (by repeat constructor))
            · (try simp only [cx, ne_eq] at h6)
              try (exfalso; (first | omega | exact h6 trivial | contradiction | (first | omega | (simp at h6; done))); done)
              all_goals
              refine SatL.guard_n rfl rfl rfl rfl ?_
              refine SatL.pu (RunV.pick_f rfl rfl) rfl ?_
              refine SatL.pu (RunV.assign rfl) rfl ?_
              refine SatL.nil (SatE.thenC ?_)
              refine SatC.weak (e' := [(0, _), (4, _), (6, _), (9, _), (10, _), (49, _)]) (by repeat constructor) ?_
              refine SatC.cond_f rfl ?_
              refine SatC.seq ?_
              refine SatC.region ?_
              refine SatL.pu (RunV.move rfl) rfl ?_
              refine SatL.pu (RunV.neq rfl rfl) rfl ?_
              refine SatL.pu (RunV.assign rfl) rfl ?_
              refine SatL.nil (SatE.thenC ?_)
              refine SatC.cond rfl (fun h7 => ?_) (fun h7 => ?_)
              · (try simp only [cx, ne_eq] at h7)
                try (exfalso; (first | omega | exact h7 trivial | contradiction | (first | omega | (simp at h7; done))); done)
                all_goals
                refine SatC.seq ?_
                refine SatC.region ?_
                refine SatL.pu (RunV.move rfl) rfl ?_
                refine SatL.pu (RunV.assign rfl) rfl ?_
                refine SatL.nil (SatE.thenC ?_)
                refine SatC.ret (SatE.blk_ret (SatE.then_ret ?_))
                refine SatE.ret1 rfl rfl ?_
                exact addc_err (by unfold addCE; (repeat' split) <;> first | rfl | (exfalso; simp_all; done) | (exfalso; simp_all; omega) | (exfalso; omega)) (by decide) hw (hS.sel (by repeat constructor))
              · (try simp only [cx, ne_eq] at h7)
                try (exfalso; (first | omega | exact h7 trivial | contradiction | (first | omega | (simp at h7; done))); done)
                all_goals
                refine SatC.seq ?_
                refine SatC.drawnT 8 hS (hS) (by kernel_rfl) ?_
                clear hS
                intro w10 hh hS hD
                refine SatD.tk 0 rfl hD (fun _ hw => RunV.move rfl) ?_
                first | refine SatD.tk 1 rfl hD (fun _ hw => RunV.nil_ptr rfl) ?_ | refine SatD.tk 1 rfl hD (fun _ hw => RunV.nil_func rfl) ?_ | refine SatD.tk 1 rfl hD (fun _ hw => RunV.nil_yield rfl) ?_
                first | refine SatD.tk 2 rfl hD (fun _ hw => RunV.fieldAddrL rfl rfl rfl) ?_ | refine SatD.tk 2 rfl hD (fun _ hw => RunV.fieldAddr rfl rfl rfl) ?_
                refine SatD.tk 3 rfl hD (fun _ hw => RunV.load1 hw rfl rfl (by repeat constructor) rfl) ?_
                first | refine SatD.tk 4 rfl hD (fun _ hw => RunV.fieldAddrL rfl rfl rfl) ?_ | refine SatD.tk 4 rfl hD (fun _ hw => RunV.fieldAddr rfl rfl rfl) ?_
                refine SatD.tk 5 rfl hD (fun _ hw => RunV.load1 hw rfl rfl (by repeat constructor) rfl) ?_
                refine SatD.ef 6 rfl (OpW.enter rfl rfl rfl (rfl) (fullC_any S.ch _ _ _ hmC (hS.ownT (A := [(mc, oC)]) (by repeat constructor))) ?_)
                rintro r11 w11 ⟨rfl, h⟩
                replace hS := St.callN hS h
                refine keepS (hS.sel (by repeat constructor)) (fun hD => ?_)
                refine SatD.tk 7 rfl hD (fun _ hw => RunV.assign rfl) ?_
                refine SatD.done 0 (by kernel_rfl) (SatE.thenC ?_)
                clear hD
                refine SatC.weak (e' := [(0, _), (4, _), (6, _), (9, _), (61, _)]) (by repeat constructor) ?_
                refine SatC.cond rfl (fun h8 => ?_) (fun h8 => ?_)
                · (try simp only [cx, ne_eq] at h8)
                  try (exfalso; (first | omega | exact h8 trivial | contradiction | (first | omega | (simp at h8; done))); done)
                  all_goals
                  refine SatC.seq ?_
                  refine SatC.region ?_
                  refine SatL.pu (RunV.assign rfl) rfl ?_
                  refine SatL.nil (SatE.thenC ?_)
                  refine SatC.ret (SatE.blk_ret (SatE.then_ret ?_))
                  refine SatE.ret1 rfl rfl ?_
                  exact addc_err (by unfold addCE; (repeat' split) <;> first | rfl | (exfalso; simp_all; done) | (exfalso; simp_all; omega) | (exfalso; omega)) (by decide) hw (hS.sel (by repeat constructor))
                · (try simp only [cx, ne_eq] at h8)
                  try (exfalso; (first | omega | exact h8 trivial | contradiction | (first | omega | (simp at h8; done))); done)
                  all_goals
                  refine SatC.skip (SatE.blk_normal (SatE.thenC ?_))
                  refine SatC.seq ?_
                  refine SatC.drawnT 19 hS (hS) (by kernel_rfl) ?_
                  clear hS
                  intro w12 hh hS hD
                  refine SatD.tk 0 rfl hD (fun _ hw => RunV.move rfl) ?_
                  first | refine SatD.tk 1 rfl hD (fun _ hw => RunV.nil_ptr rfl) ?_ | refine SatD.tk 1 rfl hD (fun _ hw => RunV.nil_func rfl) ?_ | refine SatD.tk 1 rfl hD (fun _ hw => RunV.nil_yield rfl) ?_
                  first | refine SatD.tk 2 rfl hD (fun _ hw => RunV.fieldAddrL rfl rfl rfl) ?_ | refine SatD.tk 2 rfl hD (fun _ hw => RunV.fieldAddr rfl rfl rfl) ?_
                  refine SatD.tk 3 rfl hD (fun _ hw => RunV.load1 hw rfl rfl (by repeat constructor) rfl) ?_
                  first | refine SatD.tk 4 rfl hD (fun _ hw => RunV.fieldAddrL rfl rfl rfl) ?_ | refine SatD.tk 4 rfl hD (fun _ hw => RunV.fieldAddr rfl rfl rfl) ?_
                  refine SatD.tk 5 rfl hD (fun _ hw => RunV.load1 hw rfl rfl (by repeat constructor) rfl) ?_
                  refine SatD.tk 6 rfl hD (fun _ hw => RunV.move rfl) ?_
                  first | refine SatD.tk 7 rfl hD (fun _ hw => RunV.nil_ptr rfl) ?_ | refine SatD.tk 7 rfl hD (fun _ hw => RunV.nil_func rfl) ?_ | refine SatD.tk 7 rfl hD (fun _ hw => RunV.nil_yield rfl) ?_
                  first | refine SatD.tk 8 rfl hD (fun _ hw => RunV.fieldAddrL rfl rfl rfl) ?_ | refine SatD.tk 8 rfl hD (fun _ hw => RunV.fieldAddr rfl rfl rfl) ?_
                  refine SatD.tk 9 rfl hD (fun _ hw => RunV.load1 hw rfl rfl (by repeat constructor) rfl) ?_
                  first | refine SatD.tk 10 rfl hD (fun _ hw => RunV.fieldAddrL rfl rfl rfl) ?_ | refine SatD.tk 10 rfl hD (fun _ hw => RunV.fieldAddr rfl rfl rfl) ?_
                  refine SatD.tk 11 rfl hD (fun _ hw => RunV.load1 hw rfl rfl (by repeat constructor) rfl) ?_
                  first | refine SatD.tk 12 rfl hD (fun _ hw => RunV.fieldAddrL rfl rfl rfl) ?_ | refine SatD.tk 12 rfl hD (fun _ hw => RunV.fieldAddr rfl rfl rfl) ?_
                  refine SatD.tk 13 rfl hD (fun _ hw => RunV.load1 hw rfl rfl (by repeat constructor) rfl) ?_
                  first | refine SatD.tk 14 rfl hD (fun _ hw => RunV.fieldAddrL rfl rfl rfl) ?_ | refine SatD.tk 14 rfl hD (fun _ hw => RunV.fieldAddr rfl rfl rfl) ?_
                  refine SatD.tk 15 rfl hD (fun _ hw => RunV.load1 hw rfl rfl (by repeat constructor) rfl) ?_
                  refine SatD.tk 16 rfl hD (fun _ hw => RunV.build rfl (by simp [go_sem]; try rfl)) ?_
                  refine SatD.tk 17 rfl hD (fun _ hw => RunV.move rfl) ?_
                  refine SatD.tk 18 rfl hD (fun _ hw => RunV.build rfl (by simp [go_sem]; try rfl)) ?_
                  refine SatD.effF (by kernel_rfl) rfl rfl (OpW.mapUpdate (keyStr rfl) hS rfl rfl rfl rfl (by assumption) _ (fun o' => by repeat constructor) ?_)
                  clear hS
                  intro o13 w13 ho13 hS
                  refine SatD.done 0 (by kernel_rfl) (SatE.thenC ?_)
                  clear hD
                  refine SatC.seq ?_
                  refine SatC.weak (e' := [(6, _)]) (by repeat constructor) ?_
                  refine SatC.region ?_
                  refine SatL.pu (RunV.assign rfl) rfl ?_
                  refine SatL.nil (SatE.thenC ?_)
                  refine SatC.ret ?_
                  refine SatE.ret1 rfl rfl ?_
                  exact addc_err (by unfold addCE; (repeat' split) <;> first | rfl | (exfalso; simp_all; done) | (exfalso; simp_all; omega) | (exfalso; omega)) (by decide) hw (hS.sel (by repeat constructor))
      · (try simp only [cx, ne_eq] at h3)
        try (exfalso; (first | omega | exact h3 trivial | contradiction | (first | omega | (simp at h3; done))); done)
        all_goals
        refine SatL.guard_n rfl rfl rfl rfl ?_
        refine SatL.guard_n rfl rfl rfl rfl ?_
        refine SatL.guard_n rfl rfl rfl rfl ?_
        refine SatL.guard_y rfl rfl ?_
        refine SatL.pu (RunV.pick_f rfl rfl) rfl ?_
        refine SatL.pu (RunV.pick_f rfl rfl) rfl ?_
        refine SatL.pu (RunV.assign rfl) rfl ?_
        refine SatL.nil (SatE.thenC ?_)
        refine SatC.weak (e' := [(0, _), (4, _), (6, _), (8, _), (9, _), (10, _), (28, _)]) (by repeat constructor) ?_
        refine SatC.cond_f rfl ?_
        refine SatC.seq ?_
        refine SatC.region ?_
        first | refine SatL.pu (RunV.fieldAddrL rfl rfl rfl) rfl ?_ | refine SatL.pu (RunV.fieldAddr rfl rfl rfl) rfl ?_
        refine SatL.pu (RunV.load1 hS rfl rfl (by repeat constructor) rfl) rfl ?_
        refine SatL.pu (RunV.lenB rfl rfl) rfl ?_
        refine SatL.pu (RunV.gtr rfl rfl) rfl ?_
        refine SatL.pu (RunV.assign rfl) rfl ?_
        refine SatL.nil (SatE.thenC ?_)
        refine SatC.cond rfl (fun h4 => ?_) (fun h4 => ?_)
        · (try simp only [cx, ne_eq] at h4)
          try (exfalso; (first | omega | exact h4 trivial | contradiction | (first | omega | (simp at h4; done))); done)
          all_goals
          refine SatC.seq ?_
          refine SatC.region ?_
          refine SatL.pu (RunV.assign rfl) rfl ?_
          refine SatL.nil (SatE.thenC ?_)
          refine SatC.ret (SatE.blk_ret (SatE.then_ret ?_))
          refine SatE.ret1 rfl rfl ?_
          exact addc_err (by unfold addCE; (repeat' split) <;> first | rfl | (exfalso; simp_all; done) | (exfalso; simp_all; omega) | (exfalso; omega)) (by decide) hw (hS.sel (by repeat constructor))
        · (try simp only [cx, ne_eq] at h4)
          try (exfalso; (first | omega | exact h4 trivial | contradiction | (first | omega | (simp at h4; done))); done)
          all_goals
          refine SatC.seq ?_
          refine SatC.region ?_
          first | refine SatL.pu (RunV.fieldAddrL rfl rfl rfl) rfl ?_ | refine SatL.pu (RunV.fieldAddr rfl rfl rfl) rfl ?_
          refine SatL.pu (RunV.load1 hS rfl rfl (by repeat constructor) rfl) rfl ?_
          refine SatL.pu (RunV.sneq rfl rfl) rfl ?_
          refine SatL.pu (RunV.move rfl) rfl ?_
          refine SatL.guard rfl rfl rfl (fun h5 => ?_) (fun h5 => ?_)
          · (try simp only [cx, ne_eq] at h5)
            try (exfalso; (first | omega | exact h5 trivial | contradiction | (first | omega | (simp at h5; done))); done)
            all_goals
            refine SatL.pu (RunV.move rfl) rfl ?_
            refine SatL.guard_y rfl rfl ?_
            refine SatL.pu (RunV.not rfl) rfl ?_
            refine SatL.pu (RunV.pick_t rfl rfl) rfl ?_
            refine SatL.pu (RunV.assign rfl) rfl ?_
            refine SatL.nil (SatE.thenC ?_)
            refine SatC.weak (e' := [(0, _), (4, _), (6, _), (9, _), (10, _), (49, _)]) (by repeat constructor) ?_
            refine SatC.cond rfl (fun h6 => ?_) (fun h6 => ?_)
            · (try simp only [cx, ne_eq] at h6)
              try (exfalso; (first | omega | exact h6 trivial | contradiction | (first | omega | (simp at h6; done))); done)
              all_goals
              refine SatC.seq ?_
              refine SatC.region ?_
              refine SatL.pu (RunV.assign rfl) rfl ?_
              refine SatL.nil (SatE.thenC ?_)
              refine SatC.ret (SatE.blk_ret (SatE.then_ret ?_))
              refine SatE.ret1 rfl rfl ?_
              exact addc_err (by unfold addCE; (repeat' split) <;> first | rfl | (exfalso; simp_all; done) | (exfalso; simp_all; omega) | (exfalso; omega)) (by decide) hw (hS.sel (by repeat constructor))
            · (try simp only [cx, ne_eq] at h6)
              try (exfalso; (first | omega | exact h6 trivial | contradiction | (first | omega | (simp at h6; done))); done)
              all_goals
              refine SatC.seq ?_
              refine SatC.region ?_
              refine SatL.pu (RunV.move rfl) rfl ?_
              refine SatL.pu (RunV.neq rfl rfl) rfl ?_
              refine SatL.pu (RunV.assign rfl) rfl ?_
              refine SatL.nil (SatE.thenC ?_)
              refine SatC.cond rfl (fun h7 => ?_) (fun h7 => ?_)
              · (try simp only [cx, ne_eq] at h7)
                try (exfalso; (first | omega | exact h7 trivial | contradiction | (first | omega | (simp at h7; done))); done)
                all_goals
                refine SatC.seq ?_
                refine SatC.region ?_
                refine SatL.pu (RunV.move rfl) rfl ?_
                refine SatL.pu (RunV.assign rfl) rfl ?_
                refine SatL.nil (SatE.thenC ?_)
                refine SatC.ret (SatE.blk_ret (SatE.then_ret ?_))
                refine SatE.ret1 rfl rfl ?_
                exact addc_err (by unfold addCE; (repeat' split) <;> first | rfl | (exfalso; simp_all; done) | (exfalso; simp_all; omega) | (exfalso; omega)) (by decide) hw (hS.sel (by repeat constructor))
              · (try simp only [cx, ne_eq] at h7)
                try (exfalso; (first | omega | exact h7 trivial | contradiction | (first | omega | (simp at h7; done))); done)
                all_goals
                refine SatC.seq ?_
                refine SatC.drawnT 8 hS (hS) (by kernel_rfl) ?_
                clear hS
                intro w9 hh hS hD
                refine SatD.tk 0 rfl hD (fun _ hw => RunV.move rfl) ?_
                first | refine SatD.tk 1 rfl hD (fun _ hw => RunV.nil_ptr rfl) ?_ | refine SatD.tk 1 rfl hD (fun _ hw => RunV.nil_func rfl) ?_ | refine SatD.tk 1 rfl hD (fun _ hw => RunV.nil_yield rfl) ?_
                first | refine SatD.tk 2 rfl hD (fun _ hw => RunV.fieldAddrL rfl rfl rfl) ?_ | refine SatD.tk 2 rfl hD (fun _ hw => RunV.fieldAddr rfl rfl rfl) ?_
                refine SatD.tk 3 rfl hD (fun _ hw => RunV.load1 hw rfl rfl (by repeat constructor) rfl) ?_
                first | refine SatD.tk 4 rfl hD (fun _ hw => RunV.fieldAddrL rfl rfl rfl) ?_ | refine SatD.tk 4 rfl hD (fun _ hw => RunV.fieldAddr rfl rfl rfl) ?_
                refine SatD.tk 5 rfl hD (fun _ hw => RunV.load1 hw rfl rfl (by repeat constructor) rfl) ?_
                refine SatD.ef 6 rfl (OpW.enter rfl rfl rfl (rfl) (fullC_any S.ch _ _ _ hmC (hS.ownT (A := [(mc, oC)]) (by repeat constructor))) ?_)
                rintro r10 w10 ⟨rfl, h⟩
                replace hS := St.callN hS h
                refine keepS (hS.sel (by repeat constructor)) (fun hD => ?_)
                refine SatD.tk 7 rfl hD (fun _ hw => RunV.assign rfl) ?_
                refine SatD.done 0 (by kernel_rfl) (SatE.thenC ?_)
                clear hD
                refine SatC.weak (e' := [(0, _), (4, _), (6, _), (9, _), (61, _)]) (by repeat constructor) ?_
                refine SatC.cond rfl (fun h8 => ?_) (fun h8 => ?_)
                · (try simp only [cx, ne_eq] at h8)
                  try (exfalso; (first | omega | exact h8 trivial | contradiction | (first | omega | (simp at h8; done))); done)
                  all_goals
                  refine SatC.seq ?_
                  refine SatC.region ?_
                  refine SatL.pu (RunV.assign rfl) rfl ?_
                  refine SatL.nil (SatE.thenC ?_)
                  refine SatC.ret (SatE.blk_ret (SatE.then_ret ?_))
                  refine SatE.ret1 rfl rfl ?_
                  exact addc_err (by unfold addCE; (repeat' split) <;> first | rfl | (exfalso; simp_all; done) | (exfalso; simp_all; omega) | (exfalso; omega)) (by decide) hw (hS.sel (by repeat constructor))
                · (try simp only [cx, ne_eq] at h8)
                  try (exfalso; (first | omega | exact h8 trivial | contradiction | (first | omega | (simp at h8; done))); done)
                  all_goals
                  refine SatC.skip (SatE.blk_normal (SatE.thenC ?_))
                  refine SatC.seq ?_
                  refine SatC.drawnT 19 hS (hS) (by kernel_rfl) ?_
                  clear hS
                  intro w11 hh hS hD
                  refine SatD.tk 0 rfl hD (fun _ hw => RunV.move rfl) ?_
                  first | refine SatD.tk 1 rfl hD (fun _ hw => RunV.nil_ptr rfl) ?_ | refine SatD.tk 1 rfl hD (fun _ hw => RunV.nil_func rfl) ?_ | refine SatD.tk 1 rfl hD (fun _ hw => RunV.nil_yield rfl) ?_
                  first | refine SatD.tk 2 rfl hD (fun _ hw => RunV.fieldAddrL rfl rfl rfl) ?_ | refine SatD.tk 2 rfl hD (fun _ hw => RunV.fieldAddr rfl rfl rfl) ?_
                  refine SatD.tk 3 rfl hD (fun _ hw => RunV.load1 hw rfl rfl (by repeat constructor) rfl) ?_
                  first | refine SatD.tk 4 rfl hD (fun _ hw => RunV.fieldAddrL rfl rfl rfl) ?_ | refine SatD.tk 4 rfl hD (fun _ hw => RunV.fieldAddr rfl rfl rfl) ?_
                  refine SatD.tk 5 rfl hD (fun _ hw => RunV.load1 hw rfl rfl (by repeat constructor) rfl) ?_
                  refine SatD.tk 6 rfl hD (fun _ hw => RunV.move rfl) ?_
                  first | refine SatD.tk 7 rfl hD (fun _ hw => RunV.nil_ptr rfl) ?_ | refine SatD.tk 7 rfl hD (fun _ hw => RunV.nil_func rfl) ?_ | refine SatD.tk 7 rfl hD (fun _ hw => RunV.nil_yield rfl) ?_
                  first | refine SatD.tk 8 rfl hD (fun _ hw => RunV.fieldAddrL rfl rfl rfl) ?_ | refine SatD.tk 8 rfl hD (fun _ hw => RunV.fieldAddr rfl rfl rfl) ?_
                  refine SatD.tk 9 rfl hD (fun _ hw => RunV.load1 hw rfl rfl (by repeat constructor) rfl) ?_
                  first | refine SatD.tk 10 rfl hD (fun _ hw => RunV.fieldAddrL rfl rfl rfl) ?_ | refine SatD.tk 10 rfl hD (fun _ hw => RunV.fieldAddr rfl rfl rfl) ?_
                  refine SatD.tk 11 rfl hD (fun _ hw => RunV.load1 hw rfl rfl (by repeat constructor) rfl) ?_
                  first | refine SatD.tk 12 rfl hD (fun _ hw => RunV.fieldAddrL rfl rfl rfl) ?_ | refine SatD.tk 12 rfl hD (fun _ hw => RunV.fieldAddr rfl rfl rfl) ?_
                  refine SatD.tk 13 rfl hD (fun _ hw => RunV.load1 hw rfl rfl (by repeat constructor) rfl) ?_
                  first | refine SatD.tk 14 rfl hD (fun _ hw => RunV.fieldAddrL rfl rfl rfl) ?_ | refine SatD.tk 14 rfl hD (fun _ hw => RunV.fieldAddr rfl rfl rfl) ?_
                  refine SatD.tk 15 rfl hD (fun _ hw => RunV.load1 hw rfl rfl (by repeat constructor) rfl) ?_
                  refine SatD.tk 16 rfl hD (fun _ hw => RunV.build rfl (by simp [go_sem]; try rfl)) ?_
                  refine SatD.tk 17 rfl hD (fun _ hw => RunV.move rfl) ?_
                  refine SatD.tk 18 rfl hD (fun _ hw => RunV.build rfl (by simp [go_sem]; try rfl)) ?_
                  refine SatD.effF (by kernel_rfl) rfl rfl (OpW.mapUpdate (keyStr rfl) hS rfl rfl rfl rfl (by assumption) _ (fun o' => by repeat constructor) ?_)
                  clear hS
                  intro o12 w12 ho12 hS
                  refine SatD.done 0 (by kernel_rfl) (SatE.thenC ?_)
                  clear hD
                  refine SatC.seq ?_
                  refine SatC.weak (e' := [(6, _)]) (by repeat constructor) ?_
                  refine SatC.region ?_
                  refine SatL.pu (RunV.assign rfl) rfl ?_
                  refine SatL.nil (SatE.thenC ?_)
                  refine SatC.ret ?_
                  refine SatE.ret1 rfl rfl ?_
                  exact addc_err (by unfold addCE; (repeat' split) <;> first | rfl | (exfalso; simp_all; done) | (exfalso; simp_all; omega) | (exfalso; omega)) (by decide) hw (hS.sel (by repeat constructor))
          · (try simp only [cx, ne_eq] at h5)
            try (exfalso; (first | omega | exact h5 trivial | contradiction | (first | omega | (simp at h5; done))); done)
            all_goals
            refine SatL.guard_n rfl rfl rfl rfl ?_
            refine SatL.pu (RunV.pick_f rfl rfl) rfl ?_
            refine SatL.pu (RunV.assign rfl) rfl ?_
            refine SatL.nil (SatE.thenC ?_)
            refine SatC.weak (e' := [(0, _), (4, _), (6, _), (9, _), (10, _), (49, _)]) (by repeat constructor) ?_
            refine SatC.cond_f rfl ?_
            refine SatC.seq ?_
            refine SatC.region ?_
            refine SatL.pu (RunV.move rfl) rfl ?_
            refine SatL.pu (RunV.neq rfl rfl) rfl ?_
            refine SatL.pu (RunV.assign rfl) rfl ?_
            refine SatL.nil (SatE.thenC ?_)
            refine SatC.cond rfl (fun h6 => ?_) (fun h6 => ?_)
            · (try simp only [cx, ne_eq] at h6)
              try (exfalso; (first | omega | exact h6 trivial | contradiction | (first | omega | (simp at h6; done))); done)
              all_goals
              refine SatC.seq ?_
              refine SatC.region ?_
              refine SatL.pu (RunV.move rfl) rfl ?_
              refine SatL.pu (RunV.assign rfl) rfl ?_
              refine SatL.nil (SatE.thenC ?_)
              refine SatC.ret (SatE.blk_ret (SatE.then_ret ?_))
              refine SatE.ret1 rfl rfl ?_
              exact addc_err (by unfold addCE; (repeat' split) <;> first | rfl | (exfalso; simp_all; done) | (exfalso; simp_all; omega) | (exfalso; omega)) (by decide) hw (hS.sel (by repeat constructor))
            · (try simp only [cx, ne_eq] at h6)
              try (exfalso; (first | omega | exact h6 trivial | contradiction | (first | omega | (simp at h6; done))); done)
              all_goals
              refine SatC.seq ?_
              refine SatC.drawnT 8 hS (hS) (by kernel_rfl) ?_
              clear hS
              intro w9 hh hS hD
              refine SatD.tk 0 rfl hD (fun _ hw => RunV.move rfl) ?_
              first | refine SatD.tk 1 rfl hD (fun _ hw => RunV.nil_ptr rfl) ?_ | refine SatD.tk 1 rfl hD (fun _ hw => RunV.nil_func rfl) ?_ | refine SatD.tk 1 rfl hD (fun _ hw => RunV.nil_yield rfl) ?_
              first | refine SatD.tk 2 rfl hD (fun _ hw => RunV.fieldAddrL rfl rfl rfl) ?_ | refine SatD.tk 2 rfl hD (fun _ hw => RunV.fieldAddr rfl rfl rfl) ?_
              refine SatD.tk 3 rfl hD (fun _ hw => RunV.load1 hw rfl rfl (by repeat constructor) rfl) ?_
              first | refine SatD.tk 4 rfl hD (fun _ hw => RunV.fieldAddrL rfl rfl rfl) ?_ | refine SatD.tk 4 rfl hD (fun _ hw => RunV.fieldAddr rfl rfl rfl) ?_
              refine SatD.tk 5 rfl hD (fun _ hw => RunV.load1 hw rfl rfl (by repeat constructor) rfl) ?_
              refine SatD.ef 6 rfl (OpW.enter rfl rfl rfl (rfl) (fullC_any S.ch _ _ _ hmC (hS.ownT (A := [(mc, oC)]) (by repeat constructor))) ?_)
              rintro r10 w10 ⟨rfl, h⟩
              replace hS := St.callN hS h
              refine keepS (hS.sel (by repeat constructor)) (fun hD => ?_)
              refine SatD.tk 7 rfl hD (fun _ hw => RunV.assign rfl) ?_
              refine SatD.done 0 (by kernel_rfl) (SatE.thenC ?_)
              clear hD
              refine SatC.weak (e' := [(0, _), (4, _), (6, _), (9, _), (61, _)]) (by repeat constructor) ?_
              refine SatC.cond rfl (fun h7 => ?_) (fun h7 => ?_)
              · (try simp only [cx, ne_eq] at h7)
                try (exfalso; (first | omega | exact h7 trivial | contradiction | (first | omega | (simp at h7; done))); done)
                all_goals
                refine SatC.seq ?_
                refine SatC.region ?_
                refine SatL.pu (RunV.assign rfl) rfl ?_
                refine SatL.nil (SatE.thenC ?_)
                refine SatC.ret (SatE.blk_ret (SatE.then_ret ?_))
                refine SatE.ret1 rfl rfl ?_
                exact addc_err (by unfold addCE; (repeat' split) <;> first | rfl | (exfalso; simp_all; done) | (exfalso; simp_all; omega) | (exfalso; omega)) (by decide) hw (hS.sel (by repeat constructor))
              · (try simp only [cx, ne_eq] at h7)
                try (exfalso; (first | omega | exact h7 trivial | contradiction | (first | omega | (simp at h7; done))); done)
                all_goals
                refine SatC.skip (SatE.blk_normal (SatE.thenC ?_))
                refine SatC.seq ?_
                refine SatC.drawnT 19 hS (hS) (by kernel_rfl) ?_
                clear hS
                intro w11 hh hS hD
                refine SatD.tk 0 rfl hD (fun _ hw => RunV.move rfl) ?_
                first | refine SatD.tk 1 rfl hD (fun _ hw => RunV.nil_ptr rfl) ?_ | refine SatD.tk 1 rfl hD (fun _ hw => RunV.nil_func rfl) ?_ | refine SatD.tk 1 rfl hD (fun _ hw => RunV.nil_yield rfl) ?_
                first | refine SatD.tk 2 rfl hD (fun _ hw => RunV.fieldAddrL rfl rfl rfl) ?_ | refine SatD.tk 2 rfl hD (fun _ hw => RunV.fieldAddr rfl rfl rfl) ?_
                refine SatD.tk 3 rfl hD (fun _ hw => RunV.load1 hw rfl rfl (by repeat constructor) rfl) ?_
                first | refine SatD.tk 4 rfl hD (fun _ hw => RunV.fieldAddrL rfl rfl rfl) ?_ | refine SatD.tk 4 rfl hD (fun _ hw => RunV.fieldAddr rfl rfl rfl) ?_
                refine SatD.tk 5 rfl hD (fun _ hw => RunV.load1 hw rfl rfl (by repeat constructor) rfl) ?_
                refine SatD.tk 6 rfl hD (fun _ hw => RunV.move rfl) ?_
                first | refine SatD.tk 7 rfl hD (fun _ hw => RunV.nil_ptr rfl) ?_ | refine SatD.tk 7 rfl hD (fun _ hw => RunV.nil_func rfl) ?_ | refine SatD.tk 7 rfl hD (fun _ hw => RunV.nil_yield rfl) ?_
                first | refine SatD.tk 8 rfl hD (fun _ hw => RunV.fieldAddrL rfl rfl rfl) ?_ | refine SatD.tk 8 rfl hD (fun _ hw => RunV.fieldAddr rfl rfl rfl) ?_
                refine SatD.tk 9 rfl hD (fun _ hw => RunV.load1 hw rfl rfl (by repeat constructor) rfl) ?_
                first | refine SatD.tk 10 rfl hD (fun _ hw => RunV.fieldAddrL rfl rfl rfl) ?_ | refine SatD.tk 10 rfl hD (fun _ hw => RunV.fieldAddr rfl rfl rfl) ?_
                refine SatD.tk 11 rfl hD (fun _ hw => RunV.load1 hw rfl rfl (by repeat constructor) rfl) ?_
                first | refine SatD.tk 12 rfl hD (fun _ hw => RunV.fieldAddrL rfl rfl rfl) ?_ | refine SatD.tk 12 rfl hD (fun _ hw => RunV.fieldAddr rfl rfl rfl) ?_
                refine SatD.tk 13 rfl hD (fun _ hw => RunV.load1 hw rfl rfl (by repeat constructor) rfl) ?_
                first | refine SatD.tk 14 rfl hD (fun _ hw => RunV.fieldAddrL rfl rfl rfl) ?_ | refine SatD.tk 14 rfl hD (fun _ hw => RunV.fieldAddr rfl rfl rfl) ?_
                refine SatD.tk 15 rfl hD (fun _ hw => RunV.load1 hw rfl rfl (by repeat constructor) rfl) ?_
                refine SatD.tk 16 rfl hD (fun _ hw => RunV.build rfl (by simp [go_sem]; try rfl)) ?_
                refine SatD.tk 17 rfl hD (fun _ hw => RunV.move rfl) ?_
                refine SatD.tk 18 rfl hD (fun _ hw => RunV.build rfl (by simp [go_sem]; try rfl)) ?_
                refine SatD.effF (by kernel_rfl) rfl rfl (OpW.mapUpdate (keyStr rfl) hS rfl rfl rfl rfl (by assumption) _ (fun o' => by repeat constructor) ?_)
                clear hS
                intro o12 w12 ho12 hS
                refine SatD.done 0 (by kernel_rfl) (SatE.thenC ?_)
                clear hD
                refine SatC.seq ?_
                refine SatC.weak (e' := [(6, _)]) (by repeat constructor) ?_
                refine SatC.region ?_
                refine SatL.pu (RunV.assign rfl) rfl ?_
                refine SatL.nil (SatE.thenC ?_)
                refine SatC.ret ?_
                refine SatE.ret1 rfl rfl ?_
                exact addc_err (by unfold addCE; (repeat' split) <;> first | rfl | (exfalso; simp_all; done) | (exfalso; simp_all; omega) | (exfalso; omega)) (by decide) hw (hS.sel (by repeat constructor))
    · (try simp only [cx, ne_eq] at h2)
      try (exfalso; (first | omega | exact h2 trivial | contradiction | (first | omega | (simp at h2; done))); done)
      all_goals
      refine SatL.guard_n rfl rfl rfl rfl ?_
      refine SatL.guard_n rfl rfl rfl rfl ?_
      refine SatL.guard_n rfl rfl rfl rfl ?_
      refine SatL.guard_u rfl rfl rfl ?_
      refine SatL.guard_u rfl rfl rfl ?_
      refine SatL.guard_u rfl rfl rfl ?_
      refine SatL.guard_u rfl rfl rfl ?_
      refine SatL.guard_n rfl rfl rfl rfl ?_
      refine SatL.pu (RunV.pick_t rfl rfl) rfl ?_
      refine SatL.pu (RunV.assign rfl) rfl ?_
      refine SatL.nil (SatE.thenC ?_)
      refine SatC.weak (e' := [(0, _), (4, _), (6, _), (8, _), (9, _), (10, _), (28, _)]) (by repeat constructor) ?_
      refine SatC.cond_t rfl ?_
      refine SatC.seq ?_
      refine SatC.region ?_
      refine SatL.pu (RunV.assign rfl) rfl ?_
      refine SatL.nil (SatE.thenC ?_)
      refine SatC.ret (SatE.blk_ret (SatE.then_ret ?_))
      refine SatE.ret1 rfl rfl ?_
      exact addc_err (by unfold addCE; (repeat' split) <;> first | rfl | (exfalso; simp_all; done) | (exfalso; simp_all; omega) | (exfalso; omega)) (by decide) hw (hS.sel (by repeat constructor))
theorem told_d (k : List UInt8) (s : Int) (hbd : ∀ c ∈ S.ch, Bd 1000000 c.h) (h : Agt b S L) (hown : Own w L) :
    Ret Try.prog 26 #[.pointer (some ⟨b, 0, none⟩), str k, .int .i64 s] w fun u w' => u = .int .i64 (match gt Ch.id S.ch k with | none => 4 | some x => toldA x.h s) ∧ ∃ L', Agt b (aHup S k (fun c => toldC c s)) L' ∧ St w (L.map Prod.fst) L' w' := by
  have hS := St.init hown
  refine Ret.enter Try.func26 Try.ntmps26 rfl rfl ?_
  simp only [argEnv, Nat.reduceAdd]
  refine SatC.seq ?_
  refine SatC.region ?_
  refine SatL.pu (RunV.assign rfl) rfl ?_
  refine SatL.nil (SatE.thenC ?_)
  refine SatC.seq ?_
  refine SatC.region ?_
  refine SatL.pu (RunV.move rfl) rfl ?_
  refine SatL.pu (RunV.move rfl) rfl ?_
  refine SatL.pu (RunV.move rfl) rfl ?_
  refine SatL.op rfl (OpW.enter rfl rfl rfl (rfl) (ofT_d k s hbd h (hS.ownT (A := L) (.whole .all))) ?_)
  rintro r1 w1 ⟨rfl, L2, hL2, h⟩
  replace hS := hS.callT (A := L) (.whole .all) h
  refine SatL.pu (RunV.assign rfl) rfl ?_
  refine SatL.nil (SatE.thenC ?_)
  refine SatC.ret ?_
  refine SatE.ret1 rfl rfl ?_
  exact ⟨rfl, L2, hL2, hS.sel (by repeat constructor)⟩
theorem maintain_d (k : List UInt8) (on : Bool) (hbd : ∀ c ∈ S.ch, Bd 1000000 c.h) (h : Agt b S L) (hown : Own w L) :
    Ret Try.prog 27 #[.pointer (some ⟨b, 0, none⟩), str k, .bool on] w fun u w' => u = .int .i64 (match gt Ch.id S.ch k with | none => 4 | some _ => 0) ∧ ∃ L', Agt b (aHup S k (fun c => { c with maint := on })) L' ∧ St w (L.map Prod.fst) L' w' := by
  have hS := St.init hown
  refine Ret.enter Try.func27 Try.ntmps27 rfl rfl ?_
  simp only [argEnv, Nat.reduceAdd]
  refine SatC.seq ?_
  refine SatC.region ?_
  refine SatL.pu (RunV.assign rfl) rfl ?_
  refine SatL.nil (SatE.thenC ?_)
  refine SatC.seq ?_
  refine SatC.region ?_
  refine SatL.pu (RunV.move rfl) rfl ?_
  refine SatL.pu (RunV.move rfl) rfl ?_
  refine SatL.pu (RunV.move rfl) rfl ?_
  refine SatL.op rfl (OpW.enter rfl rfl rfl (rfl) (ofM_d k on hbd h (hS.ownT (A := L) (.whole .all))) ?_)
  rintro r1 w1 ⟨rfl, L2, hL2, h⟩
  replace hS := hS.callT (A := L) (.whole .all) h
  refine SatL.pu (RunV.assign rfl) rfl ?_
  refine SatL.nil (SatE.thenC ?_)
  refine SatC.ret ?_
  refine SatE.ret1 rfl rfl ?_
  exact ⟨rfl, L2, hL2, hS.sel (by repeat constructor)⟩
end
end Go.Proofs.Ytbnkcagcfbpiiaa
