/- The plain law: the program's rows, and the document's list, hold the same intentions. -/
import Derived.Test.YtogohendjjgbiaaIm
set_option linter.unusedSimpArgs false
set_option linter.unusedVariables false
set_option maxRecDepth 100000
set_option maxHeartbeats 4000000
namespace Go.Proofs.Ytogohendjjgbiaa
open Go.RowKit Go.Sort
theorem pat_nosp {s : List UInt8} (h : patI s = true) : ∀ c ∈ s, ¬ c = 32 := by
  intro c hc e
  subst e
  unfold patI at h
  rw [Bool.or_eq_true, decide_eq_true_eq] at h
  rcases h with rfl | h
  · revert hc; decide
  · obtain ⟨k, hk⟩ := List.getElem?_of_mem hc
    have hkl := (List.getElem?_eq_some_iff.1 hk).1
    have := ((okN_iff s).1 h).2 k hkl
    unfold okAt at this
    rw [getD_of hk] at this
    revert this
    simp [pl]
theorem key_inj {s d s' d' : List UInt8} (h1 : patI d = true) (h2 : patI d' = true) (h : keyI s d = keyI s' d') : s = s' ∧ d = d' := by
  have hd : ∀ {s d : List UInt8}, patI d = true → (keyI s d).takeWhile (fun c => decide (¬ c = 32)) = d := fun {s d} hp => by
    unfold keyI
    rw [List.append_assoc, List.takeWhile_append_of_pos (fun c hc => by simpa using pat_nosp hp c hc)]
    simp
  have e : d = d' := by rw [← hd (s := s) h1, h, hd h2]
  subst e
  unfold keyI at h
  exact ⟨(List.append_right_inj (d ++ [32])).1 h, rfl⟩
def KeyOk (r : Tr) : Prop := r.k = keyI r.v.s r.v.d ∧ patI r.v.s = true ∧ patI r.v.d = true
structure Rel (rows : List Tr) (L : List Itn) : Prop where
  asc : Asc rows
  ok : ∀ r ∈ rows, KeyOk r
  perm : L.Perm (rows.map toldI)
  sorted : L.Pairwise fun a b => firstI a b = true
theorem asc_uniq {rows : List Tr} (h : Asc rows) {r r' : Tr} (hr : r ∈ rows) (hr' : r' ∈ rows) (e : r.k = r'.k) : r = r' := by
  obtain ⟨i, hi⟩ := List.getElem?_of_mem hr
  obtain ⟨j, hj⟩ := List.getElem?_of_mem hr'
  obtain ⟨hil, hi⟩ := List.getElem?_eq_some_iff.1 hi
  obtain ⟨hjl, hj⟩ := List.getElem?_eq_some_iff.1 hj
  have hp := List.pairwise_iff_getElem.1 h
  rcases Nat.lt_trichotomy i j with h | h | h
  · have := hp i j hil hjl h
    rw [hi, hj, e] at this
    exact absurd this (lt_irr _)
  · subst h; rw [← hi, ← hj]
  · have := hp j i hjl hil h
    rw [hi, hj, e] at this
    exact absurd this (lt_irr _)
theorem getF_at {rows : List Tr} (h : Asc rows) {r : Tr} (hr : r ∈ rows) : getF rows r.k = (r, true) := by
  unfold getF
  cases hf : rows.find? (fun x => decide (x.k = r.k)) with
  | none =>
    have := List.find?_eq_none.1 hf r hr
    simp at this
  | some r' =>
    have h1 := List.find?_some hf
    have h2 := List.mem_of_find?_eq_some hf
    rw [decide_eq_true_eq] at h1
    rw [asc_uniq h h2 hr h1]
section
variable {rows : List Tr} {L : List Itn}
theorem Rel.len (h : Rel rows L) : L.length = rows.length := by rw [h.perm.length_eq, List.length_map]
theorem Rel.get (h : Rel rows L) {x : Itn} (hx : x ∈ L) : ∃ r ∈ rows, toldI r = x ∧ r.k = keyI x.s x.d ∧ patI x.s = true ∧ patI x.d = true := by
  obtain ⟨r, hr, rfl⟩ := List.mem_map.1 (h.perm.mem_iff.1 hx)
  obtain ⟨h1, h2, h3⟩ := h.ok r hr
  exact ⟨r, hr, rfl, h1, h2, h3⟩
theorem Rel.found (h : Rel rows L) {x : Itn} (hx : x ∈ L) : ∃ r ∈ rows, toldI r = x ∧ getF rows (keyI x.s x.d) = (r, true) := by
  obtain ⟨r, hr, e, hk, _⟩ := h.get hx
  exact ⟨r, hr, e, by rw [← hk]; exact getF_at h.asc hr⟩
theorem Rel.none (h : Rel rows L) {s d : List UInt8} (hd : patI d = true) (hn : ∀ x ∈ L, ¬ (x.s = s ∧ x.d = d)) : (∀ r ∈ rows, ¬ r.k = keyI s d) ∧ getF rows (keyI s d) = (zr, false) := by
  have h1 : ∀ r ∈ rows, ¬ r.k = keyI s d := fun r hr e => by
    obtain ⟨h1, h2, h3⟩ := h.ok r hr
    obtain ⟨e1, e2⟩ := key_inj h3 hd (h1.symm.trans e)
    exact hn (toldI r) (h.perm.mem_iff.2 (List.mem_map_of_mem hr)) ⟨e1, e2⟩
  exact ⟨h1, getF_none h1⟩
theorem first_total {x y : Itn} (hn : ¬ (x.s = y.s ∧ x.d = y.d)) (h : firstI x y = false) : firstI y x = true := by
  unfold firstI at h ⊢
  by_cases hr : rankI x = rankI y
  · rw [if_pos hr] at h
    rw [if_pos hr.symm]
    by_cases hd : x.d = y.d
    · rw [if_pos hd] at h
      rw [if_pos hd.symm]
      rw [decide_eq_false_iff_not] at h
      rw [decide_eq_true_eq]
      rcases lt_tri x.s y.s with h1 | h1 | h1
      · exact absurd h1 h
      · exact absurd ⟨h1, hd⟩ hn
      · exact h1
    · rw [if_neg hd] at h
      rw [if_neg (Ne.symm hd)]
      rw [decide_eq_false_iff_not] at h
      rw [decide_eq_true_eq]
      rcases lt_tri x.d y.d with h1 | h1 | h1
      · exact absurd h1 h
      · exact absurd h1 hd
      · exact h1
  · rw [if_neg hr] at h
    rw [if_neg (Ne.symm hr)]
    rw [decide_eq_false_iff_not] at h
    rw [decide_eq_true_eq]
    omega
theorem first_asym {x y : Itn} (h : firstI x y = true) : firstI y x = false := by
  cases hc : firstI y x
  · rfl
  · have := swo_firstI.trans _ _ _ h hc
    rw [swo_firstI.irrefl] at this; cases this
/-- What List answers is the document's list. -/
theorem Rel.list (h : Rel rows L) {ds : List Itn} (hd : Listed rows ds) : ds = L := by
  refine List.Perm.eq_of_pairwise (le := fun a b => firstI b a = false) (fun a b ha hb h1 h2 => ?_) hd.2 (h.sorted.imp fun h => first_asym h) (hd.1.trans h.perm.symm)
  obtain ⟨r, hr, e, hk, _⟩ := h.get (h.perm.mem_iff.2 (hd.1.mem_iff.1 ha))
  obtain ⟨r', hr', e', hk', _⟩ := h.get hb
  by_cases hs : a.s = b.s ∧ a.d = b.d
  · rw [hs.1, hs.2, ← hk'] at hk
    rw [← e, ← e', asc_uniq h.asc hr hr' hk]
  · have := first_total hs h2
    rw [h1] at this; cases this
theorem putF_none {r : Tr} : ∀ {rows : List Tr}, (∀ x ∈ rows, ¬ x.k = r.k) → putF r true rows = rows
  | [], _ => rfl
  | x :: xs, h => by
    rw [putF_lt (h x List.mem_cons_self) (.inl rfl), putF_none fun y hy => h y (List.mem_cons_of_mem _ hy)]
theorem putF_new {r : Tr} : ∀ {rows : List Tr}, (∀ x ∈ rows, ¬ x.k = r.k) → (putF r false rows).Perm (r :: rows)
  | [], _ => by rw [show putF r false [] = [r] from rfl]
  | x :: xs, h => by
    have h' : ∀ y ∈ xs, ¬ y.k = r.k := fun y hy => h y (List.mem_cons_of_mem _ hy)
    by_cases hl : r.k < x.k
    · rw [putF_gt (h x List.mem_cons_self) hl, putF_none h']
    · rw [putF_lt (h x List.mem_cons_self) (.inr hl)]
      exact ((putF_new h').cons x).trans (List.Perm.swap ..)
theorem putF_old {r r0 : Tr} (ha : Asc rows) (hr0 : r0 ∈ rows) (e : r0.k = r.k) : ∃ A C, rows = A ++ r0 :: C ∧ putF r false rows = A ++ r :: C := by
  obtain ⟨A, C, rfl⟩ := List.append_of_mem hr0
  unfold Asc at ha
  rw [List.pairwise_append] at ha
  refine ⟨A, C, rfl, ?_⟩
  rw [putF_low (fun x hx => by rw [← e]; exact ha.2.2 x hx r0 List.mem_cons_self), putF_eq e, putF_done (fun x hx => by rw [← e]; exact (List.pairwise_cons.1 ha.2.1).1 x hx)]
theorem insI_true (x : Itn) : ∀ l : List Itn, insI x true l = l
  | [] => rfl
  | y :: ys => by rw [insI_lt (.inl rfl), insI_true x ys]
theorem insI_perm (x : Itn) : ∀ l : List Itn, (insI x false l).Perm (x :: l)
  | [] => by rw [show insI x false [] = [x] from rfl]
  | y :: ys => by
    cases hf : firstI x y
    · rw [insI_lt (.inr hf)]
      exact ((insI_perm x ys).cons y).trans (List.Perm.swap ..)
    · rw [insI_gt hf, insI_true]
theorem insI_sorted {x : Itn} : ∀ {l : List Itn}, l.Pairwise (fun a b => firstI a b = true) → (∀ y ∈ l, ¬ (x.s = y.s ∧ x.d = y.d)) → (insI x false l).Pairwise fun a b => firstI a b = true
  | [], _, _ => by rw [show insI x false [] = [x] from rfl]; exact List.pairwise_singleton _ _
  | y :: ys, hp, hn => by
    have hc := List.pairwise_cons.1 hp
    cases hf : firstI x y
    · rw [insI_lt (.inr hf)]
      refine List.pairwise_cons.2 ⟨fun z hz => ?_, insI_sorted hc.2 fun z hz => hn z (List.mem_cons_of_mem _ hz)⟩
      rcases List.mem_cons.1 ((insI_perm x ys).mem_iff.1 hz) with rfl | hz
      · exact first_total (hn y List.mem_cons_self) hf
      · exact hc.1 z hz
    · rw [insI_gt hf, insI_true]
      refine List.pairwise_cons.2 ⟨fun z hz => ?_, hp⟩
      rcases List.mem_cons.1 hz with rfl | hz
      · exact hf
      · exact swo_firstI.trans _ _ _ hf (hc.1 z hz)
theorem rel_nil : Rel [] [] := ⟨List.Pairwise.nil, (fun r hr => by cases hr), List.Perm.nil, List.Pairwise.nil⟩
section
variable {most last : Int} {s d : List UInt8} {a : Bool} {old ix e : Int} {L' : List Itn} {last' : Int}
theorem findI_bad (hp : patI s = false ∨ patI d = false) : findI rows s d old = (false, 10) := if_pos hp
theorem findI_no (h : Rel rows L) (hs : patI s = true) (hd : patI d = true) (hn : ∀ x ∈ L, ¬ (x.s = s ∧ x.d = d)) : findI rows s d old = (false, 0) := by
  unfold findI
  rw [if_neg (by rw [hs, hd]; decide), (h.none hd hn).2, if_neg (by rintro ⟨h, _⟩; cases h)]
theorem findI_cas (h : Rel rows L) {x : Itn} (hx : x ∈ L) (ho : ¬ old = 0) (hxo : ¬ x.x = old) : findI rows x.s x.d old = (true, 21) := by
  obtain ⟨r, hr, er, hg⟩ := h.found hx
  obtain ⟨_, _, _, _, hs, hd⟩ := h.get hx
  have hrx : r.x = x.x := by rw [← er]; rfl
  unfold findI
  rw [if_neg (by rw [hs, hd]; decide), hg, if_pos ⟨rfl, ho, by rw [hrx]; exact hxo⟩]
theorem findI_yes (h : Rel rows L) {x : Itn} (hx : x ∈ L) (ho : old = 0 ∨ x.x = old) : findI rows x.s x.d old = (true, 0) := by
  obtain ⟨r, hr, er, hg⟩ := h.found hx
  obtain ⟨_, _, _, _, hs, hd⟩ := h.get hx
  have hrx : r.x = x.x := by rw [← er]; rfl
  unfold findI
  rw [if_neg (by rw [hs, hd]; decide), hg, if_neg (by rw [hrx]; rintro ⟨_, h1, h2⟩; rcases ho with ho | ho; exact h1 ho; exact h2 ho)]
theorem fd_no {l : List Itn} (h : Fd l s d (-1)) : ∀ x ∈ l, ¬ (x.s = s ∧ x.d = d) := by
  rcases h with ⟨_, h⟩ | ⟨m, x, hm, _⟩
  · exact h
  · omega
theorem putI_new (h : Rel rows L) (hs : patI s = true) (hd : patI d = true) (hn : ∀ x ∈ L, ¬ (x.s = s ∧ x.d = d)) (hl : (rows.length : Int) < most) :
    (putI most last rows s d a ix).1 = 0 ∧ Rel (putI most last rows s d a ix).2.1 (insI ⟨s, d, a, ix, ix⟩ false L) ∧ (putI most last rows s d a ix).2.2 = max last ix := by
  obtain ⟨h1, h2⟩ := h.none hd hn
  have ha := asc_putS' (most := most) (last := last) (x := ⟨s, d, a, 0, 0⟩) (ix := ix) (key := keyI s d) h.asc
  have e : putS most last rows (keyI s d) ⟨s, d, a, 0, 0⟩ ix = (⟨keyI s d, ⟨s, d, a, 0, 0⟩, ix, ix⟩, 0, putF ⟨keyI s d, ⟨s, d, a, 0, 0⟩, ix, ix⟩ false rows, max last ix) := by
    unfold putS
    rw [h2, if_neg (by rintro ⟨_, hz⟩; omega)]
    rfl
  unfold putI
  rw [e] at ha ⊢
  have hp := putF_new (r := ⟨keyI s d, ⟨s, d, a, 0, 0⟩, ix, ix⟩) h1
  refine ⟨rfl, ⟨ha, fun r hr => ?_, ?_, insI_sorted h.sorted fun y hy hh => hn y hy ⟨hh.1.symm, hh.2.symm⟩⟩, rfl⟩
  · rcases List.mem_cons.1 (hp.mem_iff.1 hr) with rfl | hr
    · exact ⟨rfl, hs, hd⟩
    · exact h.ok r hr
  · exact (insI_perm _ L).trans ((h.perm.cons _).trans (hp.map toldI).symm)
theorem Rel.add (h : Rel rows L) (hR : AddR most last L s d a ix e L' last') : (addI most last rows s d a ix).1 = e ∧ Rel (addI most last rows s d a ix).2.1 L' ∧ (addI most last rows s d a ix).2.2 = last' := by
  rcases hR with ⟨hp, rfl, rfl, rfl⟩ | ⟨hs, hd, hR⟩
  · have hz : addI most last' rows s d a ix = (10, rows, last') := by unfold addI; rw [findI_bad hp]; rfl
    rw [hz]
    exact ⟨rfl, h, rfl⟩
  · rcases hR with ⟨⟨n, hF⟩, rfl, rfl, rfl⟩ | ⟨hF, hR⟩
    · rcases hF with ⟨hF, _⟩ | ⟨m, x, _, hx, rfl, rfl⟩
      · omega
      · have hz : addI most last' rows x.s x.d a ix = (20, rows, last') := by unfold addI; rw [findI_yes h (List.mem_of_getElem? hx) (.inl rfl)]; rfl
        rw [hz]
        exact ⟨rfl, h, rfl⟩
    · have hn := fd_no hF
      have hl := h.len
      have hz : addI most last rows s d a ix = putI most last rows s d a ix := by unfold addI; rw [findI_no h hs hd hn]; rfl
      rw [hz]
      rcases hR with ⟨hlen, rfl, rfl, rfl⟩ | ⟨hlen, rfl, rfl, rfl⟩
      · have e : putI most last' rows s d a ix = (5, rows, last') := by
          unfold putI putS
          rw [(h.none hd hn).2, if_pos ⟨rfl, by omega⟩]
        rw [e]
        exact ⟨rfl, h, rfl⟩
      · exact putI_new h hs hd hn (by omega)
theorem sd_set {L : List Itn} {n : Nat} {x x' : Itn} (hx : L[n]? = some x) (hs : x'.s = x.s) (hd : x'.d = x.d) (h : L.Pairwise fun a b => firstI a b = true) : (L.set n x').Pairwise fun a b => firstI a b = true := by
  have hf : ∀ a b c e : Itn, a.s = b.s → a.d = b.d → c.s = e.s → c.d = e.d → firstI a c = firstI b e := fun a b c e h1 h2 h3 h4 => by unfold firstI rankI; rw [h1, h2, h3, h4]
  rw [List.pairwise_iff_getElem] at h ⊢
  intro i j hi hj hij
  rw [List.length_set] at hi hj
  have := h i j hi hj hij
  obtain ⟨hnl, hxe⟩ := List.getElem?_eq_some_iff.1 hx
  rw [List.getElem_set, List.getElem_set]
  rw [← this]
  by_cases h1 : n = i
  · subst h1
    rw [if_pos rfl, if_neg (by omega)]
    exact hf _ _ _ _ (by rw [hxe]; exact hs) (by rw [hxe]; exact hd) rfl rfl
  · rw [if_neg h1]
    by_cases h2 : n = j
    · subst h2
      rw [if_pos rfl]
      exact hf _ _ _ _ rfl rfl (by rw [hxe]; exact hs) (by rw [hxe]; exact hd)
    · rw [if_neg h2]
theorem perm_set {L : List Itn} {n : Nat} {x x' : Itn} {R : List Itn} (hx : L[n]? = some x) (h : L.Perm (x :: R)) : (L.set n x').Perm (x' :: R) := by
  obtain ⟨hnl, hxe⟩ := List.getElem?_eq_some_iff.1 hx
  have e : L = L.take n ++ x :: L.drop (n + 1) := by rw [← drop_at hx, List.take_append_drop]
  have e2 : L.set n x' = L.take n ++ x' :: L.drop (n + 1) := by rw [List.set_eq_take_append_cons_drop, if_pos hnl]
  rw [e2]
  have h1 : (x :: (L.take n ++ L.drop (n + 1))).Perm (x :: R) := List.perm_middle.symm.trans (by rw [← e]; exact h)
  exact List.perm_middle.trans ((List.Perm.cons_inv h1).cons x')
theorem Rel.turn (h : Rel rows L) (hR : TurnR last L s d a old ix e L' last') : (turnI most last rows s d a old ix).1 = e ∧ Rel (turnI most last rows s d a old ix).2.1 L' ∧ (turnI most last rows s d a old ix).2.2 = last' := by
  obtain ⟨k, hk, hR⟩ := hR
  rcases hk with ⟨hp, rfl⟩ | ⟨hs, hd, hk⟩
  · have hz : turnI most last rows s d a old ix = (10, rows, last) := by unfold turnI; rw [findI_bad hp]; rfl
    rw [hz]
    rcases hR with ⟨_, rfl, rfl⟩ | ⟨h0, _⟩
    · exact ⟨rfl, h, rfl⟩
    · cases h0
  · rcases hk with ⟨hF, rfl⟩ | ⟨n, x, hx, rfl, rfl, hk⟩
    · have hz : turnI most last rows s d a old ix = (4, rows, last) := by unfold turnI; rw [findI_no h hs hd (fd_no hF)]; rfl
      rw [hz]
      rcases hR with ⟨_, rfl, rfl⟩ | ⟨h0, _⟩
      · exact ⟨rfl, h, rfl⟩
      · cases h0
    · rcases hk with ⟨ho, hxo, rfl⟩ | ⟨ho, rfl, hkn⟩
      · have hz : turnI most last rows x.s x.d a old ix = (21, rows, last) := by unfold turnI; rw [findI_cas h (List.mem_of_getElem? hx) ho hxo]; rfl
        rw [hz]
        rcases hR with ⟨_, rfl, rfl⟩ | ⟨h0, _⟩
        · exact ⟨rfl, h, rfl⟩
        · cases h0
      · have hz : turnI most last rows x.s x.d a old ix = putI most last rows x.s x.d a ix := by unfold turnI; rw [findI_yes h (List.mem_of_getElem? hx) ho]; rfl
        rw [hz]
        obtain ⟨r, hr, er, hg⟩ := h.found (List.mem_of_getElem? hx)
        have hrm : r.m = x.m := by rw [← er]; rfl
        rcases hR with ⟨h0, _⟩ | ⟨_, ⟨m, y, hm, hy, rfl⟩, rfl⟩
        · exact absurd rfl h0
        · obtain rfl : n = m := by omega
          rw [hx] at hy
          cases hy
          have ha := asc_putS' (most := most) (last := last) (x := ⟨x.s, x.d, a, 0, 0⟩) (ix := ix) (key := keyI x.s x.d) h.asc
          have e : putS most last rows (keyI x.s x.d) ⟨x.s, x.d, a, 0, 0⟩ ix = (⟨keyI x.s x.d, ⟨x.s, x.d, a, 0, 0⟩, x.m, ix⟩, 0, putF ⟨keyI x.s x.d, ⟨x.s, x.d, a, 0, 0⟩, x.m, ix⟩ false rows, max last ix) := by
            unfold putS
            rw [hg, if_neg (by rintro ⟨h, _⟩; cases h)]
            dsimp only
            rw [if_pos rfl, hrm]
          unfold putI
          rw [e] at ha ⊢
          have hrk : r.k = keyI x.s x.d := by
            have := (h.ok r hr).1
            rw [this, ← er]; rfl
          obtain ⟨A, C, hAC, hput⟩ := putF_old (r := ⟨keyI x.s x.d, ⟨x.s, x.d, a, 0, 0⟩, x.m, ix⟩) h.asc hr hrk
          dsimp only at ha ⊢
          refine ⟨rfl, ⟨ha, fun q hq => ?_, ?_, sd_set (x' := { x with a := a, x := ix }) hx rfl rfl h.sorted⟩, rfl⟩
          · rw [hput] at hq
            rcases List.mem_append.1 hq with hq | hq
            · exact h.ok q (by rw [hAC]; exact List.mem_append_left _ hq)
            · rcases List.mem_cons.1 hq with rfl | hq
              · exact ⟨rfl, hs, hd⟩
              · exact h.ok q (by rw [hAC]; exact List.mem_append_right _ (List.mem_cons_of_mem _ hq))
          · rw [hput]
            have hp := h.perm
            rw [hAC, List.map_append, List.map_cons, er] at hp
            rw [List.map_append, List.map_cons]
            exact (perm_set (x' := { x with a := a, x := ix }) hx (hp.trans List.perm_middle)).trans List.perm_middle.symm
theorem Rel.drop (h : Rel rows L) (hR : DropR last L s d old ix e L' last') : (dropI last rows s d old ix).1 = e ∧ Rel (dropI last rows s d old ix).2.1 L' ∧ (dropI last rows s d old ix).2.2 = last' := by
  obtain ⟨k, hk, hR⟩ := hR
  rcases hk with ⟨hp, rfl⟩ | ⟨hs, hd, hk⟩
  · have hz : dropI last rows s d old ix = (10, rows, last) := by unfold dropI; rw [findI_bad hp]; rfl
    rw [hz]
    rcases hR with ⟨_, rfl, rfl⟩ | ⟨h0, _⟩
    · exact ⟨rfl, h, rfl⟩
    · cases h0
  · rcases hk with ⟨hF, rfl⟩ | ⟨n, x, hx, rfl, rfl, hk⟩
    · have hz : dropI last rows s d old ix = (4, rows, last) := by unfold dropI; rw [findI_no h hs hd (fd_no hF)]; rfl
      rw [hz]
      rcases hR with ⟨_, rfl, rfl⟩ | ⟨h0, _⟩
      · exact ⟨rfl, h, rfl⟩
      · cases h0
    · rcases hk with ⟨ho, hxo, rfl⟩ | ⟨ho, rfl, hkn⟩
      · have hz : dropI last rows x.s x.d old ix = (21, rows, last) := by unfold dropI; rw [findI_cas h (List.mem_of_getElem? hx) ho hxo]; rfl
        rw [hz]
        rcases hR with ⟨_, rfl, rfl⟩ | ⟨h0, _⟩
        · exact ⟨rfl, h, rfl⟩
        · cases h0
      · have hz : dropI last rows x.s x.d old ix = (0, (dropS last rows (keyI x.s x.d) ix).2.1, (dropS last rows (keyI x.s x.d) ix).2.2) := by unfold dropI; rw [findI_yes h (List.mem_of_getElem? hx) ho]; rfl
        rw [hz]
        obtain ⟨r, hr, er, hg⟩ := h.found (List.mem_of_getElem? hx)
        rcases hR with ⟨h0, _⟩ | ⟨_, ⟨m, hm, rfl⟩, rfl⟩
        · exact absurd rfl h0
        · obtain rfl : n = m := by omega
          have ha := asc_dropS (last := last) (ix := ix) (key := keyI x.s x.d) h.asc
          have e : dropS last rows (keyI x.s x.d) ix = (true, dropF (keyI x.s x.d) rows, max last ix) := by
            unfold dropS
            rw [hg, if_neg (by simp)]
          rw [e] at ha ⊢
          have hrk : r.k = keyI x.s x.d := by
            have := (h.ok r hr).1
            rw [this, ← er]; rfl
          have hsub : (dropF (keyI x.s x.d) rows).Sublist rows := List.filter_sublist
          dsimp only at ha ⊢
          refine ⟨rfl, ⟨ha, fun q hq => h.ok q (hsub.subset hq), ?_, List.Pairwise.sublist (List.eraseIdx_sublist L n) h.sorted⟩, rfl⟩
          obtain ⟨A, C, hAC⟩ := List.append_of_mem hr
          have hAs := h.asc
          rw [hAC] at hAs
          unfold Asc at hAs
          rw [List.pairwise_append] at hAs
          have hdr : dropF (keyI x.s x.d) rows = A ++ C := by
            rw [hAC, dropF_app, dropF_none (rows := A) fun q hq e => by
              have := hAs.2.2 q hq r List.mem_cons_self
              rw [e, hrk] at this
              exact lt_irr _ this]
            congr 1
            unfold dropF
            rw [List.filter_cons_of_neg (by simp [hrk]), List.filter_eq_self.2]
            intro q hq
            rw [decide_eq_true_eq]
            intro e
            have := (List.pairwise_cons.1 hAs.2.1).1 q hq
            rw [e, hrk] at this
            exact lt_irr _ this
          rw [hdr]
          have hp := h.perm
          rw [hAC, List.map_append, List.map_cons, er] at hp
          rw [List.map_append]
          have e1 : L = L.take n ++ x :: L.drop (n + 1) := by rw [← drop_at hx, List.take_append_drop]
          rw [List.eraseIdx_eq_take_drop_succ]
          have h1 : (x :: (L.take n ++ L.drop (n + 1))).Perm (x :: (A.map toldI ++ C.map toldI)) := List.perm_middle.symm.trans (by rw [← e1]; exact hp.trans List.perm_middle)
          exact List.Perm.cons_inv h1
theorem addI_len (ha : Asc rows) (h : (rows.length : Int) ≤ most) : ((addI most last rows s d a ix).2.1.length : Int) ≤ most := by
  unfold addI
  split
  · exact h
  · split
    · exact h
    · exact len_putS ha h
theorem turnI_len (ha : Asc rows) (h : (rows.length : Int) ≤ most) : ((turnI most last rows s d a old ix).2.1.length : Int) ≤ most := by
  unfold turnI
  split
  · exact h
  · split
    · exact h
    · exact len_putS ha h
theorem dropI_len (h : (rows.length : Int) ≤ most) : ((dropI last rows s d old ix).2.1.length : Int) ≤ most := by
  unfold dropI
  split
  · exact h
  · split
    · exact h
    · have := len_dropS (last := last) (ix := ix) (rows := rows) (key := keyI s d)
      dsimp only
      omega
end
end
end Go.Proofs.Ytogohendjjgbiaa
