/- What a tick does, in plain words. -/
import Derived.Test.YtabladeenemfoaaWp
set_option linter.unusedSimpArgs false
set_option linter.unusedVariables false
set_option maxHeartbeats 1000000
namespace Go.Proofs.Ytabladeenemfoaa
open Go.RowKit
def PL (W : Wl) (R : List Int) : Prop := ∀ j k, In W.ls j k ↔ ∃ t ∈ W.ts, t.id = k ∧ k ∉ R ∧ slot t.rim t.at_ = j
structure Mid (n r : Nat) (P0 : List (Int × Nat)) (rest : List Int) (W : Wl) (acc : List Int) : Prop where
  now : W.now = n
  len : W.ls.length = 192
  nd : (W.ts.map (·.id)).Nodup
  ln : ∀ l ∈ W.ls, l.Nodup
  rnd : rest.Nodup
  rin : ∀ i ∈ rest, ∃ t ∈ W.ts, t.id = i ∧ n ≤ t.due ∧ t.due ≤ n + 262144 ∧ SB r t.due n
  pl : PL W rest
  good : ∀ t ∈ W.ts, t.id ∉ rest → G n r t.due t.rim t.at_
  perm : (W.ts.map pr ++ acc.map fun i => (i, n)).Perm P0
theorem hang_mid {n r : Nat} {W : Wl} {R R' : List Int} {i : Int} {due : Nat} (hnow : W.now = n) (hlen : W.ls.length = 192) (hnd : (W.ts.map (·.id)).Nodup) (hln : ∀ l ∈ W.ls, l.Nodup) (hpl : PL W R) (hR : ∀ t ∈ W.ts, t.id = i → i ∈ R) (hRR : ∀ k, k ≠ i → (k ∈ R ↔ k ∈ R')) (hiR : i ∉ R')
    (hgood : ∀ t ∈ W.ts, t.id ∉ R → G n r t.due t.rim t.at_) (hg : G n r due (wrim n due) (wat n due)) :
    (∀ l ∈ (aHang W i due).ls, l.Nodup) ∧ PL (aHang W i due) R' ∧ (∀ t ∈ (aHang W i due).ts, t.id ∉ R' → G n r t.due t.rim t.at_) := by
  subst hnow
  have hq : slot (wrim W.now due) (wat W.now due) < W.ls.length := by
    have := wrim_lt W.now due
    have := wat_lt W.now due
    unfold slot
    omega
  refine ⟨fun l hl => ?_, fun j k => ?_, fun t ht hk => ?_⟩
  · rcases upd_mem hl with hl | ⟨y, hy, rfl⟩
    · exact hln l hl
    · refine List.nodup_append.2 ⟨hln y (List.mem_of_getElem? hy), by simp, fun a ha b hb e => ?_⟩
      simp only [List.mem_singleton] at hb
      subst hb; subst e
      obtain ⟨t, ht, e, hk, hs⟩ := (hpl _ _).1 ⟨y, hy, ha⟩
      exact hk (hR t ht e)
  · show In (upd (fun l => l ++ [i]) (slot (wrim W.now due) (wat W.now due)) W.ls) j k ↔ ∃ t ∈ tput W.ts ⟨i, due, wrim W.now due, wat W.now due⟩, _
    rw [in_add hq, hpl]
    constructor
    · rintro (⟨t, ht, e, hk, hs⟩ | ⟨rfl, rfl⟩)
      · have hki : k ≠ i := fun e2 => hk (e2 ▸ hR t ht (e.trans e2))
        exact ⟨t, (tput_iff hnd _ _).2 (.inr ⟨ht, by rw [e]; exact hki⟩), e, fun h => hk ((hRR k hki).2 h), hs⟩
      · exact ⟨_, (tput_iff hnd _ _).2 (.inl rfl), rfl, hiR, rfl⟩
    · rintro ⟨t, ht, e, hk, hs⟩
      rcases (tput_iff hnd _ _).1 ht with rfl | ⟨ht, hne⟩
      · exact .inr ⟨hs.symm, e.symm⟩
      · have hki : k ≠ i := by rw [← e]; exact hne
        exact .inl ⟨t, ht, e, fun h => hk ((hRR k hki).1 h), hs⟩
  · rcases (tput_iff hnd _ _).1 ht with rfl | ⟨ht, hne⟩
    · exact hg
    · exact hgood t ht fun h => hk ((hRR _ hne).1 h)
theorem step_mid {n r : Nat} {P0 : List (Int × Nat)} {rest : List Int} {W : Wl} {acc : List Int} {i : Int} (hn1 : 1 ≤ n) (hr : r < 3) (hal : n % 2 ^ (6 * r) = 0) (h : Mid n r P0 (i :: rest) W acc) : Mid n r P0 rest (aStep (W, acc) i).1 (aStep (W, acc) i).2 := by
  obtain ⟨hnow, hlen, hnd, hln, hrnd, hrin, hpl, hgood, hperm⟩ := h
  obtain ⟨t, ht, rfl, hd1, hd2, hsb⟩ := hrin _ List.mem_cons_self
  have htof := tof_of hnd ht
  have htget := tget_of hnd ht
  rw [List.nodup_cons] at hrnd
  by_cases hd : t.due = W.now
  · rw [step_y (by rw [htof]; exact hd)]
    have hsub : ((tdel W.ts t.id).map (·.id)).Sublist (W.ts.map (·.id)) := (tdel_sub _ _).map _
    refine ⟨hnow, hlen, hsub.nodup hnd, hln, hrnd.2, fun k hk => ?_, fun j k => ?_, fun u hu hk => ?_, ?_⟩
    · obtain ⟨u, hu, e, h2⟩ := hrin k (List.mem_cons_of_mem _ hk)
      exact ⟨u, (tdel_iff hnd _ _).2 ⟨hu, by rw [e]; intro e2; exact hrnd.1 (e2 ▸ hk)⟩, e, h2⟩
    · show In W.ls j k ↔ ∃ u ∈ tdel W.ts t.id, _
      rw [hpl]
      constructor
      · rintro ⟨u, hu, e, hk, hs⟩
        rw [List.mem_cons, not_or] at hk
        exact ⟨u, (tdel_iff hnd _ _).2 ⟨hu, by rw [e]; exact hk.1⟩, e, hk.2, hs⟩
      · rintro ⟨u, hu, e, hk, hs⟩
        obtain ⟨hu, hne⟩ := (tdel_iff hnd _ _).1 hu
        exact ⟨u, hu, e, by rw [List.mem_cons, not_or]; exact ⟨by rw [← e]; exact hne, hk⟩, hs⟩
    · obtain ⟨hu, hne⟩ := (tdel_iff hnd _ _).1 hu
      exact hgood u hu (by rw [List.mem_cons, not_or]; exact ⟨hne, hk⟩)
    · refine List.Perm.trans ?_ hperm
      have h1 := tdel_pr htget
      show ((tdel W.ts t.id).map pr ++ (acc ++ [t.id]).map fun i => (i, n)).Perm _
      rw [List.map_append, ← List.append_assoc]
      refine List.Perm.trans List.perm_append_comm ?_
      show ((t.id, n) :: ((tdel W.ts t.id).map pr ++ acc.map fun i => (i, n))).Perm _
      rw [show (t.id, n) = pr t from by simp only [pr]; rw [hd, hnow], ← List.cons_append]
      exact h1.symm.append_right _
  · rw [step_n (by rw [htof]; exact hd), htof]
    have hlt : n < t.due := by omega
    obtain ⟨a1, a2, a3⟩ := hang_mid (R := t.id :: rest) (R' := rest) (i := t.id) (due := t.due) hnow hlen hnd hln hpl (fun _ _ _ => List.mem_cons_self) (fun k hk => by rw [List.mem_cons]; exact ⟨fun h => h.resolve_left hk, .inr⟩) hrnd.1 hgood (where_down hn1 hr hal hlt hd2 hsb)
    have hids : (aHang W t.id t.due).ts.map (·.id) = W.ts.map (·.id) := tput_ids (t := ⟨t.id, t.due, wrim W.now t.due, wat W.now t.due⟩) (List.mem_map_of_mem (f := (·.id)) ht)
    refine ⟨hnow, (upd_len ..).trans hlen, by rw [hids]; exact hnd, a1, hrnd.2, fun k hk => ?_, a2, a3, ?_⟩
    · obtain ⟨u, hu, e, h2⟩ := hrin k (List.mem_cons_of_mem _ hk)
      exact ⟨u, (tput_iff hnd _ _).2 (.inr ⟨hu, by rw [e]; intro e2; exact hrnd.1 (e2 ▸ hk)⟩), e, h2⟩
    · show ((tput W.ts ⟨t.id, t.due, wrim W.now t.due, wat W.now t.due⟩).map pr ++ acc.map fun i => (i, n)).Perm P0
      rw [tput_pr (t := ⟨t.id, t.due, wrim W.now t.due, wat W.now t.due⟩) htget rfl]
      exact hperm
theorem fold_mid {n r : Nat} {P0 : List (Int × Nat)} (hn1 : 1 ≤ n) (hr : r < 3) (hal : n % 2 ^ (6 * r) = 0) : ∀ {l : List Int} {q : Wl × List Int}, Mid n r P0 l q.1 q.2 → Mid n r P0 [] (l.foldl aStep q).1 (l.foldl aStep q).2
  | [], q, h => h
  | i :: l, (W, acc), h => fold_mid hn1 hr hal (l := l) (step_mid hn1 hr hal h)
theorem rim_mid {n r : Nat} {P0 : List (Int × Nat)} {W : Wl} {acc : List Int} (hn1 : 1 ≤ n) (hr : r < 3) (h : Mid n (r + 1) P0 [] W acc) : Mid n r P0 [] (aRim W r acc).1 (aRim W r acc).2 := by
  obtain ⟨hnow, hlen, hnd, hln, hrnd, hrin, hpl, hgood, hperm⟩ := h
  by_cases hal : n % 2 ^ (6 * r) = 0
  · rw [rim_y (by rw [hnow]; exact hal), hnow]
    unfold aDown
    have hq : slot r (n / 2 ^ (6 * r) % 64) < W.ls.length := by
      have : n / 2 ^ (6 * r) % 64 < 64 := Nat.mod_lt _ (by decide)
      unfold slot
      omega
    have hget := List.getElem?_eq_getElem hq
    rw [hget, Option.getD_some]
    have hin : ∀ i, i ∈ W.ls[slot r (n / 2 ^ (6 * r) % 64)] → In W.ls (slot r (n / 2 ^ (6 * r) % 64)) i := fun i hi => ⟨_, hget, hi⟩
    refine fold_mid hn1 hr hal (q := (_, acc)) ⟨hnow, (upd_len ..).trans hlen, hnd, fun l hl => ?_, hln _ (List.getElem_mem hq), fun i hi => ?_, fun j k => ?_, fun t ht hk => ?_, hperm⟩
    · rcases upd_mem hl with hl | ⟨y, hy, rfl⟩
      · exact hln l hl
      · exact List.nodup_nil
    · obtain ⟨t, ht, e, _, hs⟩ := (hpl _ _).1 (hin i hi)
      have hg := hgood t ht (by simp)
      exact ⟨t, ht, e, hg.1, hg.2.1, G_at hn1 hr hal hg hs⟩
    · show In (upd (fun _ => []) _ W.ls) j k ↔ _
      rw [in_clear, hpl]
      constructor
      · rintro ⟨⟨t, ht, e, hk, hs⟩, hj⟩
        refine ⟨t, ht, e, fun hm => ?_, hs⟩
        obtain ⟨u, hu, e2, _, hs2⟩ := (hpl _ _).1 (hin k hm)
        obtain rfl := same_t hnd ht hu (e.trans e2.symm)
        exact hj (hs.symm.trans hs2)
      · rintro ⟨t, ht, e, hk, hs⟩
        refine ⟨⟨t, ht, e, by simp, hs⟩, fun ej => hk ?_⟩
        obtain ⟨l, hl, hm⟩ := (hpl j k).2 ⟨t, ht, e, by simp, hs⟩
        subst ej
        rw [hget] at hl
        cases hl
        exact hm
    · refine G_rest hr hal (hgood t ht (by simp)) fun hs => hk ?_
      obtain ⟨l, hl, hm⟩ := (hpl _ t.id).2 ⟨t, ht, rfl, by simp, hs⟩
      rw [hget] at hl
      cases hl
      exact hm
  · rw [rim_n (by rw [hnow]; exact hal)]
    exact ⟨hnow, hlen, hnd, hln, hrnd, fun i hi => (by cases hi), hpl, fun t ht hk => G_skip hr hal (hgood t ht hk), hperm⟩
theorem rims_mid {n : Nat} {P0 : List (Int × Nat)} (hn1 : 1 ≤ n) : ∀ {r : Nat} {q : Wl × List Int}, r ≤ 3 → Mid n r P0 [] q.1 q.2 → Mid n 0 P0 [] (aRims r q).1 (aRims r q).2
  | 0, q, _, h => h
  | r + 1, (W, acc), hr, h => rims_mid hn1 (r := r) (by omega) (rim_mid hn1 (by omega) h)
/-- A wheel is in order. -/
def Inv (W : Wl) : Prop := Mid W.now 0 (W.ts.map pr) [] W []
theorem inv_lt {W : Wl} (h : Inv W) {t : Tm} (ht : t ∈ W.ts) : W.now < t.due ∧ t.due ≤ W.now + 262144 := by
  have := h.good t ht (by simp)
  exact ⟨G_zero this, this.2.1⟩
theorem inv_pl {W : Wl} (h : Inv W) : PlB W.ts := fun t ht => G_lt (h.good t ht (by simp))
theorem inv_due {W : Wl} (h : Inv W) : DueB (W.now + 262144) W.ts := fun t ht => (inv_lt h ht).2
theorem nodup_sub_len {l l' : List Int} (h : l.Nodup) (hs : ∀ x ∈ l, x ∈ l') : l.length ≤ l'.length := by
  induction l generalizing l' with
  | nil => exact Nat.zero_le _
  | cons x l ih =>
    rw [List.nodup_cons] at h
    have hx := hs x List.mem_cons_self
    have := ih (l' := l'.erase x) h.2 fun y hy => by
      have hne : y ≠ x := fun e => h.1 (e ▸ hy)
      exact (List.mem_erase_of_ne hne).2 (hs y (List.mem_cons_of_mem _ hy))
    rw [List.length_erase_of_mem hx] at this
    have := List.length_pos_of_mem hx
    rw [List.length_cons]
    omega
theorem inv_lenb {W : Wl} (h : Inv W) : LenB W.ts.length W.ls := fun l hl => by
  obtain ⟨j, hj, e⟩ := List.mem_iff_getElem.1 hl
  have := nodup_sub_len (l' := W.ts.map (·.id)) (h.ln l hl) fun x hx => by
    obtain ⟨t, ht, e2, _⟩ := (h.pl j x).1 ⟨l, by rw [List.getElem?_eq_getElem hj, e], hx⟩
    exact e2 ▸ List.mem_map_of_mem ht
  rwa [List.length_map] at this
theorem inv_tick {W : Wl} (h : Inv W) : Inv (aTick W).1 ∧ (aTick W).1.now = W.now + 1 ∧ ((aTick W).1.ts.map pr).Perm ((W.ts.map pr).filter fun p => decide (¬ p.2 = W.now + 1)) ∧ (aTick W).2 = srt (((W.ts.map pr).filter fun p => decide (p.2 = W.now + 1)).map Prod.fst) := by
  have h3 : Mid (W.now + 1) 3 (W.ts.map pr) [] { W with now := W.now + 1 } [] := ⟨rfl, h.len, h.nd, h.ln, List.nodup_nil, fun i hi => (by cases hi), h.pl, fun t ht hk => G_start (h.good t ht hk), h.perm⟩
  have h0 := rims_mid (n := W.now + 1) (q := ({ W with now := W.now + 1 }, [])) (by omega) (Nat.le_refl 3) h3
  unfold aTick
  dsimp only at h0 ⊢
  generalize aRims 3 ({ W with now := W.now + 1 }, []) = q at h0 ⊢
  obtain ⟨W', acc⟩ := q
  dsimp only at h0 ⊢
  have hnow := h0.now
  have hy : ∀ f : Int × Nat → Bool, ((W'.ts.map pr).filter f ++ (acc.map fun i => (i, W.now + 1)).filter f).Perm ((W.ts.map pr).filter f) := fun f => by
    have := h0.perm.filter f
    rwa [List.filter_append] at this
  have hgt : ∀ p ∈ W'.ts.map pr, ¬ p.2 = W.now + 1 := fun p hp => by
    obtain ⟨t, ht, rfl⟩ := List.mem_map.1 hp
    have := G_zero (h0.good t ht (by simp))
    show ¬ t.due = _
    omega
  refine ⟨⟨rfl, h0.len, h0.nd, h0.ln, h0.rnd, fun i hi => (by cases hi), h0.pl, ?_, by simp⟩, hnow, ?_, ?_⟩
  · rw [hnow]; exact h0.good
  · have := hy fun p => decide (¬ p.2 = W.now + 1)
    rw [List.filter_eq_self.2 (fun p hp => by simpa using hgt p hp), List.filter_eq_nil_iff.2 (fun p hp => by obtain ⟨i, _, rfl⟩ := List.mem_map.1 hp; simp), List.append_nil] at this
    exact this
  · have := hy fun p => decide (p.2 = W.now + 1)
    rw [List.filter_eq_nil_iff.2 (fun p hp => by simpa using hgt p hp), List.filter_eq_self.2 (fun p hp => by obtain ⟨i, _, rfl⟩ := List.mem_map.1 hp; simp), List.nil_append] at this
    refine srt_perm ?_
    have := this.map Prod.fst
    rw [List.map_map, show (Prod.fst ∘ fun i : Int => (i, W.now + 1)) = id from rfl, List.map_id] at this
    exact this
theorem inv_take {W : Wl} (h : Inv W) {i : Int} (hi : (tget W.ts i).isSome = true) : Inv (aTake W i) ∧ ((aTake W i).ts.map pr).Perm ((W.ts.map pr).filter fun p => decide (¬ p.1 = i)) ∧ W.ts.length = (aTake W i).ts.length + 1 := by
  obtain ⟨t, ht⟩ := Option.isSome_iff_exists.1 hi
  obtain ⟨hm, rfl⟩ := tget_mem ht
  have htof := tof_of h.nd hm
  have hp := tdel_pr ht
  have hsub : ((tdel W.ts t.id).map (·.id)).Sublist (W.ts.map (·.id)) := (tdel_sub _ _).map _
  refine ⟨⟨rfl, (upd_len ..).trans h.len, hsub.nodup h.nd, fun l hl => ?_, List.nodup_nil, fun i hi => (by cases hi), fun j k => ?_, fun u hu hk => ?_, by simp⟩, ?_, ?_⟩
  · rcases upd_mem hl with hl | ⟨y, hy, rfl⟩
    · exact h.ln l hl
    · exact List.filter_sublist.nodup (h.ln y (List.mem_of_getElem? hy))
  · show In (upd (nid t.id) (slot (tof W.ts t.id).rim (tof W.ts t.id).at_) W.ls) j k ↔ ∃ u ∈ tdel W.ts t.id, _
    rw [in_del, h.pl, htof]
    constructor
    · rintro ⟨⟨u, hu, e, hk, hs⟩, hno⟩
      refine ⟨u, (tdel_iff h.nd _ _).2 ⟨hu, fun e2 => hno ?_⟩, e, hk, hs⟩
      obtain rfl := same_t h.nd hu hm e2
      exact ⟨hs.symm, e.symm⟩
    · rintro ⟨u, hu, e, hk, hs⟩
      obtain ⟨hu, hne⟩ := (tdel_iff h.nd _ _).1 hu
      exact ⟨⟨u, hu, e, hk, hs⟩, fun h2 => hne (e.trans h2.2)⟩
  · obtain ⟨hu, hne⟩ := (tdel_iff h.nd _ _).1 hu
    exact h.good u hu hk
  · show ((tdel W.ts t.id).map pr).Perm _
    have := hp.filter fun p => decide (¬ p.1 = t.id)
    have hself : ((tdel W.ts t.id).map pr).filter (fun p => decide (¬ p.1 = t.id)) = (tdel W.ts t.id).map pr := List.filter_eq_self.2 fun p hp => by
      obtain ⟨u, hu, rfl⟩ := List.mem_map.1 hp
      simpa using ((tdel_iff h.nd _ _).1 hu).2
    rw [List.filter_cons_of_neg (by simp), hself] at this
    exact this.symm
  · have := hp.length_eq
    rw [List.length_cons, List.length_map, List.length_map] at this
    exact this
theorem inv_hang {W : Wl} (h : Inv W) {i : Int} (hi : (tget W.ts i).isSome = false) {due : Nat} (h1 : W.now < due) (h2 : due ≤ W.now + 262144) : Inv (aHang W i due) ∧ ((aHang W i due).ts.map pr).Perm ((i, due) :: W.ts.map pr) := by
  have hno : i ∉ W.ts.map (·.id) := fun hm => by
    obtain ⟨t, ht, rfl⟩ := List.mem_map.1 hm
    rw [tget_of h.nd ht] at hi
    cases hi
  obtain ⟨a1, a2, a3⟩ := hang_mid (R := []) (R' := []) (i := i) (due := due) rfl h.len h.nd h.ln h.pl (fun t ht e => absurd (List.mem_map_of_mem ht) (e ▸ hno)) (fun k hk => Iff.rfl) (by simp) h.good (where_new h1 h2)
  have hts : (aHang W i due).ts = W.ts ++ [⟨i, due, wrim W.now due, wat W.now due⟩] := tput_new hno
  refine ⟨⟨rfl, (upd_len ..).trans h.len, ?_, a1, List.nodup_nil, fun i hi => (by cases hi), a2, a3, by simp⟩, ?_⟩
  · rw [hts, List.map_append]
    refine List.nodup_append.2 ⟨h.nd, by simp, fun a ha b hb e => ?_⟩
    simp only [List.map_cons, List.map_nil, List.mem_singleton] at hb
    subst hb; subst e
    exact hno ha
  · rw [hts, List.map_append]
    exact List.perm_append_comm
end Go.Proofs.Ytabladeenemfoaa
