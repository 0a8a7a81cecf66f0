/- FlightKept: what is in flight shares nothing with what was sent, nor with what is told. -/
import Derived.Test.YtpnkcoahbadnjaaW
import Derived.Test.YtpnkcoahbadnjaaFe
import Derived.Test.YtpnkcoahbadnjaaFf
import Derived.Test.YtpnkcoahbadnjaaK7
import Derived.Test.YtpnkcoahbadnjaaK16
import Derived.Test.YtpnkcoahbadnjaaK25
import Derived.Test.YtpnkcoahbadnjaaK27
import Derived.Test.YtpnkcoahbadnjaaRows
set_option linter.unusedSimpArgs false
set_option linter.unusedVariables false
set_option maxRecDepth 100000
set_option maxHeartbeats 8000000
namespace Go.Proofs.Ytpnkcoahbadnjaa
open Go.RowKit Go.ChangeShapes Go.WideShapes Go.ChangeAt
theorem pk0 (x : Fl) : pk [x] 0 = 0 := by unfold pk; show (pickF ((1 : Nat) : Int) 0).toNat = 0; decide
theorem out0 (x : Fl) : outX [x] 0 = some x := by unfold outX; rw [pk0]; rfl
theorem pick0 (x : Fl) : pickF (([x] : List Fl).length : Int) 0 = ((pk [x] 0 : Nat) : Int) := by rw [pk0]; show pickF ((1 : Nat) : Int) 0 = 0; decide
theorem one_key {l2 : List Fl} {x0 : Fl} (h : l2.map key = [x0].map key) : ∃ x, l2 = [x] ∧ key x = key x0 := by
  cases l2 with
  | nil => simp at h
  | cons x t =>
    cases t with
    | nil => exact ⟨x, rfl, by simpa using h⟩
    | cons y t => simp at h
theorem blk_same {T k : Nat} {v u : Value} {rows rows' : List (List Value)} {B B' : List (Nat × Obj)} {n c : Nat} (h : Sl T k v rows B) (h' : Sl T k v rows' B') (hl : 0 < rows.length) (hu : SlV u (blk B) 0 n c) : SlV u (blk B') 0 n c := by
  generalize hv : v = v' at h'
  cases h with
  | nil => simp at hl
  | own => cases h' with
    | nil => cases hv
    | own =>
      simp only [Value.slice.injEq, Option.some.injEq, Addr.mk.injEq] at hv
      obtain ⟨⟨rfl, _⟩, _⟩ := hv
      exact hu
theorem kept_any (f t : Int) (pv : Value) (bs : List UInt8) (c : UInt8) (w : World) (hr : RdRow w pv 1 (bs.map by1c)) (hlen : bs.length ≤ 140737488351232) : Ret Try.prog 3 #[.agg #[.int .i64 f, .int .i64 t, pv], byt c] w fun v w' => v = .bool true ∧ St w [] [] w' := by
  have hS := St.init0 w
  obtain ⟨bl, ol, cl, hvl, hmaxl, hcl, hltl⟩ := hr.open
  have h1p : pv.oneCell' = true := by obtain ⟨A, _, rfl, _⟩ := hr; rfl
  simp only [List.length_map] at hvl hmaxl hltl
  refine Ret.enter Try.func3 Try.ntmps3 rfl rfl ?_
  simp only [argEnv, Nat.reduceAdd]
  refine SatC.seq ?_
  refine SatC.region ?_
  refine SatL.op rfl (OpW.box hS rfl rfl (by repeat constructor) ?_)
  clear hS
  intro b2 w1 _ hS
  refine SatL.pu (RunV.assign rfl) rfl ?_
  refine SatL.nil (SatE.thenC ?_)
  refine SatC.seq ?_
  refine SatC.region ?_
  refine SatL.op rfl (OpW.enter rfl rfl rfl (rfl) (fnew_any 9 _) ?_)
  rintro r2 w2 ⟨b, rfl, h⟩
  replace hS := hS.call0 h
  change St w [] (FO b (.slice none 0 0) 9 0 [] [] ++ [(b2, C 24 [.int .i64 f, .int .i64 t, pv])]) _ at hS
  simp only [List.append_assoc, List.cons_append, List.nil_append, List.append_nil] at hS
  refine SatL.pu (RunV.assign rfl) rfl ?_
  refine SatL.nil (SatE.thenC ?_)
  refine SatC.seq ?_
  refine SatC.region ?_
  refine SatL.op rfl (OpW.buildSlice0 hS rfl rfl rfl ?_)
  clear hS
  intro v17 b17 w3 _ hsl17 hv17 hS
  first | refine SatL.pu (RunV.fieldAddrL rfl rfl rfl) rfl ?_ | refine SatL.pu (RunV.fieldAddr rfl rfl rfl) rfl ?_
  refine SatL.pu (RunV.load1 hS rfl rfl (by repeat constructor) rfl) rfl ?_
  refine SatL.op rfl (OpW.appendB (news := bs.map by1c) hsl17 hS (by repeat constructor) hvl (hcl.st hS List.not_mem_nil) (by rw [List.length_map]) rfl rfl rfl rfl rfl rfl rfl (by1c_one _) (by simp only [List.length_nil]; omega) (by simp only [List.length_nil]; omega) rfl ?_)
  clear hS
  intro v20 B20 w4 hsl20 hS
  rw [List.nil_append] at hsl20
  obtain ⟨c20, hv20⟩ := hsl20.slv
  simp only [List.length_map] at hv20
  refine SatL.pu (RunV.assign rfl) rfl ?_
  refine SatL.nil (SatE.thenC ?_)
  refine SatC.merge (G := Value × Nat × Nat) (V := fun ⟨bv, n, cc⟩ => [(6, bv)]) (Cn := [(1, _), (2, _), (4, _), (5, _)]) (I := fun ⟨bv, n, cc⟩ w' => SlV bv (blk B20) 0 n cc ∧ n = min bs.length 1400 ∧ St w [] (B20 ++ FO b (.slice none 0 0) 9 0 [] [] ++ [(b2, C 24 [.int .i64 f, .int .i64 t, pv])]) w') (by repeat constructor) ?_ ?_
  · skip
    refine SatC.seq ?_
    refine SatC.region ?_
    refine SatL.pu (RunV.move rfl) rfl ?_
    first | refine SatL.pu (RunV.lenR (by assumption) rfl rfl) rfl ?_ | refine SatL.pu (RunV.lenS rfl rfl) rfl ?_
    refine SatL.pu (RunV.gtr rfl rfl) rfl ?_
    refine SatL.nil (SatE.thenC ?_)
    refine SatC.cond rfl (fun h1 => ?_) (fun h1 => ?_)
    · (try simp only [cx, ne_eq] at h1)
      try (exfalso; (first | omega | exact h1 trivial | contradiction | (simp at h1; done)); done)
      all_goals
      refine SatC.region ?_
      refine SatL.pu (RunV.move rfl) rfl ?_
      refine SatL.pu (RunV.cutHv hv20 rfl rfl rfl rfl (by omega) (by omega)) rfl ?_
      refine SatL.pu (RunV.assign rfl) rfl ?_
      refine SatL.nil ?_
      refine SatE.met ((cutV v20 0 1400 1, 1400, c20)) ?_ (by repeat constructor)
      exact ⟨SlV.cutV 1 hv20 (Nat.zero_le 1400) (by omega), by omega, by simp only [List.append_assoc, List.cons_append, List.nil_append, List.append_nil]; exact hS.sel (by repeat constructor)⟩
    · (try simp only [cx, ne_eq] at h1)
      try (exfalso; (first | omega | exact h1 trivial | contradiction | (simp at h1; done)); done)
      all_goals
      refine SatC.skip ?_
      refine SatE.met ((v20, bs.length, c20)) ?_ (by repeat constructor)
      exact ⟨hv20, by omega, by simp only [List.append_assoc, List.cons_append, List.nil_append, List.append_nil]; exact hS.sel (by repeat constructor)⟩
  · clear hS
    rintro ⟨bv, n, cc⟩ w65 ⟨hbv, hn, hS⟩
    simp only [List.append_assoc, List.cons_append, List.nil_append, List.append_nil] at hS
    obtain ⟨A, rfl, _⟩ := hbv.eq
    have nf : ¬ full 9 [] (bs.take n) := by unfold full; simp; omega
    refine SatC.weak (e' := [(1, _), (2, _), (4, _), (5, _), (6, _)]) (by repeat constructor) ?_
    refine SatC.seq ?_
    refine SatC.region ?_
    refine SatL.op rfl (OpW.buildSlice0 hS rfl rfl rfl ?_)
    clear hS
    intro v26 b26 w66 _ hsl26 hv26 hS
    refine SatL.pu (RunV.move rfl) rfl ?_
    refine SatL.op rfl (OpW.appendB (news := (bs.take n).map by1c) hsl26 hS (by repeat constructor) hbv (by rw [List.map_take]; exact (hsl20.rd hS (by repeat constructor)).take) (by simp only [List.length_map, List.length_take]; omega) rfl rfl rfl rfl rfl rfl rfl (by1c_one _) (by simp only [List.length_nil]; omega) (by simp only [List.length_nil]; omega) rfl ?_)
    clear hS
    intro v28 B28 w67 hsl28 hS
    rw [List.nil_append] at hsl28
    obtain ⟨c28, hv28⟩ := hsl28.slv
    obtain ⟨A28, rfl, _⟩ := hv28.eq
    refine SatL.pu (RunV.assign rfl) rfl ?_
    refine SatL.nil (SatE.thenC ?_)
    refine SatC.seq ?_
    refine SatC.seq ?_
    refine SatC.region ?_
    refine SatL.pu (RunV.move rfl) rfl ?_
    first | refine SatL.pu (RunV.fieldAddrL rfl rfl rfl) rfl ?_ | refine SatL.pu (RunV.fieldAddr rfl rfl rfl) rfl ?_
    refine SatL.pu (RunV.load1 hS rfl rfl (by repeat constructor) rfl) rfl ?_
    first | refine SatL.pu (RunV.fieldAddrL rfl rfl rfl) rfl ?_ | refine SatL.pu (RunV.fieldAddr rfl rfl rfl) rfl ?_
    refine SatL.pu (RunV.load1 hS rfl rfl (by repeat constructor) rfl) rfl ?_
    refine SatL.pu (RunV.move rfl) rfl ?_
    refine SatL.pu (RunV.build rfl (by simp [go_sem]; try rfl)) rfl ?_
    refine SatL.op rfl (OpW.enter rfl rfl rfl (rfl) (send_any (l := []) (B := []) (D := []) f t (.slice A n cc) (bs.take n) (fun W' g h => RdRow.of hbv (by simp only [List.length_map, List.length_take]; omega) (by simp only [List.length_map, List.length_take]; omega) (by rw [List.map_take]; exact (hsl20.rd (hS.callT (A := FO b (.slice none 0 0) 9 0 [] []) (by repeat constructor) h) (by repeat constructor)).take) (by decide)) (by decide) (by decide) (by decide) (fun x hx => by cases hx) .nil (hS.ownT (A := FO b (.slice none 0 0) 9 0 [] []) (by repeat constructor))) ?_)
    rintro r68 w68 ⟨rfl, qv, v1, B1, D1, hsl1, _, hab1, h⟩
    replace hS := hS.callT (A := FO b (.slice none 0 0) 9 0 [] []) (by repeat constructor) h
    rw [show sendI 9 0 [] (bs.take n) = 1 from if_neg nf, @decide_eq_false _ (Classical.propDecidable _) nf]
    rw [show sendG 9 0 [] (bs.take n) = 1 from if_neg nf] at hS
    rw [show sendL 9 0 [] f t qv (bs.take n) = [⟨1, f, t, qv, bs.take n⟩] from if_neg nf] at hsl1 hab1
    simp only [List.append_assoc, List.cons_append, List.nil_append, List.append_nil] at hS
    obtain ⟨hbd, _⟩ := hab1 _ (List.mem_singleton.2 rfl)
    refine SatL.pu (RunV.move rfl) rfl ?_
    refine SatL.pu (RunV.extract rfl rfl) rfl ?_
    refine SatL.pu (RunV.extract rfl rfl) rfl ?_
    refine SatL.pu (RunV.assign rfl) rfl ?_
    refine SatL.pu (RunV.assign rfl) rfl ?_
    refine SatL.nil (SatE.thenC ?_)
    refine SatC.seq ?_
    refine SatC.weak (e' := [(1, _), (2, _), (4, _), (5, _), (6, _), (7, _), (9, _)]) (by repeat constructor) ?_
    refine SatC.region ?_
    refine SatL.pu (RunV.move rfl) rfl ?_
    refine SatL.pu (RunV.not rfl) rfl ?_
    refine SatL.nil (SatE.thenC ?_)
    refine SatC.cond rfl (fun h1 => ?_) (fun h1 => ?_)
    · (try simp only [cx, ne_eq] at h1)
      try (exfalso; (first | omega | exact h1 trivial | contradiction | (simp at h1; done)); done)
      all_goals
      refine SatC.seq ?_
      refine SatC.region ?_
      refine SatL.pu (RunV.assign rfl) rfl ?_
      refine SatL.nil (SatE.thenC ?_)
      refine SatC.ret (SatE.then_ret ?_)
      refine SatE.ret1 rfl rfl ?_
      exact ⟨rfl, hS.sel (by repeat constructor)⟩
    · (try simp only [cx, ne_eq] at h1)
      try (exfalso; (first | omega | exact h1 trivial | contradiction | (simp at h1; done)); done)
      all_goals
      refine SatC.skip (SatE.thenC ?_)
      refine SatC.seq ?_
      refine SatC.seq ?_
      refine SatC.region ?_
      refine SatL.pu (RunV.assign rfl) rfl ?_
      refine SatL.nil (SatE.thenC ?_)
      refine SatC.block ?_
      refine SatC.loopK (G := Nat × List (List Value) × List (Nat × Obj)) (V := fun ⟨k, rows, BB⟩ => [(10, .int .i64 (k : Int))]) (Cn := [(1, _), (2, _), (4, _), (5, _), (6, _), (7, _)]) (I := fun ⟨k, rows, BB⟩ w' => k ≤ n ∧ rows.length = bs.length ∧ Sl 5 1 v20 rows BB ∧ SlV (.slice A n cc) (blk BB) 0 n cc ∧ St w [] (BB ++ ((b, C 59 [v1, .int .i64 9, .int .i64 1]) :: (B1 ++ (D1 ++ (B28 ++ [(b2, C 24 [.int .i64 f, .int .i64 t, pv])]))))) w') (μ := fun ⟨k, rows, BB⟩ => n - k) (0, bs.map by1c, B20) ?_ (by repeat constructor) ?_
      · exact ⟨Nat.zero_le _, List.length_map _, hsl20, hbv, hS.sel (by repeat constructor)⟩
      clear hS
      rintro ⟨k, rows, BB⟩ w69 ⟨hk, hrl, hslB, hbv', hS⟩
      refine SatC.weak (e' := [(1, _), (2, _), (4, _), (5, _), (6, _), (7, _), (10, _)]) (by repeat constructor) ?_
      refine SatC.seq ?_
      refine SatC.seq ?_
      refine SatC.region ?_
      refine SatL.pu (RunV.move rfl) rfl ?_
      refine SatL.pu (RunV.move rfl) rfl ?_
      first | refine SatL.pu (RunV.lenR (by assumption) rfl rfl) rfl ?_ | refine SatL.pu (RunV.lenS rfl rfl) rfl ?_
      refine SatL.pu (RunV.lss rfl rfl) rfl ?_
      refine SatL.nil (SatE.thenC ?_)
      refine SatC.cond rfl (fun h2 => ?_) (fun h2 => ?_)
      · (try simp only [cx, ne_eq] at h2)
        try (exfalso; (first | omega | exact h2 trivial | contradiction | (simp at h2; done)); done)
        all_goals
        refine SatC.skip (SatE.thenC ?_)
        refine SatC.seq ?_
        refine SatC.block ?_
        refine SatC.region ?_
        refine SatL.pu (RunV.move rfl) rfl ?_
        refine SatL.pu (RunV.move rfl) rfl ?_
        refine SatL.pu (RunV.move rfl) rfl ?_
        first | refine SatL.pu (RunV.indexR (by assumption) rfl rfl rfl (by omega) (by omega) rfl) rfl ?_ | refine SatL.pu (RunV.indexS rfl rfl rfl (by omega) (by omega) rfl) rfl ?_
        refine SatL.op rfl (OpW.storeSl (r := by1c c) hslB hS (by repeat constructor) rfl rfl (IsCells.one rfl) rfl (by omega) rfl rfl ?_)
        clear hS
        intro B51 w70 hsl51 hS
        refine SatL.nil (SatE.blk_normal (SatE.thenC ?_))
        refine SatC.region ?_
        refine SatL.pu (RunV.move rfl) rfl ?_
        refine SatL.pu (RunV.add rfl rfl (by first | exact wrapI64 (by omega) | rfl)) rfl ?_
        refine SatL.pu (RunV.assign rfl) rfl ?_
        refine SatL.nil ?_
        refine SatE.again ((k + 1, rows.set (k : Int).toNat (by1c c), B51)) ?_ (by first | omega | (dsimp only; omega)) (by repeat constructor)
        exact ⟨by omega, by rw [List.length_set]; exact hrl, hsl51, blk_same hslB hsl51 (by omega) hbv', hS.sel (by repeat constructor)⟩
      · (try simp only [cx, ne_eq] at h2)
        try (exfalso; (first | omega | exact h2 trivial | contradiction | (simp at h2; done)); done)
        all_goals
        refine SatC.exit (SatE.then_exit (SatE.then_exit (SatE.blk_exit (SatE.thenC ?_))))
        refine SatC.seq ?_
        refine SatC.region ?_
        refine SatL.pu (RunV.move rfl) rfl ?_
        refine SatL.op rfl (OpW.enter rfl rfl rfl (rfl) (list_any (given := 1) (most := 9) (l := [⟨1, f, t, qv, bs.take n⟩]) (by decide) (by simp) hab1 hsl1 (hS.ownT (A := FO b v1 9 1 B1 D1) (by repeat constructor))) ?_)
        rintro r70 w70 ⟨l2, B2, D2, hk2, hsl2, hab2, h⟩
        replace hS := hS.call0 h
        simp only [List.append_assoc, List.cons_append, List.nil_append, List.append_nil] at hS
        obtain ⟨x, rfl, hkx⟩ := one_key hk2
        obtain ⟨cx2, hv2⟩ := hsl2.slv
        simp only [List.map_cons, List.map_nil, List.length_cons, List.length_nil] at hv2
        refine SatL.pu (RunV.assign rfl) rfl ?_
        refine SatL.nil (SatE.thenC ?_)
        refine SatC.seq ?_
        refine SatC.seq ?_
        refine SatC.region ?_
        refine SatL.pu (RunV.assign rfl) rfl ?_
        refine SatL.nil (SatE.thenC ?_)
        refine SatC.block ?_
        refine SatC.loopK (G := Nat × List (Nat × Obj)) (V := fun ⟨k, DD⟩ => [(12, .int .i64 (k : Int))]) (Cn := [(1, _), (2, _), (4, _), (5, _), (7, _), (11, _)]) (I := fun ⟨k, DD⟩ w' => k ≤ 1 ∧ (k = 0 → DD = D2) ∧ St w [] (B2 ++ (DD ++ ((b, C 59 [v1, .int .i64 9, .int .i64 1]) :: (B1 ++ (D1 ++ (B28 ++ [(b2, C 24 [.int .i64 f, .int .i64 t, pv])])))))) w') (μ := fun ⟨k, DD⟩ => 1 - k) (0, D2) ?_ (by repeat constructor) ?_
        · exact ⟨Nat.zero_le _, fun _ => rfl, hS.sel (by repeat constructor)⟩
        clear hS
        rintro ⟨k, DD⟩ w71 ⟨hk, hD, hS⟩
        refine SatC.weak (e' := [(1, _), (2, _), (4, _), (5, _), (7, _), (11, _), (12, _)]) (by repeat constructor) ?_
        refine SatC.seq ?_
        refine SatC.seq ?_
        refine SatC.region ?_
        refine SatL.pu (RunV.move rfl) rfl ?_
        refine SatL.pu (RunV.move rfl) rfl ?_
        first | refine SatL.pu (RunV.lenR (by assumption) rfl rfl) rfl ?_ | refine SatL.pu (RunV.lenS rfl rfl) rfl ?_
        refine SatL.pu (RunV.lss rfl rfl) rfl ?_
        refine SatL.pu (RunV.move rfl) rfl ?_
        refine SatL.guard rfl rfl rfl (fun h3 => ?_) (fun h3 => ?_)
        · (try simp only [cx, ne_eq] at h3)
          try (exfalso; (first | omega | exact h3 trivial | contradiction | (simp at h3; done)); done)
          all_goals
          refine SatL.pu (RunV.move rfl) rfl ?_
          refine SatL.guard_y rfl rfl ?_
          refine SatL.pu (RunV.lss rfl rfl) rfl ?_
          refine SatL.pu (RunV.pick_t rfl rfl) rfl ?_
          refine SatL.nil (SatE.thenC ?_)
          refine SatC.cond rfl (fun h4 => ?_) (fun h4 => ?_)
          · (try simp only [cx, ne_eq] at h4)
            try (exfalso; (first | omega | exact h4 trivial | contradiction | (simp at h4; done)); done)
            all_goals
            refine SatC.skip (SatE.thenC ?_)
            refine SatC.seq ?_
            refine SatC.block ?_
            refine SatC.seq ?_
            have hk0 : k = 0 := by omega
            have hx0 : ([x] : List Fl)[k]? = some x := by rw [hk0]; rfl
            obtain rfl := hD hk0
            obtain ⟨hxb, hxl⟩ := hab2 x (List.mem_singleton.2 rfl)
            obtain ⟨Bx, hslx, hin⟩ := hxb
            obtain ⟨R, hperm⟩ := take_out hslx hin
            replace hS := hS.perm ((hperm.append_right _).append_left _)
            simp only [List.append_assoc] at hS
            refine SatC.region ?_
            refine SatL.pu (RunV.assign rfl) rfl ?_
            refine SatL.nil (SatE.thenC ?_)
            refine SatC.block ?_
            refine SatC.loopK (G := Nat × List (List Value) × List (Nat × Obj)) (V := fun ⟨j, rows, BB⟩ => [(13, .int .i64 (j : Int))]) (Cn := [(1, _), (2, _), (4, _), (5, _), (7, _), (11, _), (12, _)]) (I := fun ⟨j, rows, BB⟩ w' => j ≤ rows.length ∧ rows.length ≤ 1400 ∧ Sl 5 1 x.v rows BB ∧ St w [] (B2 ++ (BB ++ (R ++ ((b, C 59 [v1, .int .i64 9, .int .i64 1]) :: (B1 ++ (D1 ++ (B28 ++ [(b2, C 24 [.int .i64 f, .int .i64 t, pv])]))))))) w') (μ := fun ⟨j, rows, BB⟩ => rows.length - j) (0, x.b.map by1c, Bx) ?_ (by repeat constructor) ?_
            · exact ⟨Nat.zero_le _, by rw [List.length_map]; exact hxl, hslx, hS.sel (by repeat constructor)⟩
            clear hS
            rintro ⟨j, rows, BB⟩ w72 ⟨hj, hj2, hslB, hS⟩
            obtain ⟨cb, hvb⟩ := hslB.slv
            refine SatC.weak (e' := [(1, _), (2, _), (4, _), (5, _), (7, _), (11, _), (12, _), (13, _)]) (by repeat constructor) ?_
            refine SatC.seq ?_
            refine SatC.seq ?_
            refine SatC.region ?_
            refine SatL.pu (RunV.move rfl) rfl ?_
            refine SatL.pu (RunV.move rfl) rfl ?_
            refine SatL.pu (RunV.move rfl) rfl ?_
            first | refine SatL.pu (RunV.indexR (by assumption) rfl rfl rfl (by omega) (by omega) rfl) rfl ?_ | refine SatL.pu (RunV.indexS rfl rfl rfl (by omega) (by omega) rfl) rfl ?_
            first | refine SatL.pu (RunV.fieldAddrL rfl rfl rfl) rfl ?_ | refine SatL.pu (RunV.fieldAddr rfl rfl rfl) rfl ?_
            first | refine SatL.pu (RunV.fieldAddrL rfl rfl rfl) rfl ?_ | refine SatL.pu (RunV.fieldAddr rfl rfl rfl) rfl ?_
            refine SatL.pu (RunV.loadR1g k 3 (Sl.rd hsl2 hS (by repeat constructor)) rfl rfl (by omega) (map_get hx0) rfl) rfl ?_
            first | refine SatL.pu (RunV.lenR (by assumption) rfl rfl) rfl ?_ | refine SatL.pu (RunV.lenS rfl rfl) rfl ?_
            refine SatL.pu (RunV.lss rfl rfl) rfl ?_
            refine SatL.nil (SatE.thenC ?_)
            refine SatC.cond rfl (fun h5 => ?_) (fun h5 => ?_)
            · (try simp only [cx, ne_eq] at h5)
              try (exfalso; (first | omega | exact h5 trivial | contradiction | (simp at h5; done)); done)
              all_goals
              refine SatC.skip (SatE.thenC ?_)
              refine SatC.seq ?_
              refine SatC.block ?_
              refine SatC.region ?_
              refine SatL.pu (RunV.move rfl) rfl ?_
              refine SatL.pu (RunV.move rfl) rfl ?_
              first | refine SatL.pu (RunV.indexR (by assumption) rfl rfl rfl (by omega) (by omega) rfl) rfl ?_ | refine SatL.pu (RunV.indexS rfl rfl rfl (by omega) (by omega) rfl) rfl ?_
              first | refine SatL.pu (RunV.fieldAddrL rfl rfl rfl) rfl ?_ | refine SatL.pu (RunV.fieldAddr rfl rfl rfl) rfl ?_
              first | refine SatL.pu (RunV.fieldAddrL rfl rfl rfl) rfl ?_ | refine SatL.pu (RunV.fieldAddr rfl rfl rfl) rfl ?_
              refine SatL.pu (RunV.loadR1g k 3 (Sl.rd hsl2 hS (by repeat constructor)) rfl rfl (by omega) (map_get hx0) rfl) rfl ?_
              refine SatL.pu (RunV.move rfl) rfl ?_
              refine SatL.pu (RunV.move rfl) rfl ?_
              first | refine SatL.pu (RunV.indexR (by assumption) rfl rfl rfl (by omega) (by omega) rfl) rfl ?_ | refine SatL.pu (RunV.indexS rfl rfl rfl (by omega) (by omega) rfl) rfl ?_
              refine SatL.op rfl (OpW.storeSl (r := by1c c) hslB hS (by repeat constructor) rfl rfl (IsCells.one rfl) rfl (by omega) rfl rfl ?_)
              clear hS
              intro B83 w73 hsl83 hS
              refine SatL.nil (SatE.blk_normal (SatE.thenC ?_))
              refine SatC.weak (e' := [(1, _), (2, _), (4, _), (5, _), (7, _), (11, _), (12, _), (13, _)]) (by repeat constructor) ?_
              refine SatC.region ?_
              refine SatL.pu (RunV.move rfl) rfl ?_
              refine SatL.pu (RunV.add rfl rfl (by first | exact wrapI64 (by omega) | rfl)) rfl ?_
              refine SatL.pu (RunV.assign rfl) rfl ?_
              refine SatL.nil ?_
              refine SatE.again ((j + 1, rows.set (j : Int).toNat (by1c c), B83)) ?_ (by dsimp only; rw [List.length_set]; omega) (by repeat constructor)
              exact ⟨by rw [List.length_set]; omega, by rw [List.length_set]; exact hj2, hsl83, hS.sel (by repeat constructor)⟩
            · (try simp only [cx, ne_eq] at h5)
              try (exfalso; (first | omega | exact h5 trivial | contradiction | (simp at h5; done)); done)
              all_goals
              refine SatC.exit (SatE.then_exit (SatE.then_exit (SatE.blk_exit (SatE.blk_normal (SatE.thenC ?_)))))
              refine SatC.region ?_
              refine SatL.pu (RunV.move rfl) rfl ?_
              refine SatL.pu (RunV.add rfl rfl (by first | exact wrapI64 (by omega) | rfl)) rfl ?_
              refine SatL.pu (RunV.assign rfl) rfl ?_
              refine SatL.nil ?_
              refine SatE.again ((k + 1, BB ++ R)) ?_ (by first | omega | (dsimp only; omega)) (by repeat constructor)
              exact ⟨by omega, fun e => by omega, by simp only [List.append_assoc]; exact hS.sel (by repeat constructor)⟩
          · (try simp only [cx, ne_eq] at h4)
            try (exfalso; (first | omega | exact h4 trivial | contradiction | (simp at h4; done)); done)
            all_goals
            refine SatC.exit (SatE.then_exit (SatE.then_exit (SatE.blk_exit (SatE.thenC ?_))))
            refine SatC.seq ?_
            refine SatC.region ?_
            refine SatL.pu (RunV.move rfl) rfl ?_
            refine SatL.op rfl (OpW.enter rfl rfl rfl (rfl) (deliver_one (l := [⟨1, f, t, qv, bs.take n⟩]) 0 ⟨1, f, t, qv, bs.take n⟩ (by decide) (by simp) (out0 _) (pick0 _) (by simp) hab1 hsl1 (hS.ownT (A := FO b v1 9 1 B1 D1) (by repeat constructor))) ?_)
            rintro r72 w72 ⟨rfl, v3, B3, hsl3, h⟩
            replace hS := hS.callT (A := FO b v1 9 1 B1 D1) (by repeat constructor) h
            simp only [List.append_assoc, List.cons_append, List.nil_append, List.append_nil] at hS
            refine SatL.pu (RunV.move rfl) rfl ?_
            refine SatL.pu (RunV.extract rfl rfl) rfl ?_
            refine SatL.pu (RunV.extract rfl rfl) rfl ?_
            refine SatL.op rfl (OpW.alloc hS rfl rfl (by repeat constructor) ?_)
            clear hS
            intro b14 w73 _ hS
            refine SatL.op rfl (OpW.store hS rfl rfl (by repeat constructor) (by repeat constructor) (by repeat constructor) rfl (by simp only [List.all_cons, List.all_nil, hbd.one, Bool.and_true]; rfl) ?_)
            clear hS
            intro w74 hS
            refine SatL.pu (RunV.assign rfl) rfl ?_
            refine SatL.nil (SatE.thenC ?_)
            refine SatC.seq ?_
            refine SatC.weak (e' := [(2, _), (4, _), (7, _), (14, _), (15, _)]) (by repeat constructor) ?_
            refine SatC.region ?_
            refine SatL.pu (RunV.move rfl) rfl ?_
            refine SatL.pu (RunV.move rfl) rfl ?_
            refine SatL.guard rfl rfl rfl (fun h5 => ?_) (fun h5 => ?_)
            · (try simp only [cx, ne_eq] at h5)
              try (exfalso; (first | omega | exact h5 trivial | contradiction | (simp at h5; done)); done)
              all_goals
              refine SatL.pu (RunV.loadN hS rfl rfl (by repeat constructor) (by repeat constructor)) rfl ?_
              refine SatL.guard_y rfl rfl ?_
              first | refine SatL.pu (RunV.fieldAddrL rfl rfl rfl) rfl ?_ | refine SatL.pu (RunV.fieldAddr rfl rfl rfl) rfl ?_
              refine SatL.guard_y rfl rfl ?_
              refine SatL.pu (RunV.load1 hS rfl rfl (by repeat constructor) rfl) rfl ?_
              refine SatL.guard_y rfl rfl ?_
              first | refine SatL.pu (RunV.fieldAddrL rfl rfl rfl) rfl ?_ | refine SatL.pu (RunV.fieldAddr rfl rfl rfl) rfl ?_
              refine SatL.guard_y rfl rfl ?_
              refine SatL.pu (RunV.load1 hS rfl rfl (by repeat constructor) rfl) rfl ?_
              refine SatL.guard_y rfl rfl ?_
              refine SatL.pu (RunV.move rfl) rfl ?_
              refine SatL.guard_y rfl rfl ?_
              refine SatL.pu (RunV.build rfl (by simp [go_sem]; try rfl)) rfl ?_
              refine SatL.guard_y rfl rfl ?_
              refine SatL.op rfl (OpW.enter rfl rfl rfl (rfl) (same_any f t f t qv _ (bs.take n) (bs.take n) _ (hbd.row (fun c hc => (hS.sel (R := D1) (by repeat constructor)).own c hc) (by simp only [List.length_take]; omega)) (by have e := hsl28.row hS (by repeat constructor) (by simp only [List.length_map, List.length_take]; omega); simpa only [List.length_map, List.length_take] using e)) ?_)
              rintro r75 w75 ⟨rfl, h⟩
              replace hS := St.callN hS h
              refine SatL.pu (RunV.pick_t rfl rfl) rfl ?_
              refine SatL.pu (RunV.move rfl) rfl ?_
              refine SatL.guard rfl rfl rfl (fun h6 => ?_) (fun h6 => ?_)
              · (try simp only [cx, ne_eq] at h6)
                try (exfalso; (first | omega | exact h6 trivial | contradiction | (simp at h6; done)); done)
                all_goals
                refine SatL.op rfl (OpW.enter rfl rfl rfl (rfl) (works_any _) ?_)
                rintro r76 w76 ⟨rfl, h⟩
                replace hS := St.callN hS h
                refine SatL.pu (RunV.pick_t rfl rfl) rfl ?_
                refine SatL.pu (RunV.assign rfl) rfl ?_
                refine SatL.nil (SatE.thenC ?_)
                refine SatC.ret ?_
                refine SatE.ret1 rfl rfl ?_
                exact ⟨rfl, hS.sel (by repeat constructor)⟩
              · (try simp only [cx, ne_eq] at h6)
                try (exfalso; (first | omega | exact h6 trivial | contradiction | (simp at h6; done)); done)
                all_goals
                refine SatL.pu (RunV.pick_f rfl rfl) rfl ?_
                refine SatL.pu (RunV.assign rfl) rfl ?_
                refine SatL.nil (SatE.thenC ?_)
                refine SatC.ret ?_
                refine SatE.ret1 rfl rfl ?_
                exact ⟨rfl, hS.sel (by repeat constructor)⟩
            · (try simp only [cx, ne_eq] at h5)
              try (exfalso; (first | omega | exact h5 trivial | contradiction | (simp at h5; done)); done)
              all_goals
              refine SatL.guard_n rfl rfl rfl rfl ?_
              refine SatL.guard_n rfl rfl rfl rfl ?_
              refine SatL.guard_n rfl rfl rfl rfl ?_
              refine SatL.guard_n rfl rfl rfl rfl ?_
              refine SatL.guard_n rfl rfl rfl rfl ?_
              refine SatL.guard_n rfl rfl rfl rfl ?_
              refine SatL.guard_n rfl rfl rfl rfl ?_
              refine SatL.pu (RunV.pick_f rfl rfl) rfl ?_
              refine SatL.pu (RunV.move rfl) rfl ?_
              refine SatL.guard_n rfl rfl rfl rfl ?_
              refine SatL.pu (RunV.pick_f rfl rfl) rfl ?_
              refine SatL.pu (RunV.assign rfl) rfl ?_
              refine SatL.nil (SatE.thenC ?_)
              refine SatC.ret ?_
              refine SatE.ret1 rfl rfl ?_
              exact ⟨rfl, hS.sel (by repeat constructor)⟩
        · (try simp only [cx, ne_eq] at h3)
          try (exfalso; (first | omega | exact h3 trivial | contradiction | (simp at h3; done)); done)
          all_goals
          refine SatL.guard_n rfl rfl rfl rfl ?_
          refine SatL.pu (RunV.pick_f rfl rfl) rfl ?_
          refine SatL.nil (SatE.thenC ?_)
          refine SatC.cond_f rfl ?_
          refine SatC.exit (SatE.then_exit (SatE.then_exit (SatE.blk_exit (SatE.thenC ?_))))
          refine SatC.seq ?_
          refine SatC.region ?_
          refine SatL.pu (RunV.move rfl) rfl ?_
          refine SatL.op rfl (OpW.enter rfl rfl rfl (rfl) (deliver_one (l := [⟨1, f, t, qv, bs.take n⟩]) 0 ⟨1, f, t, qv, bs.take n⟩ (by decide) (by simp) (out0 _) (pick0 _) (by simp) hab1 hsl1 (hS.ownT (A := FO b v1 9 1 B1 D1) (by repeat constructor))) ?_)
          rintro r72 w72 ⟨rfl, v3, B3, hsl3, h⟩
          replace hS := hS.callT (A := FO b v1 9 1 B1 D1) (by repeat constructor) h
          simp only [List.append_assoc, List.cons_append, List.nil_append, List.append_nil] at hS
          refine SatL.pu (RunV.move rfl) rfl ?_
          refine SatL.pu (RunV.extract rfl rfl) rfl ?_
          refine SatL.pu (RunV.extract rfl rfl) rfl ?_
          refine SatL.op rfl (OpW.alloc hS rfl rfl (by repeat constructor) ?_)
          clear hS
          intro b14 w73 _ hS
          refine SatL.op rfl (OpW.store hS rfl rfl (by repeat constructor) (by repeat constructor) (by repeat constructor) rfl (by simp only [List.all_cons, List.all_nil, hbd.one, Bool.and_true]; rfl) ?_)
          clear hS
          intro w74 hS
          refine SatL.pu (RunV.assign rfl) rfl ?_
          refine SatL.nil (SatE.thenC ?_)
          refine SatC.seq ?_
          refine SatC.weak (e' := [(2, _), (4, _), (7, _), (14, _), (15, _)]) (by repeat constructor) ?_
          refine SatC.region ?_
          refine SatL.pu (RunV.move rfl) rfl ?_
          refine SatL.pu (RunV.move rfl) rfl ?_
          refine SatL.guard rfl rfl rfl (fun h4 => ?_) (fun h4 => ?_)
          · (try simp only [cx, ne_eq] at h4)
            try (exfalso; (first | omega | exact h4 trivial | contradiction | (simp at h4; done)); done)
            all_goals
            refine SatL.pu (RunV.loadN hS rfl rfl (by repeat constructor) (by repeat constructor)) rfl ?_
            refine SatL.guard_y rfl rfl ?_
            first | refine SatL.pu (RunV.fieldAddrL rfl rfl rfl) rfl ?_ | refine SatL.pu (RunV.fieldAddr rfl rfl rfl) rfl ?_
            refine SatL.guard_y rfl rfl ?_
            refine SatL.pu (RunV.load1 hS rfl rfl (by repeat constructor) rfl) rfl ?_
            refine SatL.guard_y rfl rfl ?_
            first | refine SatL.pu (RunV.fieldAddrL rfl rfl rfl) rfl ?_ | refine SatL.pu (RunV.fieldAddr rfl rfl rfl) rfl ?_
            refine SatL.guard_y rfl rfl ?_
            refine SatL.pu (RunV.load1 hS rfl rfl (by repeat constructor) rfl) rfl ?_
            refine SatL.guard_y rfl rfl ?_
            refine SatL.pu (RunV.move rfl) rfl ?_
            refine SatL.guard_y rfl rfl ?_
            refine SatL.pu (RunV.build rfl (by simp [go_sem]; try rfl)) rfl ?_
            refine SatL.guard_y rfl rfl ?_
            refine SatL.op rfl (OpW.enter rfl rfl rfl (rfl) (same_any f t f t qv _ (bs.take n) (bs.take n) _ (hbd.row (fun c hc => (hS.sel (R := D1) (by repeat constructor)).own c hc) (by simp only [List.length_take]; omega)) (by have e := hsl28.row hS (by repeat constructor) (by simp only [List.length_map, List.length_take]; omega); simpa only [List.length_map, List.length_take] using e)) ?_)
            rintro r75 w75 ⟨rfl, h⟩
            replace hS := St.callN hS h
            refine SatL.pu (RunV.pick_t rfl rfl) rfl ?_
            refine SatL.pu (RunV.move rfl) rfl ?_
            refine SatL.guard rfl rfl rfl (fun h5 => ?_) (fun h5 => ?_)
            · (try simp only [cx, ne_eq] at h5)
              try (exfalso; (first | omega | exact h5 trivial | contradiction | (simp at h5; done)); done)
              all_goals
              refine SatL.op rfl (OpW.enter rfl rfl rfl (rfl) (works_any _) ?_)
              rintro r76 w76 ⟨rfl, h⟩
              replace hS := St.callN hS h
              refine SatL.pu (RunV.pick_t rfl rfl) rfl ?_
              refine SatL.pu (RunV.assign rfl) rfl ?_
              refine SatL.nil (SatE.thenC ?_)
              refine SatC.ret ?_
              refine SatE.ret1 rfl rfl ?_
              exact ⟨rfl, hS.sel (by repeat constructor)⟩
            · (try simp only [cx, ne_eq] at h5)
              try (exfalso; (first | omega | exact h5 trivial | contradiction | (simp at h5; done)); done)
              all_goals
              refine SatL.pu (RunV.pick_f rfl rfl) rfl ?_
              refine SatL.pu (RunV.assign rfl) rfl ?_
              refine SatL.nil (SatE.thenC ?_)
              refine SatC.ret ?_
              refine SatE.ret1 rfl rfl ?_
              exact ⟨rfl, hS.sel (by repeat constructor)⟩
          · (try simp only [cx, ne_eq] at h4)
            try (exfalso; (first | omega | exact h4 trivial | contradiction | (simp at h4; done)); done)
            all_goals
            refine SatL.guard_n rfl rfl rfl rfl ?_
            refine SatL.guard_n rfl rfl rfl rfl ?_
            refine SatL.guard_n rfl rfl rfl rfl ?_
            refine SatL.guard_n rfl rfl rfl rfl ?_
            refine SatL.guard_n rfl rfl rfl rfl ?_
            refine SatL.guard_n rfl rfl rfl rfl ?_
            refine SatL.guard_n rfl rfl rfl rfl ?_
            refine SatL.pu (RunV.pick_f rfl rfl) rfl ?_
            refine SatL.pu (RunV.move rfl) rfl ?_
            refine SatL.guard_n rfl rfl rfl rfl ?_
            refine SatL.pu (RunV.pick_f rfl rfl) rfl ?_
            refine SatL.pu (RunV.assign rfl) rfl ?_
            refine SatL.nil (SatE.thenC ?_)
            refine SatC.ret ?_
            refine SatE.ret1 rfl rfl ?_
            exact ⟨rfl, hS.sel (by repeat constructor)⟩
theorem flightKept_lifted (os : Os) (started : os.Started) (H : Type) (enc : TypeId × Value → H) :
    ReturnsInHanded {} Try.checked os 3 .any (Rows.flightKeptSpec.pre6 enc Try.prog Try.f3 Rows.flightKeptRow.domain false) (Rows.flightKeptSpec.post enc Try.prog Try.f3 false true false false) := by
  refine law_returns (C := Try.checked) (b := 4) (by kernel_rfl) started (by kernel_rfl) Try.func3
    (ChangeSpec.witness6 (enc := enc) (C := Try.checked) false ⟨#[], #[.agg #[.int .i64 0, .int .i64 0, .slice none 0 0], .int .u8 0], []⟩ 8 (by kernel_rfl) (by kernel_rfl) (by kernel_rfl) (by kernel_rfl))
    rfl rfl (by kernel_rfl) (by kernel_rfl) (by kernel_rfl) (fun ds h => ?_) ?_
  · rw [Try.params3] at h
    match ds, h with
    | [_, _], _ => rfl
  intro W base args ds ps hval hA hsz
  rw [Try.params3] at hA hval
  obtain ⟨v0, v1, d0, d1, q0, q1, hargs, rfl, rfl, h0, h1⟩ := trodAll_two hA
  subst hargs
  obtain ⟨c0, rfl, l0⟩ := open_struct (l := [3, 3, 22]) 6 Try.underlying24 (by kernel_rfl) (hval 0 24 v0 rfl rfl) h0
  obtain ⟨a0_0, a0_1, a0_2, rfl, l0_0, l0_1, l0_2⟩ := allLeaf_list3 l0
  obtain ⟨a0_0, rfl, ba0_0⟩ := leaf_int Try.underlying3 l0_0
  replace ba0_0 := bnd_i64 ba0_0
  obtain ⟨a0_1, rfl, ba0_1⟩ := leaf_int Try.underlying3 l0_1
  replace ba0_1 := bnd_i64 ba0_1
  obtain ⟨xs0_2, hr0_2, hx0_2⟩ := leaf_rows (l := [5]) 6 Try.underlying22 (by kernel_rfl) (by kernel_rfl) (by decide) l0_2
  obtain ⟨ys0_2, rfl, hy0_2⟩ := rows_map (enc' := by1c) (q := fun _ => True) (fun r hr => by
    obtain ⟨u0, rfl, l0⟩ := allLeaf_list1 hr
    obtain ⟨n0, rfl, e0⟩ := leaf_int Try.underlying5 l0
    obtain ⟨c, rfl⟩ : ∃ c : UInt8, n0 = (c.toNat : Int) := ⟨UInt8.ofNat n0.toNat, by have := bnd_u8 e0; simp; omega⟩; exact ⟨c, rfl, trivial⟩) xs0_2 hx0_2
  obtain ⟨a1, rfl, rfl, rfl, b1⟩ := open_int Try.underlying5 (hval 1 5 v1 rfl rfl) h1
  replace b1 := bnd_u8 b1
  obtain ⟨cb, rfl⟩ : ∃ c : UInt8, a1 = (c.toNat : Int) := ⟨UInt8.ofNat a1.toNat, by simp; omega⟩
  have hln := field_len (n := 1) hsz (j := 0) (i := 2) (by rw [Try.params3]; rfl) rfl Try.underlying24 rfl (by kernel_rfl) Try.underlying22 (by kernel_rfl) h0 rfl hr0_2
  rw [List.length_map, Nat.mul_one] at hln
  exact law_done (kept_any a0_0 a0_1 _ ys0_2 cb W hr0_2 (by omega))
theorem flightKept_holds : Rows.FlightKeptSaid :=
  OpenClaim.holds_of_wide 3 Try.f3 rfl rfl rfl rfl rfl rfl rfl ⟨rfl, rfl, rfl, rfl, rfl⟩ rfl rfl rfl rfl rfl (by kernel_rfl) Try.func3 (by kernel_rfl)
    (of_decide_eq_true (by kernel_rfl)) (by unfold Func.isWrapper; first | (rw [if_pos (by decide +kernel)]; kernel_rfl) | (rw [if_neg (by decide +kernel)]; exact ⟨rfl, rfl⟩))
    (fun os started H enc _ => flightKept_lifted os started H enc)
end Go.Proofs.Ytpnkcoahbadnjaa
