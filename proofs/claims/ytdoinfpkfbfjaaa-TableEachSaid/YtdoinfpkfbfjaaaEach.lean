/- TableEach: what is gone over is what the table had when it was asked, whatever is put and dropped meanwhile. No condition. -/
import Derived.Test.YtdoinfpkfbfjaaaEa
import Derived.Test.YtdoinfpkfbfjaaaW
import Derived.Test.YtdoinfpkfbfjaaaK27
import Derived.Test.YtdoinfpkfbfjaaaK7
import Derived.Test.YtdoinfpkfbfjaaaK16
import Derived.Test.YtdoinfpkfbfjaaaRows
set_option linter.unusedSimpArgs false
set_option linter.unusedVariables false
set_option maxRecDepth 100000
set_option maxHeartbeats 8000000
namespace Go.Proofs.Ytdoinfpkfbfjaaa
open Go.RowKit Go.ChangeShapes Go.WideShapes Go.ChangeAt
section
variable {b : Nat} {last : Int} {v : Value} {rows : List Tr} {B : List (Nat × Obj)} {w : World}
theorem put_e (key : List UInt8) (x ix : Int) (hkey : key.length ≤ 9223372036854775807) (ha : Asc rows) (hk : KeyB rows) (hl : rows.length ≤ 64) (hsl : Sl 30 4 v (rows.map tr) B) (hown : Own w ((b, C 58 (tc 64 v last)) :: B)) :
    Ret Try.prog 9 #[.pointer (some ⟨b, 0, none⟩), str key, .int .i64 x, .int .u64 ix] w fun u w' => ∃ rows' v' B' last', Asc rows' ∧ KeyB rows' ∧ rows'.length ≤ 64 ∧ Sl 30 4 v' (rows'.map tr) B' ∧ St w (b :: B.map Prod.fst) ((b, C 58 (tc 64 v' last')) :: B') w' :=
  (put_tab key x ix ha hsl (by omega) hown (by decide)).mono fun u w' ⟨_, v', B', h1, h2⟩ => ⟨_, v', B', _, asc_putS' ha, keyb_putS hk hkey, by have := len_putS (most := 64) (last := last) (x := x) (ix := ix) (key := key) ha (by omega); omega, h1, h2⟩
theorem drop_e (key : List UInt8) (ix : Int) (ha : Asc rows) (hk : KeyB rows) (hl : rows.length ≤ 64) (hsl : Sl 30 4 v (rows.map tr) B) (hown : Own w ((b, C 58 (tc 64 v last)) :: B)) :
    Ret Try.prog 8 #[.pointer (some ⟨b, 0, none⟩), str key, .int .u64 ix] w fun u w' => ∃ rows' v' B' last', Asc rows' ∧ KeyB rows' ∧ rows'.length ≤ 64 ∧ Sl 30 4 v' (rows'.map tr) B' ∧ St w (b :: B.map Prod.fst) ((b, C 58 (tc 64 v' last')) :: B') w' :=
  (drop_tab key ix ha hsl (by omega) hown (by decide)).mono fun u w' ⟨_, v', B', h1, h2⟩ => ⟨_, v', B', _, asc_dropS ha, keyb_dropS hk, by have := len_dropS (last := last) (ix := ix) (key := key) (rows := rows); omega, h1, h2⟩
end
theorem pre_key {rs : List TrB} {rows : List Tr} {pre : List TrB} {x : TrB} {z : Tr} (hrs : rs.map (·.1) = rows) (hz : rows[pre.length]? = some z) (hp : pre ++ [x] <+: rs) : z = x.1 := by
  obtain ⟨t, rfl⟩ := hp
  subst hrs
  rw [List.map_append, List.map_append, List.append_assoc, List.getElem?_append_right (by simp)] at hz
  simp at hz
  exact hz.symm
@[reducible] def LG (b9 b7 b5 b4 bp b be bi : Nat) (wv ve : Value) (WB Be : List (Nat × Obj)) (y0 : Sp) (g : Nat × List Tr × Value × List (Nat × Obj) × Int) : List (Nat × Obj) :=
  (b9, C 3 [.int .i64 (g.1 : Int)]) :: (b, C 58 (tc 64 g.2.2.1 g.2.2.2.2)) :: (g.2.2.2.1 ++ (b7, C 34 [wv]) :: (WB ++ (b5, C 23 [.pointer (some ⟨b, 0, none⟩)]) :: (b4, C 4 [.bool false]) :: (bp, C 27 (spr y0)) :: IO be bi ve Be))
@[reducible] def PG (rs pre : List TrB) (g : Nat × List Tr × Value × List (Nat × Obj) × Int) : Prop := g.1 = pre.length ∧ pre.length ≤ rs.length ∧ Asc g.2.1 ∧ KeyB g.2.1 ∧ g.2.1.length ≤ 64 ∧ Sl 30 4 g.2.2.1 (g.2.1.map tr) g.2.2.2.1
@[reducible] def PX (rs : List TrB) (c : Code) (pre : List TrB) (g : Nat × List Tr × Value × List (Nat × Obj) × Int) : Prop := (¬ pre <+: rs) ∧ Sl 30 4 g.2.2.1 (g.2.1.map tr) g.2.2.2.1
theorem lg_mem {b9 b7 b5 b4 bp b be bi : Nat} {wv ve : Value} {WB Be : List (Nat × Obj)} {y0 : Sp} {g : Nat × List Tr × Value × List (Nat × Obj) × Int} {c : Nat × Obj} (h : c ∈ IO be bi ve Be) : c ∈ LG b9 b7 b5 b4 bp b be bi wv ve WB Be y0 g :=
  List.mem_cons_of_mem _ (List.mem_cons_of_mem _ (List.mem_append_right _ (List.mem_cons_of_mem _ (List.mem_append_right _ (List.mem_cons_of_mem _ (List.mem_cons_of_mem _ (List.mem_cons_of_mem _ h)))))))
theorem each_law (v : Value) (ys : List Sp) (y0 : Sp) (W : World) (hr : RdRow W v 4 (ys.map spr)) (hys : ∀ y ∈ ys, y.2.1.length ≤ 9223372036854775807) (hy0 : y0.2.1.length ≤ 9223372036854775807) : Ret Try.prog 4 #[v, .agg (spr y0).toArray] W fun u w' => u = .bool true ∧ St W [] [] w' := by
  have hS := St.init0 W
  obtain ⟨bl, ol, cl, hvl, hmaxl, hcl, hltl⟩ := hr.open
  simp only [List.length_map] at hvl hmaxl hltl
  refine Ret.enterM Try.func4 Try.ntmps4 rfl rfl ?_
  simp only [argEnv, Nat.reduceAdd]
  refine SatC.seq ?_
  refine SatC.region ?_
  refine SatL.op rfl (OpW.box hS rfl rfl (by repeat constructor) ?_)
  clear hS
  intro b3 w1 _ hS
  refine SatL.op rfl (OpW.alloc hS rfl rfl (by repeat constructor) ?_)
  clear hS
  intro b4 w2 _ hS
  refine SatL.nil (SatE.thenC ?_)
  refine SatC.seq ?_
  refine SatC.seq ?_
  refine SatC.region ?_
  refine SatL.op rfl (OpW.enter rfl rfl rfl (rfl) (works_any _) ?_)
  rintro r3 w3 ⟨rfl, h⟩
  replace hS := St.callN hS h
  refine SatL.pu (RunV.not rfl) rfl ?_
  refine SatL.nil (SatE.thenC ?_)
  refine SatC.cond rfl (fun h1 => ?_) (fun h1 => ?_)
  · (try simp only [cx, ne_eq] at h1)
    try (exfalso; (first | omega | exact h1 trivial | contradiction); done)
    all_goals
    refine SatC.seq ?_
    refine SatC.region ?_
    refine SatL.op rfl (OpW.store hS rfl rfl (by repeat constructor) (by repeat constructor) (by repeat constructor) rfl rfl ?_)
    clear hS
    intro w4 hS
    refine SatL.nil (SatE.thenC ?_)
    refine SatC.ret (SatE.then_ret ?_)
    done
  · (try simp only [cx, ne_eq] at h1)
    try (exfalso; (first | omega | exact h1 trivial | contradiction); done)
    all_goals
    refine SatC.skip (SatE.thenC ?_)
    refine SatC.seq ?_
    refine SatC.region ?_
    refine SatL.op rfl (OpW.enter rfl rfl rfl (rfl) (tnew_any _ _) ?_)
    rintro r4 w4 ⟨b, rfl, h⟩
    replace hS := hS.callT (A := []) (by repeat constructor) h
    refine SatL.op rfl (OpW.alloc hS rfl rfl (by repeat constructor) ?_)
    clear hS
    intro b5 w5 _ hS
    refine SatL.op rfl (OpW.store hS rfl rfl (by repeat constructor) (by repeat constructor) (by repeat constructor) rfl rfl ?_)
    clear hS
    intro w6 hS
    refine SatL.nil (SatE.thenC ?_)
    refine SatC.merge (G := List Tr × Value × List (Nat × Obj) × Int) (V := fun ⟨rows, tv, B, last⟩ => []) (Cn := [(3, _), (4, _), (5, _)]) (I := fun ⟨rows, tv, B, last⟩ w' => Asc rows ∧ KeyB rows ∧ rows.length ≤ 64 ∧ Sl 30 4 tv (rows.map tr) B ∧ St W [] ((b5, C 23 [.pointer (some ⟨b, 0, none⟩)]) :: (b4, C 4 [.bool false]) :: (b3, C 27 (spr y0)) :: (b, C 58 (tc 64 tv last)) :: B) w') (by repeat constructor) ?_ ?_
    · skip
      refine SatC.seq ?_
      refine SatC.region ?_
      refine SatL.pu (RunV.assign rfl) rfl ?_
      refine SatL.nil (SatE.thenC ?_)
      refine SatC.block ?_
      refine SatC.loopK (G := Nat × List Tr × Value × List (Nat × Obj) × Int) (V := fun ⟨i, rows, tv, B, last⟩ => [(6, .int .i64 (i : Int))]) (Cn := [(0, _), (3, _), (4, _), (5, _)]) (I := fun ⟨i, rows, tv, B, last⟩ w' => i ≤ ys.length ∧ i ≤ 64 ∧ Asc rows ∧ KeyB rows ∧ rows.length ≤ 64 ∧ Sl 30 4 tv (rows.map tr) B ∧ St W [] ((b5, C 23 [.pointer (some ⟨b, 0, none⟩)]) :: (b4, C 4 [.bool false]) :: (b3, C 27 (spr y0)) :: (b, C 58 (tc 64 tv last)) :: B) w') (μ := fun ⟨i, rows, tv, B, last⟩ => ys.length - i) (0, [], .slice none 0 0, [], 0) ?_ (by repeat constructor) ?_
      · exact ⟨Nat.zero_le _, by omega, List.Pairwise.nil, (fun r h => by cases h), by simp, .nil, hS.sel (by repeat constructor)⟩
      clear hS
      rintro ⟨i, rows, tv, B, last⟩ w7 ⟨hi, hi6, ha, hk, hl, hsl, hS⟩
      refine SatC.weak (e' := [(0, _), (3, _), (4, _), (5, _), (6, _)]) (by repeat constructor) ?_
      refine SatC.seq ?_
      refine SatC.seq ?_
      refine SatC.region ?_
      refine SatL.pu (RunV.move rfl) rfl ?_
      refine SatL.pu (RunV.move rfl) rfl ?_
      refine SatL.pu (RunV.lenR hvl rfl rfl) rfl ?_
      refine SatL.pu (RunV.lss rfl rfl) rfl ?_
      refine SatL.pu (RunV.move rfl) rfl ?_
      refine SatL.guard rfl rfl rfl (fun h2 => ?_) (fun h2 => ?_)
      · (try simp only [cx, ne_eq] at h2)
        try (exfalso; (first | omega | exact h2 trivial | contradiction); done)
        all_goals
        refine SatL.pu (RunV.move rfl) rfl ?_
        refine SatL.guard_y rfl rfl ?_
        refine SatL.pu (RunV.lss rfl rfl) rfl ?_
        refine SatL.pu (RunV.pick_t rfl rfl) rfl ?_
        refine SatL.nil (SatE.thenC ?_)
        refine SatC.cond rfl (fun h3 => ?_) (fun h3 => ?_)
        · (try simp only [cx, ne_eq] at h3)
          try (exfalso; (first | omega | exact h3 trivial | contradiction); done)
          all_goals
          refine SatC.skip (SatE.thenC ?_)
          refine SatC.seq ?_
          refine SatC.block ?_
          obtain ⟨y, hy⟩ := get_some ys i (by omega)
          have hyb := hys y (List.mem_of_getElem? hy)
          refine SatC.drawnP 16 hS (hS.sel (R := [(b5, C 23 [.pointer (some ⟨b, 0, none⟩)])]) (by repeat constructor)) (by kernel_rfl) ?_
          clear hS
          intro w8 hh hS hD
          refine SatD.tk 0 rfl hD (fun _ hw => RunV.load1 hw rfl rfl (by repeat constructor) rfl) ?_
          refine SatD.tkp 1 rfl [5, 4, 3] hD (fun _ hw => RunV.move rfl) ?_
          refine SatD.tkp 2 rfl [5, 4, 3] hD (fun _ hw => RunV.move rfl) ?_
          refine SatD.tkp 3 rfl [5, 4] hD (fun _ hw => RunV.indexR hvl rfl rfl rfl (by omega) (by omega) rfl) ?_
          first | refine SatD.tkp 4 rfl [5] hD (fun _ hw => RunV.fieldAddrL rfl rfl rfl) ?_ | refine SatD.tkp 4 rfl [5] hD (fun _ hw => RunV.fieldAddr rfl rfl rfl) ?_
          refine SatD.tk 5 rfl hD (fun _ hw => RunV.loadR1g i 1 (hcl.st hw List.not_mem_nil) rfl rfl (by omega) (map_get hy) rfl) ?_
          refine SatD.tkp 6 rfl [10, 9, 8] hD (fun _ hw => RunV.move rfl) ?_
          refine SatD.tkp 7 rfl [10, 9, 8] hD (fun _ hw => RunV.move rfl) ?_
          refine SatD.tkp 8 rfl [10, 9] hD (fun _ hw => RunV.indexR hvl rfl rfl rfl (by omega) (by omega) rfl) ?_
          first | refine SatD.tkp 9 rfl [10] hD (fun _ hw => RunV.fieldAddrL rfl rfl rfl) ?_ | refine SatD.tkp 9 rfl [10] hD (fun _ hw => RunV.fieldAddr rfl rfl rfl) ?_
          refine SatD.tk 10 rfl hD (fun _ hw => RunV.loadR1g i 2 (hcl.st hw List.not_mem_nil) rfl rfl (by omega) (map_get hy) rfl) ?_
          refine SatD.tkp 11 rfl [15, 14, 13] hD (fun _ hw => RunV.move rfl) ?_
          refine SatD.tkp 12 rfl [15, 14, 13] hD (fun _ hw => RunV.move rfl) ?_
          refine SatD.tkp 13 rfl [15, 14] hD (fun _ hw => RunV.indexR hvl rfl rfl rfl (by omega) (by omega) rfl) ?_
          first | refine SatD.tkp 14 rfl [15] hD (fun _ hw => RunV.fieldAddrL rfl rfl rfl) ?_ | refine SatD.tkp 14 rfl [15] hD (fun _ hw => RunV.fieldAddr rfl rfl rfl) ?_
          refine SatD.tk 15 rfl hD (fun _ hw => RunV.loadR1g i 3 (hcl.st hw List.not_mem_nil) rfl rfl (by omega) (map_get hy) rfl) ?_
          refine SatD.effF (by kernel_rfl) rfl rfl (OpW.enter rfl rfl rfl (rfl) (put_e y.2.1 y.2.2.1 y.2.2.2 hyb ha hk hl hsl (hS.ownT (A := (b, C 58 (tc 64 tv last)) :: B) (by repeat constructor))) ?_)
          rintro r9 w9 ⟨rows2, v2, B2, last2, ha2, hk2, hl2, hs2, h⟩
          replace hS := hS.callT (A := (b, C 58 (tc 64 tv last)) :: B) (by repeat constructor) h
          refine SatD.doneP 0 (by kernel_rfl) (SatE.blk_normal (SatE.thenC ?_))
          clear hD
          refine SatC.weak (e' := [(0, _), (3, _), (4, _), (5, _), (6, _)]) (by repeat constructor) ?_
          refine SatC.region ?_
          refine SatL.pu (RunV.move rfl) rfl ?_
          refine SatL.pu (RunV.add rfl rfl (by first | exact wrapI64 (by omega) | rfl)) rfl ?_
          refine SatL.pu (RunV.assign rfl) rfl ?_
          refine SatL.nil ?_
          refine SatE.again ((i + 1, rows2, v2, B2, last2)) ?_ (by first | omega | (dsimp only; omega)) (by repeat constructor)
          exact ⟨by omega, by omega, ha2, hk2, hl2, hs2, hS.sel (by repeat constructor)⟩
        · (try simp only [cx, ne_eq] at h3)
          try (exfalso; (first | omega | exact h3 trivial | contradiction); done)
          all_goals
          refine SatC.exit (SatE.then_exit (SatE.then_exit (SatE.blk_exit ?_)))
          refine SatE.met ((rows, tv, B, last)) ?_ (by repeat constructor)
          exact ⟨ha, hk, hl, hsl, hS.sel (by repeat constructor)⟩
      · (try simp only [cx, ne_eq] at h2)
        try (exfalso; (first | omega | exact h2 trivial | contradiction); done)
        all_goals
        refine SatL.guard_n rfl rfl rfl rfl ?_
        refine SatL.pu (RunV.pick_f rfl rfl) rfl ?_
        refine SatL.nil (SatE.thenC ?_)
        refine SatC.cond_f rfl ?_
        refine SatC.exit (SatE.then_exit (SatE.then_exit (SatE.blk_exit ?_)))
        refine SatE.met ((rows, tv, B, last)) ?_ (by repeat constructor)
        exact ⟨ha, hk, hl, hsl, hS.sel (by repeat constructor)⟩
    · clear hS
      rintro ⟨rows, tv, B, last⟩ w67 ⟨ha, hk, hl, hsl, hS⟩
      obtain ⟨rs, hrs⟩ := rows_b hk
      have hrl : rs.length = rows.length := by rw [← hrs, List.length_map]
      refine SatC.weak (e' := [(3, _), (4, _), (5, _)]) (by repeat constructor) ?_
      refine SatC.seq ?_
      refine SatC.region ?_
      refine SatL.pu (RunV.load1 hS rfl rfl (by repeat constructor) rfl) rfl ?_
      refine SatL.op rfl (OpW.enter rfl rfl rfl (rfl) (list_any hsl (by omega) (hS.ownT (A := (b, C 58 (tc 64 tv last)) :: B) (by repeat constructor)) (by decide)) ?_)
      rintro r68 w68 ⟨WB, hsw, h⟩
      replace hS := hS.call0 h
      obtain ⟨cw, hvw⟩ := hsw.slv
      rw [List.length_map] at hvw
      refine SatL.op rfl (OpW.alloc hS rfl rfl (by repeat constructor) ?_)
      clear hS
      intro b7 w69 _ hS
      refine SatL.op rfl (OpW.storeSv hS rfl rfl hsw (by repeat constructor) (by repeat constructor) rfl ?_)
      clear hS
      intro w70 hS
      refine SatL.nil (SatE.thenC ?_)
      refine SatC.seq ?_
      refine SatC.region ?_
      refine SatL.pu (RunV.load1 hS rfl rfl (by repeat constructor) rfl) rfl ?_
      refine SatL.op rfl (OpW.enter rfl rfl rfl (rfl) (eachx_any hsl (by omega) (hS.ownT (A := (b, C 58 (tc 64 tv last)) :: B) (by repeat constructor)) (by decide)) ?_)
      rintro r71 w71 ⟨be, bi, ve, Be, rfl, hse, h⟩
      replace hS := hS.call0 h
      refine SatL.pu (RunV.assign rfl) rfl ?_
      refine SatL.nil (SatE.thenC ?_)
      refine SatC.seq ?_
      refine SatC.region ?_
      refine SatL.pu (RunV.load1 hS rfl rfl (by repeat constructor) rfl) rfl ?_
      first | refine SatL.pu (RunV.fieldAddrL rfl rfl rfl) rfl ?_ | refine SatL.pu (RunV.fieldAddr rfl rfl rfl) rfl ?_
      refine SatL.pu (RunV.load1 hS rfl rfl (by repeat constructor) rfl) rfl ?_
      first | refine SatL.pu (RunV.fieldAddrL rfl rfl rfl) rfl ?_ | refine SatL.pu (RunV.fieldAddr rfl rfl rfl) rfl ?_
      refine SatL.pu (RunV.load1 hS rfl rfl (by repeat constructor) rfl) rfl ?_
      first | refine SatL.pu (RunV.fieldAddrL rfl rfl rfl) rfl ?_ | refine SatL.pu (RunV.fieldAddr rfl rfl rfl) rfl ?_
      refine SatL.pu (RunV.load1 hS rfl rfl (by repeat constructor) rfl) rfl ?_
      refine SatL.op rfl (OpW.enter rfl rfl rfl (rfl) (put_e y0.2.1 y0.2.2.1 y0.2.2.2 hy0 ha hk hl hsl (hS.ownT (A := (b, C 58 (tc 64 tv last)) :: B) (by repeat constructor))) ?_)
      rintro r72 w72 ⟨rows3, v3, B3, last3, ha3, hk3, hl3, hs3, h⟩
      replace hS := hS.callT (A := (b, C 58 (tc 64 tv last)) :: B) (by repeat constructor) h
      refine SatL.nil (SatE.thenC ?_)
      refine SatC.seq ?_
      refine SatC.weak (e' := [(4, _), (5, _), (7, _), (8, _)]) (by repeat constructor) ?_
      refine SatC.region ?_
      refine SatL.op rfl (OpW.alloc hS rfl rfl (by repeat constructor) ?_)
      clear hS
      intro b9 w73 _ hS
      refine SatL.op rfl (OpW.store hS rfl rfl (by repeat constructor) (by repeat constructor) (by repeat constructor) rfl rfl ?_)
      clear hS
      intro w74 hS
      refine SatL.nil (SatE.thenC ?_)
      refine SatC.seq ?_
      refine SatC.seq ?_
      refine SatC.region ?_
      refine SatL.pu (RunV.move rfl) rfl ?_
      refine SatL.nil (SatE.thenC ?_)
      refine SatC.block ?_
      rw [← hrs] at hse
      have hRlt : ∀ c ∈ IO be bi ve Be, c.1 < w74.heap.size := fun c hc => (hS.sel (R := IO be bi ve Be) (by repeat constructor)).lt hc
      refine SatC.rangeOwnO (α := TrB) (G := Nat × List Tr × Value × List (Nat × Obj) × Int) (A := Unit) (M := rs.length) (Kp := StaysT 69 (IO be bi ve Be)) (fun pre g => PG rs pre g) (fun c pre g => PX rs c pre g) (fun g => LG b9 b7 b5 b4 b3 b be bi r68 ve WB Be y0 g) (fun x a => []) (fun x a => [(10, str x.1.k), (11, .int .i64 x.1.v)]) [(4, _), (5, _), (7, _), (9, _)] (0, rows3, v3, B3, last3) (by repeat constructor)
        (each_over hse (by omega) _ (hS.ownT (A := IO be bi ve Be) (by repeat constructor))) staysT_trans (fun W l o o' h1 h2 h3 h4 => staysT_putObj hRlt W l o o' h1 h2 h3 h4) (hS.sel (by repeat constructor)) ⟨rfl, Nat.zero_le _, ha3, hk3, hl3, hs3⟩ rfl rfl (fun _ => rfl) rfl
        (fun pre g h => .cell (.cell (.app h.2.2.2.2.2.low (.cell (.app hsw.low (.cell (.cell (.cell (.cell (.cell hse.low))))))))))
        (fun c pre g h => .cell (.cell (.app h.2.low (.cell (.app hsw.low (.cell (.cell (.cell (.cell (.cell hse.low))))))))))
        (fun _ _ c hc => by cases hc)
        (fun pre g pre' g' W h h' ho ho' => Among.cons (Among.cons (Among.app (Among.sl (by
          have := Own.val ho ho' (b := b) (List.mem_cons_of_mem _ List.mem_cons_self) (List.mem_cons_of_mem _ List.mem_cons_self)
          simp only [List.cons.injEq] at this
          exact this.2.1) h.2.2.2.2.2 h'.2.2.2.2.2) Among.refl)))
        (fun pre x a g W W' hp ho h => staysT_of ho h (NT.cell rfl (NT.cell rfl (NT.sl rfl hp.2.2.2.2.2 (NT.cell rfl (NT.sl rfl hsw (NT.cell rfl (NT.cell rfl (NT.cell rfl NT.self)))))))) (fun c hc => by simp only [List.nil_append]; exact lg_mem hc))
        (fun pre x a g g' W W' hp ho hp' h => staysT_of ho h (NT.cell rfl (NT.cell rfl (NT.sl rfl hp.2.2.2.2.2 (NT.cell rfl (NT.sl rfl hsw (NT.cell rfl (NT.cell rfl (NT.cell rfl NT.self)))))))) (fun c hc => lg_mem hc)) ?_ ?_ ?_ ?_
      · rintro l pre x ⟨n, rows4, v4, B4, last4⟩ W ⟨hn, hpl, ha4, hk4, hl4, hs4⟩ hown
        try simp only [List.cons_append, List.nil_append] at hown
        have hS := St.init hown
        refine SatF.weak (e' := [(4, _), (5, _), (7, _), (9, _), (55, _), (56, _)]) (by repeat constructor) ?_
        refine SatF.seq ?_
        refine SatF.region ?_
        refine SatG.pu (RunV.assign rfl) rfl rfl ?_
        refine SatG.nil (SatE.thenF ?_)
        refine SatF.region ?_
        refine SatG.pu (RunV.assign rfl) rfl rfl ?_
        refine SatG.nil ?_
        refine SatE.laid (()) (hS) (by repeat constructor)
      · rintro l pre x a ⟨n, rows4, v4, B4, last4⟩ W ⟨hn, hpl, ha4, hk4, hl4, hs4⟩ hown hlen
        try simp only [List.cons_append, List.nil_append] at hown
        have hS := St.init hown
        refine SatF.weak (e' := [(4, _), (5, _), (7, _), (9, _), (10, _), (11, _)]) (by repeat constructor) ?_
        refine SatF.block ?_
        refine SatF.seq ?_
        refine SatF.seq ?_
        obtain ⟨z, hz⟩ := get_some rows n (by omega)
        have hn' : n = pre.length := hn
        have hzx := fun hp => pre_key (x := x) hrs (by rw [← hn']; exact hz) hp
        refine SatF.region ?_
        refine SatG.pu (RunV.load1 hS rfl rfl (by repeat constructor) rfl) rfl rfl ?_
        refine SatG.pu (RunV.load1 hS rfl rfl (by repeat constructor) rfl) rfl rfl ?_
        refine SatG.pu (RunV.lenR hvw rfl rfl) rfl rfl ?_
        refine SatG.pu (RunV.geq rfl rfl) rfl rfl ?_
        refine SatG.pu (RunV.move rfl) rfl rfl ?_
        refine SatG.guard rfl rfl rfl (fun h2 => ?_) (fun h2 => ?_)
        · (try simp only [cx, ne_eq] at h2)
          try (exfalso; (first | omega | exact h2 trivial | contradiction); done)
          all_goals
          refine SatG.pu (RunV.load1 hS rfl rfl (by repeat constructor) rfl) rfl rfl ?_
          refine SatG.guard_y rfl rfl ?_
          refine SatG.pu (RunV.load1 hS rfl rfl (by repeat constructor) rfl) rfl rfl ?_
          refine SatG.guard_y rfl rfl ?_
          refine SatG.pu (RunV.indexR hvw rfl rfl rfl (by omega) (by omega) rfl) rfl rfl ?_
          refine SatG.guard_y rfl rfl ?_
          first | refine SatG.pu (RunV.fieldAddrL rfl rfl rfl) rfl rfl ?_ | refine SatG.pu (RunV.fieldAddr rfl rfl rfl) rfl rfl ?_
          refine SatG.guard_y rfl rfl ?_
          refine SatG.pu (RunV.loadR1g n 0 (hsw.rd hS (by repeat constructor)) rfl rfl (by omega) (map_get hz) rfl) rfl rfl ?_
          refine SatG.guard_y rfl rfl ?_
          refine SatG.pu (RunV.move rfl) rfl rfl ?_
          refine SatG.guard_y rfl rfl ?_
          refine SatG.pu (RunV.sneq rfl rfl) rfl rfl ?_
          refine SatG.pu (RunV.pick_f rfl rfl) rfl rfl ?_
          refine SatG.pu (RunV.move rfl) rfl rfl ?_
          refine SatG.guard rfl rfl rfl (fun h3 => ?_) (fun h3 => ?_)
          · (try simp only [cx, ne_eq] at h3)
            try (exfalso; (first | omega | exact h3 trivial | contradiction); done)
            all_goals
            refine SatG.pu (RunV.load1 hS rfl rfl (by repeat constructor) rfl) rfl rfl ?_
            refine SatG.guard_y rfl rfl ?_
            refine SatG.pu (RunV.load1 hS rfl rfl (by repeat constructor) rfl) rfl rfl ?_
            refine SatG.guard_y rfl rfl ?_
            refine SatG.pu (RunV.indexR hvw rfl rfl rfl (by omega) (by omega) rfl) rfl rfl ?_
            refine SatG.guard_y rfl rfl ?_
            first | refine SatG.pu (RunV.fieldAddrL rfl rfl rfl) rfl rfl ?_ | refine SatG.pu (RunV.fieldAddr rfl rfl rfl) rfl rfl ?_
            refine SatG.guard_y rfl rfl ?_
            refine SatG.pu (RunV.loadR1g n 1 (hsw.rd hS (by repeat constructor)) rfl rfl (by omega) (map_get hz) rfl) rfl rfl ?_
            refine SatG.guard_y rfl rfl ?_
            refine SatG.pu (RunV.move rfl) rfl rfl ?_
            refine SatG.guard_y rfl rfl ?_
            refine SatG.pu (RunV.neq rfl rfl) rfl rfl ?_
            refine SatG.pu (RunV.pick_f rfl rfl) rfl rfl ?_
            refine SatG.nil (SatE.thenF ?_)
            refine SatF.weak (e' := [(4, _), (5, _), (9, _), (10, _), (78, _)]) (by repeat constructor) ?_
            refine SatF.cond rfl (fun h4 => ?_) (fun h4 => ?_)
            · (try simp only [cx, ne_eq] at h4)
              try (exfalso; (first | omega | exact h4 trivial | contradiction); done)
              all_goals
              refine SatF.seq ?_
              refine SatF.region ?_
              refine SatG.op rfl rfl (OpW.store hS rfl rfl (by repeat constructor) (by repeat constructor) (by repeat constructor) rfl rfl ?_)
              clear hS
              intro w75 hS
              refine SatG.nil (SatE.thenF ?_)
              refine SatF.ret (SatE.then_ret (SatE.blk_ret ?_))
              refine SatE.roundRet ((n, rows4, v4, B4, last4)) ?_ (hS.sel (by repeat constructor))
              exact ⟨fun hp => by have := hzx hp; subst this; simp_all, hs4⟩
            · (try simp only [cx, ne_eq] at h4)
              try (exfalso; (first | omega | exact h4 trivial | contradiction); done)
              all_goals
              refine SatF.skip (SatE.thenF ?_)
              refine SatF.seq ?_
              refine SatF.region ?_
              refine SatG.pu (RunV.load1 hS rfl rfl (by repeat constructor) rfl) rfl rfl ?_
              refine SatG.pu (RunV.move rfl) rfl rfl ?_
              refine SatG.op rfl rfl (OpW.enter rfl rfl rfl (rfl) (drop_e x.1.k 1 ha4 hk4 hl4 hs4 (hS.ownT (A := (b, C 58 (tc 64 v4 last4)) :: B4) (by repeat constructor))) ?_)
              rintro r75 w75 ⟨rows5, v5, B5, last5, ha5, hk5, hl5, hs5, h⟩
              replace hS := hS.callT (A := (b, C 58 (tc 64 v4 last4)) :: B4) (by repeat constructor) h
              refine SatG.nil (SatE.thenF ?_)
              refine SatF.region ?_
              refine SatG.pu (RunV.load1 hS rfl rfl (by repeat constructor) rfl) rfl rfl ?_
              refine SatG.pu (RunV.add rfl rfl (by first | exact wrapI64 (by omega) | rfl)) rfl rfl ?_
              refine SatG.op rfl rfl (OpW.store hS rfl rfl (by repeat constructor) (by repeat constructor) (by repeat constructor) rfl rfl ?_)
              clear hS
              intro w76 hS
              refine SatG.nil (SatE.blk_normal ?_)
              refine SatE.round ((n + 1, rows5, v5, B5, last5)) ?_ (hS.sel (by repeat constructor))
              exact ⟨by show n + 1 = (pre ++ [x]).length; rw [List.length_append, hn']; rfl, by rw [List.length_append, List.length_singleton]; omega, ha5, hk5, hl5, hs5⟩
          · (try simp only [cx, ne_eq] at h3)
            try (exfalso; (first | omega | exact h3 trivial | contradiction); done)
            all_goals
            refine SatG.guard_n rfl rfl rfl rfl ?_
            refine SatG.guard_n rfl rfl rfl rfl ?_
            refine SatG.guard_n rfl rfl rfl rfl ?_
            refine SatG.guard_n rfl rfl rfl rfl ?_
            refine SatG.guard_n rfl rfl rfl rfl ?_
            refine SatG.guard_n rfl rfl rfl rfl ?_
            refine SatG.pu (RunV.pick_t rfl rfl) rfl rfl ?_
            refine SatG.nil (SatE.thenF ?_)
            refine SatF.weak (e' := [(4, _), (5, _), (9, _), (10, _), (78, _)]) (by repeat constructor) ?_
            refine SatF.cond_t rfl ?_
            refine SatF.seq ?_
            refine SatF.region ?_
            refine SatG.op rfl rfl (OpW.store hS rfl rfl (by repeat constructor) (by repeat constructor) (by repeat constructor) rfl rfl ?_)
            clear hS
            intro w75 hS
            refine SatG.nil (SatE.thenF ?_)
            refine SatF.ret (SatE.then_ret (SatE.blk_ret ?_))
            refine SatE.roundRet ((n, rows4, v4, B4, last4)) ?_ (hS.sel (by repeat constructor))
            exact ⟨fun hp => by have := hzx hp; subst this; simp_all, hs4⟩
        · (try simp only [cx, ne_eq] at h2)
          try (exfalso; (first | omega | exact h2 trivial | contradiction); done)
          all_goals
          refine SatG.guard_n rfl rfl rfl rfl ?_
          refine SatG.guard_n rfl rfl rfl rfl ?_
          refine SatG.guard_n rfl rfl rfl rfl ?_
          refine SatG.guard_n rfl rfl rfl rfl ?_
          refine SatG.guard_n rfl rfl rfl rfl ?_
          refine SatG.guard_n rfl rfl rfl rfl ?_
          refine SatG.pu (RunV.pick_t rfl rfl) rfl rfl ?_
          refine SatG.pu (RunV.move rfl) rfl rfl ?_
          refine SatG.guard_n rfl rfl rfl rfl ?_
          refine SatG.guard_n rfl rfl rfl rfl ?_
          refine SatG.guard_n rfl rfl rfl rfl ?_
          refine SatG.guard_n rfl rfl rfl rfl ?_
          refine SatG.guard_n rfl rfl rfl rfl ?_
          refine SatG.guard_n rfl rfl rfl rfl ?_
          refine SatG.guard_n rfl rfl rfl rfl ?_
          refine SatG.pu (RunV.pick_t rfl rfl) rfl rfl ?_
          refine SatG.nil (SatE.thenF ?_)
          refine SatF.weak (e' := [(4, _), (5, _), (9, _), (10, _), (78, _)]) (by repeat constructor) ?_
          refine SatF.cond_t rfl ?_
          refine SatF.seq ?_
          refine SatF.region ?_
          refine SatG.op rfl rfl (OpW.store hS rfl rfl (by repeat constructor) (by repeat constructor) (by repeat constructor) rfl rfl ?_)
          clear hS
          intro w75 hS
          refine SatG.nil (SatE.thenF ?_)
          refine SatF.ret (SatE.then_ret (SatE.blk_ret ?_))
          refine SatE.roundRet ((n, rows4, v4, B4, last4)) ?_ (hS.sel (by repeat constructor))
          exact ⟨fun hp => by have := hzx hp; subst this; simp_all, hs4⟩
      · clear hS
        rintro D xs ⟨n, rows4, v4, B4, last4⟩ w75 hxs ⟨hn, hpl, ha4, hk4, hl4, hs4⟩ hS
        try simp only [List.cons_append, List.nil_append] at hS
        refine SatEM.blk_normal (SatEM.thenM ?_)
        refine SatM.seq ?_
        refine SatM.region ?_
        refine SatLM.pu (RunV.load1 hS rfl rfl (by repeat constructor) rfl) rfl ?_
        refine SatLM.pu (RunV.load1 hS rfl rfl (by repeat constructor) rfl) rfl ?_
        refine SatLM.pu (RunV.lenR hvw rfl rfl) rfl ?_
        refine SatLM.pu (RunV.eql rfl rfl) rfl ?_
        refine SatLM.op rfl (OpW.store hS rfl rfl (by repeat constructor) (by repeat constructor) (by repeat constructor) rfl rfl ?_)
        clear hS
        intro w76 hS
        refine SatLM.nil (SatEM.thenM ?_)
        refine SatM.ret ?_
        refine SatEM.retC hS rfl (by repeat constructor) (.cell1 rfl rfl (by repeat constructor) rfl) ?_
        clear hS
        intro w77 hS
        exact ⟨congrArg Value.bool (decide_eq_true (by subst hxs; omega)), hS.sel (by repeat constructor)⟩
      · intro D c pre g W hsp hx; exact absurd hsp hx.1
theorem tableEach_lifted (os : Os) (started : os.Started) (H : Type) (enc : TypeId × Value → H) :
    ReturnsInHanded {} Try.checked os 4 .any (Rows.tableEachSpec.pre6 enc Try.prog Try.f4 Rows.tableEachRow.domain false) (Rows.tableEachSpec.post enc Try.prog Try.f4 false true false false) := by
  refine law_returns (C := Try.checked) (b := 4) (by kernel_rfl) started (by kernel_rfl) Try.func4
    (ChangeSpec.witness6 (enc := enc) (C := Try.checked) false ⟨#[], #[.slice none 0 0, .agg #[.int .i64 0, .string ⟨#[]⟩, .int .i64 0, .int .u64 0]], []⟩ 8 (by kernel_rfl) (by kernel_rfl) (by kernel_rfl) (by kernel_rfl))
    rfl rfl (by kernel_rfl) (by kernel_rfl) (by kernel_rfl) (fun ds h => ?_) ?_
  · rw [Try.params4] at h
    match ds, h with
    | [_, _], _ => rfl
  intro W base args ds ps hval hA hsz
  rw [Try.params4] at hA hval
  obtain ⟨v0, v1, d0, d1, q0, q1, hargs, rfl, rfl, h0, h1⟩ := trodAll_two hA
  subst hargs
  obtain ⟨xs0, hr0, hx0⟩ := open_rows (l := [3, 9, 3, 25]) 6 Try.underlying22 (by kernel_rfl) (by kernel_rfl) (by decide) (hval 0 22 v0 rfl rfl) h0
  obtain ⟨ys0, rfl, hy0⟩ := rows_map (enc' := spr) (q := fun y => y.2.1.length ≤ 9223372036854775807) (fun r hr => by
    obtain ⟨u0, u1, u2, u3, rfl, l0, l1, l2, l3⟩ := allLeaf_list4 hr
    obtain ⟨n0, rfl, e0⟩ := leaf_int Try.underlying3 l0
    obtain ⟨n1, rfl, e1⟩ := leaf_string Try.underlying9 l1
    obtain ⟨n2, rfl, e2⟩ := leaf_int Try.underlying3 l2
    obtain ⟨n3, rfl, e3⟩ := leaf_int Try.underlying25 l3
    exact ⟨⟨n0, n1.data.toList, n2, n3⟩, rfl, str_max e1⟩) xs0 hx0
  obtain ⟨c1, rfl, l1⟩ := open_struct (l := [3, 9, 3, 25]) 6 Try.underlying27 (by kernel_rfl) (hval 1 27 v1 rfl rfl) h1
  obtain ⟨a1_0, a1_1, a1_2, a1_3, rfl, l1_0, l1_1, l1_2, l1_3⟩ := allLeaf_list4 l1
  obtain ⟨a1_0, rfl, ba1_0⟩ := leaf_int Try.underlying3 l1_0
  replace ba1_0 := bnd_i64 ba1_0
  obtain ⟨a1_1, rfl, ba1_1⟩ := leaf_string Try.underlying9 l1_1
  obtain ⟨a1_2, rfl, ba1_2⟩ := leaf_int Try.underlying3 l1_2
  replace ba1_2 := bnd_i64 ba1_2
  obtain ⟨a1_3, rfl, ba1_3⟩ := leaf_int Try.underlying25 l1_3
  replace ba1_3 := bnd_u64 ba1_3
  exact law_done (each_law _ ys0 ⟨a1_0, a1_1.data.toList, a1_2, a1_3⟩ W hr0 hy0 (str_max ba1_1))
theorem tableEach_holds : Rows.TableEachSaid :=
  OpenClaim.holds_of_wide 4 Try.f4 rfl rfl rfl rfl rfl rfl rfl ⟨rfl, rfl, rfl, rfl, rfl⟩ rfl rfl rfl rfl rfl (by kernel_rfl) Try.func4 (by kernel_rfl)
    (of_decide_eq_true (by kernel_rfl)) (by unfold Func.isWrapper; first | (rw [if_pos (by decide +kernel)]; kernel_rfl) | (rw [if_neg (by decide +kernel)]; exact ⟨rfl, rfl⟩))
    (fun os started H enc _ => tableEach_lifted os started H enc)
end Go.Proofs.Ytdoinfpkfbfjaaa
