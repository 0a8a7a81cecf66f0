/- Library contracts at this program: the numbers and the bodies, field by field. -/
import Derived.Ground.GgsProg
import Derived.Shelf.GgSortFunc.Slice
import Derived.Test.YtogohendjjgbiaaProg
set_option maxRecDepth 100000
namespace Go.Proofs.Ytogohendjjgbiaa
open Go.Shelf
def sl6_ren : Ren :=
{
  f := fun x =>
    match x with
    | 6 => 44
    | 10 => 60
    | 11 => 61
    | 12 => 62
    | 13 => 63
    | 14 => 64
    | 24 => 82
    | 25 => 83
    | 26 => 84
    | 27 => 85
    | 28 => 86
    | 29 => 87
    | 30 => 88
    | 31 => 89
    | 32 => 90
    | 33 => 91
    | 34 => 94
    | 35 => 95
    | 36 => 96
    | 37 => 97
    | 38 => 98
    | 39 => 99
    | n => n,
  t := fun x =>
    match x with
    | 20 => 20
    | 26 => 80
    | 35 => 98
    | 0 => 0
    | 37 => 100
    | 3 => 3
    | 41 => 104
    | 44 => 107
    | 49 => 120
    | 51 => 26
    | 4 => 4
    | 54 => 124
    | 53 => 123
    | 58 => 113
    | 5 => 5
    | 9 => 9
    | 60 => 131
    | 64 => 134
    | 66 => 136
    | 67 => 109
    | 17 => 17
    | 32 => 95
    | 33 => 96
    | 82 => 151
    | 12 => 12
    | 75 => 144
    | 76 => 145
    | 77 => 146
    | 78 => 147
    | 79 => 148
    | 80 => 149
    | n => n,
  g := fun x =>
    have n := x;
    n }
theorem sl6 : LaysGg.n6 Try.prog sl6_ren :=
{ mixed := (by kernel_rfl), f6 := Eq.trans Try.func44 (congrArg some (Eq.refl (BodyGg.n6 sl6_ren))),
  f10 := Eq.trans Try.func60 (congrArg some (Eq.refl (BodyGg.n10 sl6_ren))),
  f11 := Eq.trans Try.func61 (congrArg some (Eq.refl (BodyGg.n11 sl6_ren))),
  f12 := Eq.trans Try.func62 (congrArg some (Eq.refl (BodyGg.n12 sl6_ren))),
  f13 := Eq.trans Try.func63 (congrArg some (Eq.refl (BodyGg.n13 sl6_ren))),
  f14 := Eq.trans Try.func64 (congrArg some (Eq.refl (BodyGg.n14 sl6_ren))),
  f24 := Eq.trans Try.func82 (congrArg some (Eq.refl (BodyGg.n24 sl6_ren))),
  f25 := Eq.trans Try.func83 (congrArg some (Eq.refl (BodyGg.n25 sl6_ren))),
  f26 := Eq.trans Try.func84 (congrArg some (Eq.refl (BodyGg.n26 sl6_ren))),
  f27 := Eq.trans Try.func85 (congrArg some (Eq.refl (BodyGg.n27 sl6_ren))),
  f28 := Eq.trans Try.func86 (congrArg some (Eq.refl (BodyGg.n28 sl6_ren))),
  f29 := Eq.trans Try.func87 (congrArg some (Eq.refl (BodyGg.n29 sl6_ren))),
  f30 := Eq.trans Try.func88 (congrArg some (Eq.refl (BodyGg.n30 sl6_ren))),
  f31 := Eq.trans Try.func89 (congrArg some (Eq.refl (BodyGg.n31 sl6_ren))),
  f32 := Eq.trans Try.func90 (congrArg some (Eq.refl (BodyGg.n32 sl6_ren))),
  f33 := Eq.trans Try.func91 (congrArg some (Eq.refl (BodyGg.n33 sl6_ren))),
  f34 := Eq.trans Try.func94 (congrArg some (Eq.refl (BodyGg.n34 sl6_ren))),
  f35 := Eq.trans Try.func95 (congrArg some (Eq.refl (BodyGg.n35 sl6_ren))),
  f36 := Eq.trans Try.func96 (congrArg some (Eq.refl (BodyGg.n36 sl6_ren))),
  f37 := Eq.trans Try.func97 (congrArg some (Eq.refl (BodyGg.n37 sl6_ren))),
  f38 := Eq.trans Try.func98 (congrArg some (Eq.refl (BodyGg.n38 sl6_ren))),
  f39 := Eq.trans Try.func99 (congrArg some (Eq.refl (BodyGg.n39 sl6_ren))), t0 := Try.underlying0, a0 := Try.isAgg0,
  z0 := Try.sizeOf0, v0 := Try.zeroValue0, i0 := Eq.refl (some (some (Value.tuple #[]), 1, 0)), t3 := Try.underlying3,
  a3 := Try.isAgg3, z3 := Try.sizeOf3, v3 := Try.zeroValue3,
  i3 := Eq.refl (some (some (Value.int IntKind.i64 0), 1, 8)), t4 := Try.underlying4, a4 := Try.isAgg4,
  z4 := Try.sizeOf4, v4 := Try.zeroValue4, i4 := Eq.refl (some (some (Value.bool false), 1, 1)), t5 := Try.underlying5,
  a5 := Try.isAgg5, z5 := Try.sizeOf5, v5 := Try.zeroValue5, i5 := Eq.refl (some (some (Value.int IntKind.u8 0), 1, 1)),
  t9 := Try.underlying9, a9 := Try.isAgg9, z9 := Try.sizeOf9, v9 := Try.zeroValue9,
  i9 := Eq.refl (some (some (Value.string { data := #[] }), 1, 16)), t12 := Try.underlying12, a12 := Try.isAgg12,
  z12 := Try.sizeOf12, v12 := Try.zeroValue12, i12 := Eq.refl (some (some (Value.int IntKind.u64 0), 1, 8)),
  t17 := Try.underlying17, a17 := Try.isAgg17, z17 := Try.sizeOf17, v17 := Try.zeroValue17,
  i17 := Eq.refl (some (some (Value.pointer none), 1, 8)), t20 := Try.underlying20, a20 := Try.isAgg20,
  z20 := Try.sizeOf20, v20 := Try.zeroValue20, i20 := Eq.refl (some (some Value.nilIface, 1, 16)),
  t26 := Try.underlying80, a26 := Try.isAgg80, z26 := Try.sizeOf80, v26 := Try.zeroValue80,
  i26 := Eq.refl (some (some Value.nilFunc, 1, 8)), t32 := Try.underlying95, a32 := Try.isAgg95, z32 := Try.sizeOf95,
  v32 := Try.zeroValue95, i32 := Eq.refl (some (some (Value.pointer none), 1, 8)), t33 := Try.underlying96,
  a33 := Try.isAgg96, z33 := Try.sizeOf96, v33 := Try.zeroValue96,
  i33 := Eq.refl (some (some (Value.int IntKind.u64 0), 1, 8)), t35 := Try.underlying98, a35 := Try.isAgg98,
  z35 := Try.sizeOf98, v35 := Try.zeroValue98,
  i35 := Eq.refl (some (some (Value.agg #[Value.pointer none, Value.pointer none, Value.int IntKind.u64 0]), 3, 24)),
  t37 := Try.underlying100, a37 := Try.isAgg100, z37 := Try.sizeOf100, v37 := Try.zeroValue100,
  i37 := Eq.refl (some (some Value.nilFunc, 1, 8)), t41 := Try.underlying104, a41 := Try.isAgg104, z41 := Try.sizeOf104,
  v41 := Try.zeroValue104, i41 := Eq.refl (some (some (Value.int IntKind.u64 0), 1, 8)), t44 := Try.underlying107,
  a44 := Try.isAgg107, z44 := Try.sizeOf107, v44 := Try.zeroValue107,
  i44 := Eq.refl (some (some (Value.agg #[Value.nilFunc, Value.nilFunc]), 2, 16)), t49 := Try.underlying120,
  a49 := Try.isAgg120, z49 := Try.sizeOf120, v49 := Try.zeroValue120,
  i49 := Eq.refl (some (some (Value.int IntKind.u32 0), 1, 4)), t51 := Try.underlying26, a51 := Try.isAgg26,
  z51 := Try.sizeOf26, v51 := Try.zeroValue26, i51 := Eq.refl (some (some (Value.int IntKind.u64 0), 1, 8)),
  t53 := Try.underlying123, a53 := Try.isAgg123, z53 := Try.sizeOf123, v53 := Try.zeroValue123,
  i53 := Eq.refl (some (some (Value.int IntKind.i64 0), 1, 8)), t54 := Try.underlying124, a54 := Try.isAgg124,
  z54 := Try.sizeOf124, v54 := Try.zeroValue124,
  i54 := Eq.refl (some (some (Value.tuple #[Value.int IntKind.i64 0, Value.int IntKind.i64 0]), 1, 0)),
  t58 := Try.underlying113, a58 := Try.isAgg113, z58 := Try.sizeOf113, v58 := Try.zeroValue113,
  i58 := Eq.refl (some (some (Value.tuple #[Value.int IntKind.i64 0, Value.bool false]), 1, 0)),
  t60 := Try.underlying131, a60 := Try.isAgg131, z60 := Try.sizeOf131, v60 := Try.zeroValue131,
  i60 := Eq.refl (some (some (Value.int IntKind.u64 0), 1, 8)), t64 := Try.underlying134, a64 := Try.isAgg134,
  z64 := Try.sizeOf134, v64 := Try.zeroValue134, i64 := Eq.refl (some (some (Value.pointer none), 1, 8)),
  t66 := Try.underlying136, a66 := Try.isAgg136, z66 := Try.sizeOf136, v66 := Try.zeroValue136,
  i66 := Eq.refl (some (some (Value.pointer none), 1, 8)), t67 := Try.underlying109, a67 := Try.isAgg109,
  z67 := Try.sizeOf109, v67 := Try.zeroValue109,
  i67 := Eq.refl (some (some (Value.tuple #[Value.int IntKind.i64 0, Value.int IntKind.i64 0]), 1, 0)),
  t75 := Try.underlying144, a75 := Try.isAgg144, z75 := Try.sizeOf144, v75 := Try.zeroValue144,
  i75 := Eq.refl (some (some (Value.int IntKind.u8 0), 1, 1)), t76 := Try.underlying145, a76 := Try.isAgg145,
  z76 := Try.sizeOf145, v76 := Try.zeroValue145, i76 := Eq.refl (some (some (Value.int IntKind.u8 0), 1, 1)),
  t77 := Try.underlying146, a77 := Try.isAgg146, z77 := Try.sizeOf146, v77 := Try.zeroValue146,
  i77 := Eq.refl (some (some Value.nilFunc, 1, 8)), t78 := Try.underlying147, a78 := Try.isAgg147, z78 := Try.sizeOf147,
  v78 := Try.zeroValue147, i78 := Eq.refl (some (some (Value.pointer none), 1, 8)), t79 := Try.underlying148,
  a79 := Try.isAgg148, z79 := Try.sizeOf148, v79 := Try.zeroValue148,
  i79 := Eq.refl (some (some (Value.int IntKind.i32 0), 1, 4)), t80 := Try.underlying149, a80 := Try.isAgg149,
  z80 := Try.sizeOf149, v80 := Try.zeroValue149, i80 := Eq.refl (some (some (Value.int IntKind.i32 0), 1, 4)),
  t82 := Try.underlying151, a82 := Try.isAgg151, z82 := Try.sizeOf151, v82 := Try.zeroValue151,
  i82 :=
    Eq.refl
      (some
        (some
            (Value.agg
              #[Value.int IntKind.u64 0, Value.int IntKind.u64 0, Value.int IntKind.u32 0, Value.int IntKind.u8 0,
                Value.int IntKind.u8 0, Value.int IntKind.u8 0, Value.int IntKind.u8 0, Value.nilFunc,
                Value.pointer none, Value.int IntKind.i32 0, Value.int IntKind.i32 0]),
          11, 48)) }
end Go.Proofs.Ytogohendjjgbiaa
