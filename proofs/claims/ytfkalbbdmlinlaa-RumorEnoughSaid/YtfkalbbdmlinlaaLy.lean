/- Library contracts at this program: the numbers and the bodies, field by field. -/
import Derived.Ground.GgsProg
import Derived.Shelf.SlSortFuncK.WholeK
import Derived.Test.YtfkalbbdmlinlaaProg
set_option maxRecDepth 100000
namespace Go.Proofs.Ytfkalbbdmlinlaa
open Go.Shelf
def sl6_ren : Ren :=
{
  f := fun x =>
    match x with
    | 6 => 18
    | 10 => 20
    | 11 => 21
    | 12 => 22
    | 13 => 23
    | 14 => 24
    | 24 => 34
    | 25 => 35
    | 26 => 36
    | 27 => 37
    | 28 => 38
    | 29 => 39
    | 30 => 40
    | 31 => 41
    | 32 => 42
    | 33 => 43
    | 34 => 44
    | 35 => 45
    | 36 => 46
    | 37 => 47
    | 38 => 48
    | 39 => 49
    | n => n,
  t := fun x =>
    match x with
    | 20 => 20
    | 26 => 56
    | 35 => 61
    | 0 => 0
    | 37 => 63
    | 3 => 3
    | 41 => 57
    | 44 => 69
    | 49 => 27
    | 51 => 75
    | 4 => 4
    | 54 => 78
    | 53 => 77
    | 58 => 82
    | 5 => 5
    | 9 => 9
    | 60 => 84
    | 64 => 88
    | 66 => 90
    | 67 => 91
    | 17 => 17
    | 32 => 58
    | 33 => 59
    | 82 => 106
    | 12 => 12
    | 75 => 99
    | 76 => 100
    | 77 => 101
    | 78 => 102
    | 79 => 103
    | 80 => 104
    | n => n,
  g := fun x =>
    have n := x;
    n }
theorem sl6 : LaysGg.n6 Try.prog sl6_ren :=
{ mixed := (by kernel_rfl), f6 := Eq.trans Try.func18 (congrArg some (Eq.refl (BodyGg.n6 sl6_ren))),
  f10 := Eq.trans Try.func20 (congrArg some (Eq.refl (BodyGg.n10 sl6_ren))),
  f11 := Eq.trans Try.func21 (congrArg some (Eq.refl (BodyGg.n11 sl6_ren))),
  f12 := Eq.trans Try.func22 (congrArg some (Eq.refl (BodyGg.n12 sl6_ren))),
  f13 := Eq.trans Try.func23 (congrArg some (Eq.refl (BodyGg.n13 sl6_ren))),
  f14 := Eq.trans Try.func24 (congrArg some (Eq.refl (BodyGg.n14 sl6_ren))),
  f24 := Eq.trans Try.func34 (congrArg some (Eq.refl (BodyGg.n24 sl6_ren))),
  f25 := Eq.trans Try.func35 (congrArg some (Eq.refl (BodyGg.n25 sl6_ren))),
  f26 := Eq.trans Try.func36 (congrArg some (Eq.refl (BodyGg.n26 sl6_ren))),
  f27 := Eq.trans Try.func37 (congrArg some (Eq.refl (BodyGg.n27 sl6_ren))),
  f28 := Eq.trans Try.func38 (congrArg some (Eq.refl (BodyGg.n28 sl6_ren))),
  f29 := Eq.trans Try.func39 (congrArg some (Eq.refl (BodyGg.n29 sl6_ren))),
  f30 := Eq.trans Try.func40 (congrArg some (Eq.refl (BodyGg.n30 sl6_ren))),
  f31 := Eq.trans Try.func41 (congrArg some (Eq.refl (BodyGg.n31 sl6_ren))),
  f32 := Eq.trans Try.func42 (congrArg some (Eq.refl (BodyGg.n32 sl6_ren))),
  f33 := Eq.trans Try.func43 (congrArg some (Eq.refl (BodyGg.n33 sl6_ren))),
  f34 := Eq.trans Try.func44 (congrArg some (Eq.refl (BodyGg.n34 sl6_ren))),
  f35 := Eq.trans Try.func45 (congrArg some (Eq.refl (BodyGg.n35 sl6_ren))),
  f36 := Eq.trans Try.func46 (congrArg some (Eq.refl (BodyGg.n36 sl6_ren))),
  f37 := Eq.trans Try.func47 (congrArg some (Eq.refl (BodyGg.n37 sl6_ren))),
  f38 := Eq.trans Try.func48 (congrArg some (Eq.refl (BodyGg.n38 sl6_ren))),
  f39 := Eq.trans Try.func49 (congrArg some (Eq.refl (BodyGg.n39 sl6_ren))), t0 := Try.underlying0, a0 := Try.isAgg0,
  z0 := Try.sizeOf0, v0 := Try.zeroValue0, i0 := Eq.refl (some (some (Value.tuple #[]), 1, 0)), t3 := Try.underlying3,
  a3 := Try.isAgg3, z3 := Try.sizeOf3, v3 := Try.zeroValue3,
  i3 := Eq.refl (some (some (Value.int IntKind.i64 0), 1, 8)), t4 := Try.underlying4, a4 := Try.isAgg4,
  z4 := Try.sizeOf4, v4 := Try.zeroValue4, i4 := Eq.refl (some (some (Value.bool false), 1, 1)), t5 := Try.underlying5,
  a5 := Try.isAgg5, z5 := Try.sizeOf5, v5 := Try.zeroValue5, i5 := Eq.refl (some (some (Value.int IntKind.u8 0), 1, 1)),
  t9 := Try.underlying9, a9 := Try.isAgg9, z9 := Try.sizeOf9, v9 := Try.zeroValue9,
  i9 := Eq.refl (some (some (Value.string { data := #[] }), 1, 16)), t12 := Try.underlying12, a12 := Try.isAgg12,
  z12 := Try.sizeOf12, v12 := Try.zeroValue12, i12 := Eq.refl (some (some (Value.int IntKind.u64 0), 1, 8)),
  t17 := Try.underlying17, a17 := Try.isAgg17, z17 := Try.sizeOf17, v17 := Try.zeroValue17,
  i17 := Eq.refl (some (some (Value.pointer none), 1, 8)), t20 := Try.underlying20, a20 := Try.isAgg20,
  z20 := Try.sizeOf20, v20 := Try.zeroValue20, i20 := Eq.refl (some (some Value.nilIface, 1, 16)),
  t26 := Try.underlying56, a26 := Try.isAgg56, z26 := Try.sizeOf56, v26 := Try.zeroValue56,
  i26 := Eq.refl (some (some Value.nilFunc, 1, 8)), t32 := Try.underlying58, a32 := Try.isAgg58, z32 := Try.sizeOf58,
  v32 := Try.zeroValue58, i32 := Eq.refl (some (some (Value.pointer none), 1, 8)), t33 := Try.underlying59,
  a33 := Try.isAgg59, z33 := Try.sizeOf59, v33 := Try.zeroValue59,
  i33 := Eq.refl (some (some (Value.int IntKind.u64 0), 1, 8)), t35 := Try.underlying61, a35 := Try.isAgg61,
  z35 := Try.sizeOf61, v35 := Try.zeroValue61,
  i35 := Eq.refl (some (some (Value.agg #[Value.pointer none, Value.pointer none, Value.int IntKind.u64 0]), 3, 24)),
  t37 := Try.underlying63, a37 := Try.isAgg63, z37 := Try.sizeOf63, v37 := Try.zeroValue63,
  i37 := Eq.refl (some (some Value.nilFunc, 1, 8)), t41 := Try.underlying57, a41 := Try.isAgg57, z41 := Try.sizeOf57,
  v41 := Try.zeroValue57, i41 := Eq.refl (some (some (Value.int IntKind.u64 0), 1, 8)), t44 := Try.underlying69,
  a44 := Try.isAgg69, z44 := Try.sizeOf69, v44 := Try.zeroValue69,
  i44 := Eq.refl (some (some (Value.agg #[Value.nilFunc, Value.nilFunc]), 2, 16)), t49 := Try.underlying27,
  a49 := Try.isAgg27, z49 := Try.sizeOf27, v49 := Try.zeroValue27,
  i49 := Eq.refl (some (some (Value.int IntKind.u32 0), 1, 4)), t51 := Try.underlying75, a51 := Try.isAgg75,
  z51 := Try.sizeOf75, v51 := Try.zeroValue75, i51 := Eq.refl (some (some (Value.int IntKind.u64 0), 1, 8)),
  t53 := Try.underlying77, a53 := Try.isAgg77, z53 := Try.sizeOf77, v53 := Try.zeroValue77,
  i53 := Eq.refl (some (some (Value.int IntKind.i64 0), 1, 8)), t54 := Try.underlying78, a54 := Try.isAgg78,
  z54 := Try.sizeOf78, v54 := Try.zeroValue78,
  i54 := Eq.refl (some (some (Value.tuple #[Value.int IntKind.i64 0, Value.int IntKind.i64 0]), 1, 0)),
  t58 := Try.underlying82, a58 := Try.isAgg82, z58 := Try.sizeOf82, v58 := Try.zeroValue82,
  i58 := Eq.refl (some (some (Value.tuple #[Value.int IntKind.i64 0, Value.bool false]), 1, 0)),
  t60 := Try.underlying84, a60 := Try.isAgg84, z60 := Try.sizeOf84, v60 := Try.zeroValue84,
  i60 := Eq.refl (some (some (Value.int IntKind.u64 0), 1, 8)), t64 := Try.underlying88, a64 := Try.isAgg88,
  z64 := Try.sizeOf88, v64 := Try.zeroValue88, i64 := Eq.refl (some (some (Value.pointer none), 1, 8)),
  t66 := Try.underlying90, a66 := Try.isAgg90, z66 := Try.sizeOf90, v66 := Try.zeroValue90,
  i66 := Eq.refl (some (some (Value.pointer none), 1, 8)), t67 := Try.underlying91, a67 := Try.isAgg91,
  z67 := Try.sizeOf91, v67 := Try.zeroValue91,
  i67 := Eq.refl (some (some (Value.tuple #[Value.int IntKind.i64 0, Value.int IntKind.i64 0]), 1, 0)),
  t75 := Try.underlying99, a75 := Try.isAgg99, z75 := Try.sizeOf99, v75 := Try.zeroValue99,
  i75 := Eq.refl (some (some (Value.int IntKind.u8 0), 1, 1)), t76 := Try.underlying100, a76 := Try.isAgg100,
  z76 := Try.sizeOf100, v76 := Try.zeroValue100, i76 := Eq.refl (some (some (Value.int IntKind.u8 0), 1, 1)),
  t77 := Try.underlying101, a77 := Try.isAgg101, z77 := Try.sizeOf101, v77 := Try.zeroValue101,
  i77 := Eq.refl (some (some Value.nilFunc, 1, 8)), t78 := Try.underlying102, a78 := Try.isAgg102, z78 := Try.sizeOf102,
  v78 := Try.zeroValue102, i78 := Eq.refl (some (some (Value.pointer none), 1, 8)), t79 := Try.underlying103,
  a79 := Try.isAgg103, z79 := Try.sizeOf103, v79 := Try.zeroValue103,
  i79 := Eq.refl (some (some (Value.int IntKind.i32 0), 1, 4)), t80 := Try.underlying104, a80 := Try.isAgg104,
  z80 := Try.sizeOf104, v80 := Try.zeroValue104, i80 := Eq.refl (some (some (Value.int IntKind.i32 0), 1, 4)),
  t82 := Try.underlying106, a82 := Try.isAgg106, z82 := Try.sizeOf106, v82 := Try.zeroValue106,
  i82 :=
    Eq.refl
      (some
        (some
            (Value.agg
              #[Value.int IntKind.u64 0, Value.int IntKind.u64 0, Value.int IntKind.u32 0, Value.int IntKind.u8 0,
                Value.int IntKind.u8 0, Value.int IntKind.u8 0, Value.int IntKind.u8 0, Value.nilFunc,
                Value.pointer none, Value.int IntKind.i32 0, Value.int IntKind.i32 0]),
          11, 48)) }
end Go.Proofs.Ytfkalbbdmlinlaa
