/- Library contracts at this program: the numbers and the bodies, field by field. -/
import Derived.Shelf.Sort.Plain
import Derived.Shelf.Slices.In.SortNone2
import Derived.Test.YtbnkcagcfbpiiaaProg
set_option maxRecDepth 100000
namespace Go.Proofs.Ytbnkcagcfbpiiaa
open Go.Shelf
def lays192_ren : Ren :=
{
  f := fun x =>
    match x with
    | 192 => 65
    | 190 => 78
    | 125 => 82
    | 258 => 81
    | 128 => 92
    | 129 => 93
    | 302 => 83
    | 303 => 84
    | 304 => 85
    | 305 => 86
    | 306 => 87
    | 307 => 88
    | 308 => 89
    | 309 => 90
    | 310 => 91
    | 333 => 94
    | 329 => 95
    | 330 => 96
    | 334 => 97
    | 335 => 98
    | 336 => 99
    | 344 => 100
    | n => n,
  t := fun x =>
    match x with
    | 31 => 27
    | 0 => 0
    | 9 => 9
    | 3 => 3
    | 46 => 115
    | 51 => 127
    | 53 => 28
    | 4 => 4
    | 183 => 119
    | 182 => 118
    | 131 => 124
    | 5 => 5
    | 218 => 129
    | 222 => 133
    | 228 => 135
    | 229 => 136
    | n => n,
  g := fun x =>
    have n := x;
    n }
theorem lays192 : Lays.n192 Try.prog lays192_ren :=
{ mixed := (by kernel_rfl), f125 := Try.func82.trans (congrArg some (by kernel_rfl)),
  f128 := Try.func92.trans (congrArg some (by kernel_rfl)),
  f129 := Try.func93.trans (congrArg some (by kernel_rfl)),
  f190 := Try.func78.trans (congrArg some (by kernel_rfl)),
  f192 := Try.func65.trans (congrArg some (by kernel_rfl)),
  f258 := Try.func81.trans (congrArg some (by kernel_rfl)),
  f302 := Try.func83.trans (congrArg some (by kernel_rfl)),
  f303 := Try.func84.trans (congrArg some (by kernel_rfl)),
  f304 := Try.func85.trans (congrArg some (by kernel_rfl)),
  f305 := Try.func86.trans (congrArg some (by kernel_rfl)),
  f306 := Try.func87.trans (congrArg some (by kernel_rfl)),
  f307 := Try.func88.trans (congrArg some (by kernel_rfl)),
  f308 := Try.func89.trans (congrArg some (by kernel_rfl)),
  f309 := Try.func90.trans (congrArg some (by kernel_rfl)),
  f310 := Try.func91.trans (congrArg some (by kernel_rfl)),
  f329 := Try.func95.trans (congrArg some (by kernel_rfl)),
  f330 := Try.func96.trans (congrArg some (by kernel_rfl)),
  f333 := Try.func94.trans (congrArg some (by kernel_rfl)),
  f334 := Try.func97.trans (congrArg some (by kernel_rfl)),
  f335 := Try.func98.trans (congrArg some (by kernel_rfl)),
  f336 := Try.func99.trans (congrArg some (by kernel_rfl)),
  f344 := Try.func100.trans (congrArg some (by kernel_rfl)), t0 := Try.underlying0,
  a0 := Try.isAgg0, z0 := Try.sizeOf0, v0 := Try.zeroValue0, t3 := Try.underlying3, a3 := Try.isAgg3, z3 := Try.sizeOf3,
  v3 := Try.zeroValue3, t4 := Try.underlying4, a4 := Try.isAgg4, z4 := Try.sizeOf4, v4 := Try.zeroValue4,
  t5 := Try.underlying5, a5 := Try.isAgg5, z5 := Try.sizeOf5, v5 := Try.zeroValue5, t9 := Try.underlying9,
  a9 := Try.isAgg9, z9 := Try.sizeOf9, v9 := Try.zeroValue9, t31 := Try.underlying27, a31 := Try.isAgg27,
  z31 := Try.sizeOf27, v31 := Try.zeroValue27, t46 := Try.underlying115, a46 := Try.isAgg115, z46 := Try.sizeOf115,
  v46 := Try.zeroValue115, t51 := Try.underlying127, a51 := Try.isAgg127, z51 := Try.sizeOf127, v51 := Try.zeroValue127,
  t53 := Try.underlying28, a53 := Try.isAgg28, z53 := Try.sizeOf28, v53 := Try.zeroValue28, t131 := Try.underlying124,
  a131 := Try.isAgg124, z131 := Try.sizeOf124, v131 := Try.zeroValue124, t182 := Try.underlying118,
  a182 := Try.isAgg118, z182 := Try.sizeOf118, v182 := Try.zeroValue118, t183 := Try.underlying119,
  a183 := Try.isAgg119, z183 := Try.sizeOf119, v183 := Try.zeroValue119, t218 := Try.underlying129,
  a218 := Try.isAgg129, z218 := Try.sizeOf129, v218 := Try.zeroValue129, t222 := Try.underlying133,
  a222 := Try.isAgg133, z222 := Try.sizeOf133, v222 := Try.zeroValue133, t228 := Try.underlying135,
  a228 := Try.isAgg135, z228 := Try.sizeOf135, v228 := Try.zeroValue135, t229 := Try.underlying136,
  a229 := Try.isAgg136, z229 := Try.sizeOf136, v229 := Try.zeroValue136 }
end Go.Proofs.Ytbnkcagcfbpiiaa
