/- Library contracts at this program: the numbers and the bodies, field by field. -/
import Derived.Shelf.Sort.Plain
import Derived.Shelf.Slices.In.SortNone2
import Derived.Test.YtkmgnplaokogbaaProg
set_option maxRecDepth 100000
open Go.Proofs
namespace Go.Proofs.Ytkmgnplaokogbaa
open Go.Shelf
def lays192_ren : Ren :=
{
  f := fun x =>
    match x with
    | 192 => 39
    | 190 => 46
    | 125 => 52
    | 258 => 51
    | 128 => 63
    | 129 => 64
    | 302 => 54
    | 303 => 55
    | 304 => 56
    | 305 => 57
    | 306 => 58
    | 307 => 59
    | 308 => 60
    | 309 => 61
    | 310 => 62
    | 333 => 69
    | 329 => 70
    | 330 => 71
    | 334 => 72
    | 335 => 73
    | 336 => 74
    | 344 => 77
    | n => n,
  t := fun x =>
    match x with
    | 31 => 25
    | 0 => 0
    | 9 => 9
    | 3 => 3
    | 46 => 49
    | 51 => 60
    | 53 => 62
    | 4 => 4
    | 183 => 53
    | 182 => 52
    | 131 => 57
    | 5 => 5
    | 218 => 65
    | 222 => 69
    | 228 => 73
    | 229 => 74
    | n => n,
  g := fun x =>
    have n := x;
    n }
theorem lays192 : Lays.n192 Try.prog lays192_ren :=
{ mixed := (by kernel_rfl), f125 := Try.func52.trans (congrArg some (by kernel_rfl)),
  f128 := Try.func63.trans (congrArg some (by kernel_rfl)),
  f129 := Try.func64.trans (congrArg some (by kernel_rfl)),
  f190 := Try.func46.trans (congrArg some (by kernel_rfl)),
  f192 := Try.func39.trans (congrArg some (by kernel_rfl)),
  f258 := Try.func51.trans (congrArg some (by kernel_rfl)),
  f302 := Try.func54.trans (congrArg some (by kernel_rfl)),
  f303 := Try.func55.trans (congrArg some (by kernel_rfl)),
  f304 := Try.func56.trans (congrArg some (by kernel_rfl)),
  f305 := Try.func57.trans (congrArg some (by kernel_rfl)),
  f306 := Try.func58.trans (congrArg some (by kernel_rfl)),
  f307 := Try.func59.trans (congrArg some (by kernel_rfl)),
  f308 := Try.func60.trans (congrArg some (by kernel_rfl)),
  f309 := Try.func61.trans (congrArg some (by kernel_rfl)),
  f310 := Try.func62.trans (congrArg some (by kernel_rfl)),
  f329 := Try.func70.trans (congrArg some (by kernel_rfl)),
  f330 := Try.func71.trans (congrArg some (by kernel_rfl)),
  f333 := Try.func69.trans (congrArg some (by kernel_rfl)),
  f334 := Try.func72.trans (congrArg some (by kernel_rfl)),
  f335 := Try.func73.trans (congrArg some (by kernel_rfl)),
  f336 := Try.func74.trans (congrArg some (by kernel_rfl)),
  f344 := Try.func77.trans (congrArg some (by kernel_rfl)), t0 := Try.underlying0,
  a0 := Try.isAgg0, z0 := Try.sizeOf0, v0 := Try.zeroValue0, t3 := Try.underlying3, a3 := Try.isAgg3, z3 := Try.sizeOf3,
  v3 := Try.zeroValue3, t4 := Try.underlying4, a4 := Try.isAgg4, z4 := Try.sizeOf4, v4 := Try.zeroValue4,
  t5 := Try.underlying5, a5 := Try.isAgg5, z5 := Try.sizeOf5, v5 := Try.zeroValue5, t9 := Try.underlying9,
  a9 := Try.isAgg9, z9 := Try.sizeOf9, v9 := Try.zeroValue9, t31 := Try.underlying25, a31 := Try.isAgg25,
  z31 := Try.sizeOf25, v31 := Try.zeroValue25, t46 := Try.underlying49, a46 := Try.isAgg49, z46 := Try.sizeOf49,
  v46 := Try.zeroValue49, t51 := Try.underlying60, a51 := Try.isAgg60, z51 := Try.sizeOf60, v51 := Try.zeroValue60,
  t53 := Try.underlying62, a53 := Try.isAgg62, z53 := Try.sizeOf62, v53 := Try.zeroValue62, t131 := Try.underlying57,
  a131 := Try.isAgg57, z131 := Try.sizeOf57, v131 := Try.zeroValue57, t182 := Try.underlying52, a182 := Try.isAgg52,
  z182 := Try.sizeOf52, v182 := Try.zeroValue52, t183 := Try.underlying53, a183 := Try.isAgg53, z183 := Try.sizeOf53,
  v183 := Try.zeroValue53, t218 := Try.underlying65, a218 := Try.isAgg65, z218 := Try.sizeOf65, v218 := Try.zeroValue65,
  t222 := Try.underlying69, a222 := Try.isAgg69, z222 := Try.sizeOf69, v222 := Try.zeroValue69,
  t228 := Try.underlying73, a228 := Try.isAgg73, z228 := Try.sizeOf73, v228 := Try.zeroValue73,
  t229 := Try.underlying74, a229 := Try.isAgg74, z229 := Try.sizeOf74, v229 := Try.zeroValue74 }
end Go.Proofs.Ytkmgnplaokogbaa
