/- Library contracts at this program: the numbers and the bodies, field by field. -/
import Derived.Shelf.Sort.Plain
import Derived.Shelf.Slices.In.SortNone2
import Derived.Test.YtabladeenemfoaaProg
set_option maxRecDepth 100000
namespace Go.Proofs.Ytabladeenemfoaa
open Go.Shelf
def lays191_ren : Ren :=
{
  f := fun x =>
    match x with
    | 191 => 25
    | 189 => 31
    | 125 => 34
    | 257 => 33
    | 128 => 44
    | 129 => 45
    | 294 => 35
    | 295 => 36
    | 296 => 37
    | 297 => 38
    | 298 => 39
    | 299 => 40
    | 216 => 41
    | 300 => 42
    | 301 => 43
    | 328 => 46
    | 329 => 47
    | 330 => 48
    | 331 => 49
    | 332 => 50
    | 215 => 51
    | 343 => 52
    | n => n,
  t := fun x =>
    match x with
    | 28 => 27
    | 0 => 0
    | 3 => 3
    | 46 => 69
    | 51 => 78
    | 53 => 65
    | 4 => 4
    | 183 => 72
    | 182 => 71
    | 131 => 50
    | 5 => 5
    | 9 => 9
    | 218 => 80
    | 222 => 84
    | 228 => 86
    | 229 => 87
    | n => n,
  g := fun x =>
    have n := x;
    n }
theorem lays191 : Lays.n191 Try.prog lays191_ren :=
{ mixed := (by kernel_rfl), f125 := Try.func34.trans (congrArg some (by kernel_rfl)),
  f128 := Try.func44.trans (congrArg some (by kernel_rfl)),
  f129 := Try.func45.trans (congrArg some (by kernel_rfl)),
  f189 := Try.func31.trans (congrArg some (by kernel_rfl)),
  f191 := Try.func25.trans (congrArg some (by kernel_rfl)),
  f215 := Try.func51.trans (congrArg some (by kernel_rfl)),
  f216 := Try.func41.trans (congrArg some (by kernel_rfl)),
  f257 := Try.func33.trans (congrArg some (by kernel_rfl)),
  f294 := Try.func35.trans (congrArg some (by kernel_rfl)),
  f295 := Try.func36.trans (congrArg some (by kernel_rfl)),
  f296 := Try.func37.trans (congrArg some (by kernel_rfl)),
  f297 := Try.func38.trans (congrArg some (by kernel_rfl)),
  f298 := Try.func39.trans (congrArg some (by kernel_rfl)),
  f299 := Try.func40.trans (congrArg some (by kernel_rfl)),
  f300 := Try.func42.trans (congrArg some (by kernel_rfl)),
  f301 := Try.func43.trans (congrArg some (by kernel_rfl)),
  f328 := Try.func46.trans (congrArg some (by kernel_rfl)),
  f329 := Try.func47.trans (congrArg some (by kernel_rfl)),
  f330 := Try.func48.trans (congrArg some (by kernel_rfl)),
  f331 := Try.func49.trans (congrArg some (by kernel_rfl)),
  f332 := Try.func50.trans (congrArg some (by kernel_rfl)),
  f343 := Try.func52.trans (congrArg some (by kernel_rfl)), t0 := Try.underlying0,
  a0 := Try.isAgg0, z0 := Try.sizeOf0, v0 := Try.zeroValue0, t3 := Try.underlying3, a3 := Try.isAgg3, z3 := Try.sizeOf3,
  v3 := Try.zeroValue3, t4 := Try.underlying4, a4 := Try.isAgg4, z4 := Try.sizeOf4, v4 := Try.zeroValue4,
  t5 := Try.underlying5, a5 := Try.isAgg5, z5 := Try.sizeOf5, v5 := Try.zeroValue5, t9 := Try.underlying9,
  a9 := Try.isAgg9, z9 := Try.sizeOf9, v9 := Try.zeroValue9, t28 := Try.underlying27, a28 := Try.isAgg27,
  z28 := Try.sizeOf27, v28 := Try.zeroValue27, t46 := Try.underlying69, a46 := Try.isAgg69, z46 := Try.sizeOf69,
  v46 := Try.zeroValue69, t51 := Try.underlying78, a51 := Try.isAgg78, z51 := Try.sizeOf78, v51 := Try.zeroValue78,
  t53 := Try.underlying65, a53 := Try.isAgg65, z53 := Try.sizeOf65, v53 := Try.zeroValue65, t131 := Try.underlying50,
  a131 := Try.isAgg50, z131 := Try.sizeOf50, v131 := Try.zeroValue50, t182 := Try.underlying71, a182 := Try.isAgg71,
  z182 := Try.sizeOf71, v182 := Try.zeroValue71, t183 := Try.underlying72, a183 := Try.isAgg72, z183 := Try.sizeOf72,
  v183 := Try.zeroValue72, t218 := Try.underlying80, a218 := Try.isAgg80, z218 := Try.sizeOf80, v218 := Try.zeroValue80,
  t222 := Try.underlying84, a222 := Try.isAgg84, z222 := Try.sizeOf84, v222 := Try.zeroValue84,
  t228 := Try.underlying86, a228 := Try.isAgg86, z228 := Try.sizeOf86, v228 := Try.zeroValue86,
  t229 := Try.underlying87, a229 := Try.isAgg87, z229 := Try.sizeOf87, v229 := Try.zeroValue87 }
end Go.Proofs.Ytabladeenemfoaa
