/- The library's sort, laid at this program. -/
import Derived.Test.YtinefghmmbggeaaProg
import Derived.Shelf.Sort.Plain
import Derived.Shelf.Lays
import Derived.Shelf.Bodies
namespace Go.Proofs.Ytinefghmmbggeaa
open Go.Shelf
def sortRen : Ren where
  f x := match x with
    | 189 => 52
    | 125 => 60
    | 257 => 59
    | 128 => 73
    | 129 => 74
    | 294 => 64
    | 295 => 65
    | 296 => 66
    | 297 => 67
    | 298 => 68
    | 299 => 69
    | 216 => 70
    | 300 => 71
    | 301 => 72
    | 328 => 76
    | 329 => 77
    | 330 => 78
    | 331 => 79
    | 332 => 80
    | 215 => 81
    | 343 => 82
    | n => n
  t x := match x with
    | 28 => 27
    | 3 => 3
    | 46 => 88
    | 0 => 0
    | 51 => 100
    | 53 => 102
    | 4 => 4
    | 183 => 92
    | 182 => 91
    | 131 => 97
    | 5 => 5
    | 9 => 9
    | 218 => 104
    | 222 => 108
    | 228 => 110
    | 229 => 111
    | n => n
  g x := x
theorem sortLays : Lays.n189 Try.prog sortRen :=
{ mixed := by kernel_rfl, f125 := Eq.trans Try.func60 (congrArg some (by kernel_rfl)),
  f128 := Eq.trans Try.func73 (congrArg some (by kernel_rfl)),
  f129 := Eq.trans Try.func74 (congrArg some (by kernel_rfl)),
  f189 := Eq.trans Try.func52 (congrArg some (by kernel_rfl)),
  f215 := Eq.trans Try.func81 (congrArg some (by kernel_rfl)),
  f216 := Eq.trans Try.func70 (congrArg some (by kernel_rfl)),
  f257 := Eq.trans Try.func59 (congrArg some (by kernel_rfl)),
  f294 := Eq.trans Try.func64 (congrArg some (by kernel_rfl)),
  f295 := Eq.trans Try.func65 (congrArg some (by kernel_rfl)),
  f296 := Eq.trans Try.func66 (congrArg some (by kernel_rfl)),
  f297 := Eq.trans Try.func67 (congrArg some (by kernel_rfl)),
  f298 := Eq.trans Try.func68 (congrArg some (by kernel_rfl)),
  f299 := Eq.trans Try.func69 (congrArg some (by kernel_rfl)),
  f300 := Eq.trans Try.func71 (congrArg some (by kernel_rfl)),
  f301 := Eq.trans Try.func72 (congrArg some (by kernel_rfl)),
  f328 := Eq.trans Try.func76 (congrArg some (by kernel_rfl)),
  f329 := Eq.trans Try.func77 (congrArg some (by kernel_rfl)),
  f330 := Eq.trans Try.func78 (congrArg some (by kernel_rfl)),
  f331 := Eq.trans Try.func79 (congrArg some (by kernel_rfl)),
  f332 := Eq.trans Try.func80 (congrArg some (by kernel_rfl)),
  f343 := Eq.trans Try.func82 (congrArg some (by kernel_rfl)), t0 := Try.underlying0,
  a0 := Try.isAgg0, z0 := Try.sizeOf0, v0 := Try.zeroValue0, t3 := Try.underlying3, a3 := Try.isAgg3, z3 := Try.sizeOf3,
  v3 := Try.zeroValue3, t4 := Try.underlying4, a4 := Try.isAgg4, z4 := Try.sizeOf4, v4 := Try.zeroValue4,
  t5 := Try.underlying5, a5 := Try.isAgg5, z5 := Try.sizeOf5, v5 := Try.zeroValue5, t9 := Try.underlying9,
  a9 := Try.isAgg9, z9 := Try.sizeOf9, v9 := Try.zeroValue9, t28 := Try.underlying27, a28 := Try.isAgg27,
  z28 := Try.sizeOf27, v28 := Try.zeroValue27, t46 := Try.underlying88, a46 := Try.isAgg88, z46 := Try.sizeOf88,
  v46 := Try.zeroValue88, t51 := Try.underlying100, a51 := Try.isAgg100, z51 := Try.sizeOf100, v51 := Try.zeroValue100,
  t53 := Try.underlying102, a53 := Try.isAgg102, z53 := Try.sizeOf102, v53 := Try.zeroValue102,
  t131 := Try.underlying97, a131 := Try.isAgg97, z131 := Try.sizeOf97, v131 := Try.zeroValue97,
  t182 := Try.underlying91, a182 := Try.isAgg91, z182 := Try.sizeOf91, v182 := Try.zeroValue91,
  t183 := Try.underlying92, a183 := Try.isAgg92, z183 := Try.sizeOf92, v183 := Try.zeroValue92,
  t218 := Try.underlying104, a218 := Try.isAgg104, z218 := Try.sizeOf104, v218 := Try.zeroValue104,
  t222 := Try.underlying108, a222 := Try.isAgg108, z222 := Try.sizeOf108, v222 := Try.zeroValue108,
  t228 := Try.underlying110, a228 := Try.isAgg110, z228 := Try.sizeOf110, v228 := Try.zeroValue110,
  t229 := Try.underlying111, a229 := Try.isAgg111, z229 := Try.sizeOf111, v229 := Try.zeroValue111 }
end Go.Proofs.Ytinefghmmbggeaa
