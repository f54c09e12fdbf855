/- The library's sort, laid at this program. -/
import Derived.Test.YtfolbdkbpmgjgaaProg
import Derived.Shelf.Sort.Plain
import Derived.Shelf.Lays
import Derived.Shelf.Bodies
namespace Go.Proofs.Ytfolbdkbpmgjgaa
open Go.Shelf
def jfi : Ren where
  f x := match x with
    | 189 => 45
    | 125 => 60
    | 257 => 59
    | 128 => 75
    | 129 => 76
    | 294 => 67
    | 295 => 68
    | 296 => 69
    | 297 => 70
    | 298 => 71
    | 299 => 72
    | 216 => 62
    | 300 => 73
    | 301 => 74
    | 328 => 87
    | 329 => 88
    | 330 => 89
    | 331 => 90
    | 332 => 91
    | 215 => 85
    | 343 => 96
    | n => n
  t x := match x with
    | 28 => 26
    | 3 => 3
    | 46 => 91
    | 0 => 0
    | 51 => 102
    | 53 => 104
    | 4 => 4
    | 183 => 96
    | 182 => 95
    | 131 => 81
    | 5 => 5
    | 9 => 9
    | 218 => 110
    | 222 => 114
    | 228 => 118
    | 229 => 119
    | n => n
  g x := x
theorem zz6 : Lays.n189 Try.prog jfi :=
{ mixed := by kernel_rfl, f125 := Eq.trans Try.func60 (congrArg some (by kernel_rfl)),
  f128 := Eq.trans Try.func75 (congrArg some (by kernel_rfl)),
  f129 := Eq.trans Try.func76 (congrArg some (by kernel_rfl)),
  f189 := Eq.trans Try.func45 (congrArg some (by kernel_rfl)),
  f215 := Eq.trans Try.func85 (congrArg some (by kernel_rfl)),
  f216 := Eq.trans Try.func62 (congrArg some (by kernel_rfl)),
  f257 := Eq.trans Try.func59 (congrArg some (by kernel_rfl)),
  f294 := Eq.trans Try.func67 (congrArg some (by kernel_rfl)),
  f295 := Eq.trans Try.func68 (congrArg some (by kernel_rfl)),
  f296 := Eq.trans Try.func69 (congrArg some (by kernel_rfl)),
  f297 := Eq.trans Try.func70 (congrArg some (by kernel_rfl)),
  f298 := Eq.trans Try.func71 (congrArg some (by kernel_rfl)),
  f299 := Eq.trans Try.func72 (congrArg some (by kernel_rfl)),
  f300 := Eq.trans Try.func73 (congrArg some (by kernel_rfl)),
  f301 := Eq.trans Try.func74 (congrArg some (by kernel_rfl)),
  f328 := Eq.trans Try.func87 (congrArg some (by kernel_rfl)),
  f329 := Eq.trans Try.func88 (congrArg some (by kernel_rfl)),
  f330 := Eq.trans Try.func89 (congrArg some (by kernel_rfl)),
  f331 := Eq.trans Try.func90 (congrArg some (by kernel_rfl)),
  f332 := Eq.trans Try.func91 (congrArg some (by kernel_rfl)),
  f343 := Eq.trans Try.func96 (congrArg some (by kernel_rfl)),
  t0 := Try.underlying0, a0 := Try.isAgg0, z0 := Try.sizeOf0, v0 := Try.zeroValue0,
  t3 := Try.underlying3, a3 := Try.isAgg3, z3 := Try.sizeOf3, v3 := Try.zeroValue3,
  t4 := Try.underlying4, a4 := Try.isAgg4, z4 := Try.sizeOf4, v4 := Try.zeroValue4,
  t5 := Try.underlying5, a5 := Try.isAgg5, z5 := Try.sizeOf5, v5 := Try.zeroValue5,
  t9 := Try.underlying9, a9 := Try.isAgg9, z9 := Try.sizeOf9, v9 := Try.zeroValue9,
  t28 := Try.underlying26, a28 := Try.isAgg26, z28 := Try.sizeOf26, v28 := Try.zeroValue26,
  t46 := Try.underlying91, a46 := Try.isAgg91, z46 := Try.sizeOf91, v46 := Try.zeroValue91,
  t51 := Try.underlying102, a51 := Try.isAgg102, z51 := Try.sizeOf102, v51 := Try.zeroValue102,
  t53 := Try.underlying104, a53 := Try.isAgg104, z53 := Try.sizeOf104, v53 := Try.zeroValue104,
  t131 := Try.underlying81, a131 := Try.isAgg81, z131 := Try.sizeOf81, v131 := Try.zeroValue81,
  t182 := Try.underlying95, a182 := Try.isAgg95, z182 := Try.sizeOf95, v182 := Try.zeroValue95,
  t183 := Try.underlying96, a183 := Try.isAgg96, z183 := Try.sizeOf96, v183 := Try.zeroValue96,
  t218 := Try.underlying110, a218 := Try.isAgg110, z218 := Try.sizeOf110, v218 := Try.zeroValue110,
  t222 := Try.underlying114, a222 := Try.isAgg114, z222 := Try.sizeOf114, v222 := Try.zeroValue114,
  t228 := Try.underlying118, a228 := Try.isAgg118, z228 := Try.sizeOf118, v228 := Try.zeroValue118,
  t229 := Try.underlying119, a229 := Try.isAgg119, z229 := Try.sizeOf119, v229 := Try.zeroValue119 }
end Go.Proofs.Ytfolbdkbpmgjgaa
