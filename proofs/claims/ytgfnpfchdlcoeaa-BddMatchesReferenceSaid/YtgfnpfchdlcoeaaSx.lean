/- The library's sort, laid at this program. -/
import Derived.Test.YtgfnpfchdlcoeaaProg
import Derived.Shelf.Sort.Plain
import Derived.Shelf.Lays
import Derived.Shelf.Bodies
namespace Go.Proofs.Ytgfnpfchdlcoeaa
open Go.Shelf
def jlr : Ren where
 f x := match x with
  | 189 => 49
  | 125 => 69
  | 257 => 68
  | 128 => 93
  | 129 => 94
  | 294 => 84
  | 295 => 85
  | 296 => 86
  | 297 => 87
  | 298 => 88
  | 299 => 89
  | 216 => 90
  | 300 => 91
  | 301 => 92
  | 328 => 96
  | 329 => 97
  | 330 => 98
  | 331 => 99
  | 332 => 100
  | 215 => 101
  | 343 => 102
  | n => n
 t x := match x with
  | 28 => 29
  | 3 => 3
  | 46 => 78
  | 0 => 0
  | 51 => 151
  | 53 => 153
  | 4 => 4
  | 183 => 145
  | 182 => 144
  | 131 => 134
  | 5 => 5
  | 9 => 9
  | 218 => 156
  | 222 => 160
  | 228 => 162
  | 229 => 163
  | n => n
 g x := x
theorem jh4 : Lays.n189 Try.prog jlr :=
{ mixed := by kernel_rfl, f125 := Eq.trans Try.func69 (congrArg some (by kernel_rfl)),
  f128 := Eq.trans Try.func93 (congrArg some (by kernel_rfl)),
  f129 := Eq.trans Try.func94 (congrArg some (by kernel_rfl)),
  f189 := Eq.trans Try.func49 (congrArg some (by kernel_rfl)),
  f215 := Eq.trans Try.func101 (congrArg some (by kernel_rfl)),
  f216 := Eq.trans Try.func90 (congrArg some (by kernel_rfl)),
  f257 := Eq.trans Try.func68 (congrArg some (by kernel_rfl)),
  f294 := Eq.trans Try.func84 (congrArg some (by kernel_rfl)),
  f295 := Eq.trans Try.func85 (congrArg some (by kernel_rfl)),
  f296 := Eq.trans Try.func86 (congrArg some (by kernel_rfl)),
  f297 := Eq.trans Try.func87 (congrArg some (by kernel_rfl)),
  f298 := Eq.trans Try.func88 (congrArg some (by kernel_rfl)),
  f299 := Eq.trans Try.func89 (congrArg some (by kernel_rfl)),
  f300 := Eq.trans Try.func91 (congrArg some (by kernel_rfl)),
  f301 := Eq.trans Try.func92 (congrArg some (by kernel_rfl)),
  f328 := Eq.trans Try.func96 (congrArg some (by kernel_rfl)),
  f329 := Eq.trans Try.func97 (congrArg some (by kernel_rfl)),
  f330 := Eq.trans Try.func98 (congrArg some (by kernel_rfl)),
  f331 := Eq.trans Try.func99 (congrArg some (by kernel_rfl)),
  f332 := Eq.trans Try.func100 (congrArg some (by kernel_rfl)),
  f343 := Eq.trans Try.func102 (congrArg some (by kernel_rfl)),
  t0 := Try.underlying0, a0 := Try.isAgg0, z0 := Try.sizeOf0, v0 := Try.zeroValue0,
  t3 := Try.underlying3, a3 := Try.isAgg3, z3 := Try.sizeOf3, v3 := Try.zeroValue3,
  t4 := Try.underlying4, a4 := Try.isAgg4, z4 := Try.sizeOf4, v4 := Try.zeroValue4,
  t5 := Try.underlying5, a5 := Try.isAgg5, z5 := Try.sizeOf5, v5 := Try.zeroValue5,
  t9 := Try.underlying9, a9 := Try.isAgg9, z9 := Try.sizeOf9, v9 := Try.zeroValue9,
  t28 := Try.underlying29, a28 := Try.isAgg29, z28 := Try.sizeOf29, v28 := Try.zeroValue29,
  t46 := Try.underlying78, a46 := Try.isAgg78, z46 := Try.sizeOf78, v46 := Try.zeroValue78,
  t51 := Try.underlying151, a51 := Try.isAgg151, z51 := Try.sizeOf151, v51 := Try.zeroValue151,
  t53 := Try.underlying153, a53 := Try.isAgg153, z53 := Try.sizeOf153, v53 := Try.zeroValue153,
  t131 := Try.underlying134, a131 := Try.isAgg134, z131 := Try.sizeOf134, v131 := Try.zeroValue134,
  t182 := Try.underlying144, a182 := Try.isAgg144, z182 := Try.sizeOf144, v182 := Try.zeroValue144,
  t183 := Try.underlying145, a183 := Try.isAgg145, z183 := Try.sizeOf145, v183 := Try.zeroValue145,
  t218 := Try.underlying156, a218 := Try.isAgg156, z218 := Try.sizeOf156, v218 := Try.zeroValue156,
  t222 := Try.underlying160, a222 := Try.isAgg160, z222 := Try.sizeOf160, v222 := Try.zeroValue160,
  t228 := Try.underlying162, a228 := Try.isAgg162, z228 := Try.sizeOf162, v228 := Try.zeroValue162,
  t229 := Try.underlying163, a229 := Try.isAgg163, z229 := Try.sizeOf163, v229 := Try.zeroValue163 }
end Go.Proofs.Ytgfnpfchdlcoeaa
