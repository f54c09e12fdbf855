/- The library's sort, laid at this program. -/
import Derived.Test.YtignimmnnccblaaProg
import Derived.Shelf.Sort.Plain
import Derived.Shelf.Lays
import Derived.Shelf.Bodies
namespace Go.Proofs.Ytignimmnnccblaa
open Go.Shelf
def jlc : Ren where
  f x := match x with
    | 189 => 76
    | 125 => 78
    | 257 => 77
    | 128 => 88
    | 129 => 89
    | 294 => 79
    | 295 => 80
    | 296 => 81
    | 297 => 82
    | 298 => 83
    | 299 => 84
    | 216 => 85
    | 300 => 86
    | 301 => 87
    | 328 => 90
    | 329 => 91
    | 330 => 92
    | 331 => 93
    | 332 => 94
    | 215 => 95
    | 343 => 96
    | n => n
  t x := match x with
    | 28 => 31
    | 3 => 3
    | 46 => 56
    | 0 => 0
    | 51 => 146
    | 53 => 148
    | 4 => 4
    | 183 => 140
    | 182 => 139
    | 131 => 100
    | 5 => 5
    | 9 => 9
    | 218 => 149
    | 222 => 153
    | 228 => 155
    | 229 => 156
    | n => n
  g x := x
theorem jgl : Lays.n189 Try.prog jlc :=
{ mixed := by kernel_rfl, f125 := Eq.trans Try.func78 (congrArg some (by kernel_rfl)),
  f128 := Eq.trans Try.func88 (congrArg some (by kernel_rfl)),
  f129 := Eq.trans Try.func89 (congrArg some (by kernel_rfl)),
  f189 := Eq.trans Try.func76 (congrArg some (by kernel_rfl)),
  f215 := Eq.trans Try.func95 (congrArg some (by kernel_rfl)),
  f216 := Eq.trans Try.func85 (congrArg some (by kernel_rfl)),
  f257 := Eq.trans Try.func77 (congrArg some (by kernel_rfl)),
  f294 := Eq.trans Try.func79 (congrArg some (by kernel_rfl)),
  f295 := Eq.trans Try.func80 (congrArg some (by kernel_rfl)),
  f296 := Eq.trans Try.func81 (congrArg some (by kernel_rfl)),
  f297 := Eq.trans Try.func82 (congrArg some (by kernel_rfl)),
  f298 := Eq.trans Try.func83 (congrArg some (by kernel_rfl)),
  f299 := Eq.trans Try.func84 (congrArg some (by kernel_rfl)),
  f300 := Eq.trans Try.func86 (congrArg some (by kernel_rfl)),
  f301 := Eq.trans Try.func87 (congrArg some (by kernel_rfl)),
  f328 := Eq.trans Try.func90 (congrArg some (by kernel_rfl)),
  f329 := Eq.trans Try.func91 (congrArg some (by kernel_rfl)),
  f330 := Eq.trans Try.func92 (congrArg some (by kernel_rfl)),
  f331 := Eq.trans Try.func93 (congrArg some (by kernel_rfl)),
  f332 := Eq.trans Try.func94 (congrArg some (by kernel_rfl)),
  f343 := Eq.trans Try.func96 (congrArg some (by kernel_rfl)),
  t0 := Try.underlying0, a0 := Try.isAgg0, z0 := Try.sizeOf0, v0 := Try.zeroValue0,
  t3 := Try.underlying3, a3 := Try.isAgg3, z3 := Try.sizeOf3, v3 := Try.zeroValue3,
  t4 := Try.underlying4, a4 := Try.isAgg4, z4 := Try.sizeOf4, v4 := Try.zeroValue4,
  t5 := Try.underlying5, a5 := Try.isAgg5, z5 := Try.sizeOf5, v5 := Try.zeroValue5,
  t9 := Try.underlying9, a9 := Try.isAgg9, z9 := Try.sizeOf9, v9 := Try.zeroValue9,
  t28 := Try.underlying31, a28 := Try.isAgg31, z28 := Try.sizeOf31, v28 := Try.zeroValue31,
  t46 := Try.underlying56, a46 := Try.isAgg56, z46 := Try.sizeOf56, v46 := Try.zeroValue56,
  t51 := Try.underlying146, a51 := Try.isAgg146, z51 := Try.sizeOf146, v51 := Try.zeroValue146,
  t53 := Try.underlying148, a53 := Try.isAgg148, z53 := Try.sizeOf148, v53 := Try.zeroValue148,
  t131 := Try.underlying100, a131 := Try.isAgg100, z131 := Try.sizeOf100, v131 := Try.zeroValue100,
  t182 := Try.underlying139, a182 := Try.isAgg139, z182 := Try.sizeOf139, v182 := Try.zeroValue139,
  t183 := Try.underlying140, a183 := Try.isAgg140, z183 := Try.sizeOf140, v183 := Try.zeroValue140,
  t218 := Try.underlying149, a218 := Try.isAgg149, z218 := Try.sizeOf149, v218 := Try.zeroValue149,
  t222 := Try.underlying153, a222 := Try.isAgg153, z222 := Try.sizeOf153, v222 := Try.zeroValue153,
  t228 := Try.underlying155, a228 := Try.isAgg155, z228 := Try.sizeOf155, v228 := Try.zeroValue155,
  t229 := Try.underlying156, a229 := Try.isAgg156, z229 := Try.sizeOf156, v229 := Try.zeroValue156 }
end Go.Proofs.Ytignimmnnccblaa
