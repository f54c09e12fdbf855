/- The library's sort, laid at this program. -/
import Derived.Test.YtapjobndmmkanaaProg
import Derived.Shelf.Sort.Plain
import Derived.Shelf.Lays
import Derived.Shelf.Bodies
namespace Go.Proofs.Ytapjobndmmkanaa
open Go.Shelf
def jp6 : Ren where
  f x := match x with
    | 189 => 145
    | 125 => 147
    | 257 => 146
    | 128 => 157
    | 129 => 158
    | 294 => 148
    | 295 => 149
    | 296 => 150
    | 297 => 151
    | 298 => 152
    | 299 => 153
    | 216 => 154
    | 300 => 155
    | 301 => 156
    | 328 => 159
    | 329 => 160
    | 330 => 161
    | 331 => 162
    | 332 => 163
    | 215 => 105
    | 343 => 164
    | n => n
  t x := match x with
    | 28 => 29
    | 3 => 3
    | 46 => 106
    | 0 => 0
    | 51 => 241
    | 53 => 243
    | 4 => 4
    | 183 => 235
    | 182 => 234
    | 131 => 229
    | 5 => 5
    | 9 => 9
    | 218 => 244
    | 222 => 248
    | 228 => 250
    | 229 => 251
    | n => n
  g x := x
theorem jj0 : Lays.n189 Try.prog jp6 :=
{ mixed := by kernel_rfl, f125 := Eq.trans Try.func147 (congrArg some (by kernel_rfl)),
  f128 := Eq.trans Try.func157 (congrArg some (by kernel_rfl)),
  f129 := Eq.trans Try.func158 (congrArg some (by kernel_rfl)),
  f189 := Eq.trans Try.func145 (congrArg some (by kernel_rfl)),
  f215 := Eq.trans Try.func105 (congrArg some (by kernel_rfl)),
  f216 := Eq.trans Try.func154 (congrArg some (by kernel_rfl)),
  f257 := Eq.trans Try.func146 (congrArg some (by kernel_rfl)),
  f294 := Eq.trans Try.func148 (congrArg some (by kernel_rfl)),
  f295 := Eq.trans Try.func149 (congrArg some (by kernel_rfl)),
  f296 := Eq.trans Try.func150 (congrArg some (by kernel_rfl)),
  f297 := Eq.trans Try.func151 (congrArg some (by kernel_rfl)),
  f298 := Eq.trans Try.func152 (congrArg some (by kernel_rfl)),
  f299 := Eq.trans Try.func153 (congrArg some (by kernel_rfl)),
  f300 := Eq.trans Try.func155 (congrArg some (by kernel_rfl)),
  f301 := Eq.trans Try.func156 (congrArg some (by kernel_rfl)),
  f328 := Eq.trans Try.func159 (congrArg some (by kernel_rfl)),
  f329 := Eq.trans Try.func160 (congrArg some (by kernel_rfl)),
  f330 := Eq.trans Try.func161 (congrArg some (by kernel_rfl)),
  f331 := Eq.trans Try.func162 (congrArg some (by kernel_rfl)),
  f332 := Eq.trans Try.func163 (congrArg some (by kernel_rfl)),
  f343 := Eq.trans Try.func164 (congrArg some (by kernel_rfl)),
  t0 := Try.underlying0, a0 := Try.isAgg0, z0 := Try.sizeOf0, v0 := Try.zeroValue0,
  t3 := Try.underlying3, a3 := Try.isAgg3, z3 := Try.sizeOf3, v3 := Try.zeroValue3,
  t4 := Try.underlying4, a4 := Try.isAgg4, z4 := Try.sizeOf4, v4 := Try.zeroValue4,
  t5 := Try.underlying5, a5 := Try.isAgg5, z5 := Try.sizeOf5, v5 := Try.zeroValue5,
  t9 := Try.underlying9, a9 := Try.isAgg9, z9 := Try.sizeOf9, v9 := Try.zeroValue9,
  t28 := Try.underlying29, a28 := Try.isAgg29, z28 := Try.sizeOf29, v28 := Try.zeroValue29,
  t46 := Try.underlying106, a46 := Try.isAgg106, z46 := Try.sizeOf106, v46 := Try.zeroValue106,
  t51 := Try.underlying241, a51 := Try.isAgg241, z51 := Try.sizeOf241, v51 := Try.zeroValue241,
  t53 := Try.underlying243, a53 := Try.isAgg243, z53 := Try.sizeOf243, v53 := Try.zeroValue243,
  t131 := Try.underlying229, a131 := Try.isAgg229, z131 := Try.sizeOf229, v131 := Try.zeroValue229,
  t182 := Try.underlying234, a182 := Try.isAgg234, z182 := Try.sizeOf234, v182 := Try.zeroValue234,
  t183 := Try.underlying235, a183 := Try.isAgg235, z183 := Try.sizeOf235, v183 := Try.zeroValue235,
  t218 := Try.underlying244, a218 := Try.isAgg244, z218 := Try.sizeOf244, v218 := Try.zeroValue244,
  t222 := Try.underlying248, a222 := Try.isAgg248, z222 := Try.sizeOf248, v222 := Try.zeroValue248,
  t228 := Try.underlying250, a228 := Try.isAgg250, z228 := Try.sizeOf250, v228 := Try.zeroValue250,
  t229 := Try.underlying251, a229 := Try.isAgg251, z229 := Try.sizeOf251, v229 := Try.zeroValue251 }
end Go.Proofs.Ytapjobndmmkanaa
