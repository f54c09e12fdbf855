/- The library's sort, laid at this program. -/
import Derived.Test.YtapjobndmmkanaaGreatProg
import Derived.Shelf.Sort.Plain
import Derived.Shelf.Lays
import Derived.Shelf.Bodies
namespace Go.Proofs.YtapjobndmmkanaaGreat
open Go.Proofs.Tryz
open Go.Shelf
def jr0 : Ren where
  f x := match x with
    | 189 => 203
    | 125 => 234
    | 257 => 233
    | 128 => 245
    | 129 => 246
    | 294 => 236
    | 295 => 237
    | 296 => 238
    | 297 => 239
    | 298 => 240
    | 299 => 241
    | 216 => 242
    | 300 => 243
    | 301 => 244
    | 328 => 247
    | 329 => 248
    | 330 => 249
    | 331 => 250
    | 332 => 251
    | 215 => 126
    | 343 => 252
    | n => n
  t x := match x with
    | 28 => 28
    | 3 => 3
    | 46 => 168
    | 0 => 0
    | 51 => 329
    | 53 => 331
    | 4 => 4
    | 183 => 323
    | 182 => 322
    | 131 => 263
    | 5 => 5
    | 9 => 9
    | 218 => 332
    | 222 => 336
    | 228 => 338
    | 229 => 178
    | n => n
  g x := x
theorem jlp : Lays.n189 prog jr0 :=
{ mixed := by kernel_rfl, f125 := Eq.trans func234 (congrArg some (by kernel_rfl)),
  f128 := Eq.trans func245 (congrArg some (by kernel_rfl)),
  f129 := Eq.trans func246 (congrArg some (by kernel_rfl)),
  f189 := Eq.trans func203 (congrArg some (by kernel_rfl)),
  f215 := Eq.trans func126 (congrArg some (by kernel_rfl)),
  f216 := Eq.trans func242 (congrArg some (by kernel_rfl)),
  f257 := Eq.trans func233 (congrArg some (by kernel_rfl)),
  f294 := Eq.trans func236 (congrArg some (by kernel_rfl)),
  f295 := Eq.trans func237 (congrArg some (by kernel_rfl)),
  f296 := Eq.trans func238 (congrArg some (by kernel_rfl)),
  f297 := Eq.trans func239 (congrArg some (by kernel_rfl)),
  f298 := Eq.trans func240 (congrArg some (by kernel_rfl)),
  f299 := Eq.trans func241 (congrArg some (by kernel_rfl)),
  f300 := Eq.trans func243 (congrArg some (by kernel_rfl)),
  f301 := Eq.trans func244 (congrArg some (by kernel_rfl)),
  f328 := Eq.trans func247 (congrArg some (by kernel_rfl)),
  f329 := Eq.trans func248 (congrArg some (by kernel_rfl)),
  f330 := Eq.trans func249 (congrArg some (by kernel_rfl)),
  f331 := Eq.trans func250 (congrArg some (by kernel_rfl)),
  f332 := Eq.trans func251 (congrArg some (by kernel_rfl)),
  f343 := Eq.trans func252 (congrArg some (by kernel_rfl)),
  t0 := underlying0, a0 := isAgg0, z0 := sizeOf0, v0 := zeroValue0,
  t3 := underlying3, a3 := isAgg3, z3 := sizeOf3, v3 := zeroValue3,
  t4 := underlying4, a4 := isAgg4, z4 := sizeOf4, v4 := zeroValue4,
  t5 := underlying5, a5 := isAgg5, z5 := sizeOf5, v5 := zeroValue5,
  t9 := underlying9, a9 := isAgg9, z9 := sizeOf9, v9 := zeroValue9,
  t28 := underlying28, a28 := isAgg28, z28 := sizeOf28, v28 := zeroValue28,
  t46 := underlying168, a46 := isAgg168, z46 := sizeOf168, v46 := zeroValue168,
  t51 := underlying329, a51 := isAgg329, z51 := sizeOf329, v51 := zeroValue329,
  t53 := underlying331, a53 := isAgg331, z53 := sizeOf331, v53 := zeroValue331,
  t131 := underlying263, a131 := isAgg263, z131 := sizeOf263, v131 := zeroValue263,
  t182 := underlying322, a182 := isAgg322, z182 := sizeOf322, v182 := zeroValue322,
  t183 := underlying323, a183 := isAgg323, z183 := sizeOf323, v183 := zeroValue323,
  t218 := underlying332, a218 := isAgg332, z218 := sizeOf332, v218 := zeroValue332,
  t222 := underlying336, a222 := isAgg336, z222 := sizeOf336, v222 := zeroValue336,
  t228 := underlying338, a228 := isAgg338, z228 := sizeOf338, v228 := zeroValue338,
  t229 := underlying178, a229 := isAgg178, z229 := sizeOf178, v229 := zeroValue178 }
end Go.Proofs.YtapjobndmmkanaaGreat
