/- Facts of types, and of the settings. -/
import Derived.Test.YtignimmnnccblaaAR
import Derived.Test.YtignimmnnccblaaProg
import Derived.DeepKeys4
set_option linter.unusedVariables false
set_option linter.unusedSimpArgs false
namespace Go.Proofs.Ytignimmnnccblaa
open Go Go.RowKit
theorem mixed : Try.prog.follows .mixedOrders = true := by kernel_rfl
theorem zl0 : szO Try.prog 0 = (some 1) := by kernel_rfl
theorem zl1 : agO Try.prog 0 = (some false) := by kernel_rfl
theorem zhw : szO Try.prog 1 = (some 1) := by kernel_rfl
theorem zhx : agO Try.prog 1 = (some false) := by kernel_rfl
theorem jer : szO Try.prog 2 = (some 1) := by kernel_rfl
theorem jes : agO Try.prog 2 = (some false) := by kernel_rfl
theorem ze4 : szO Try.prog 3 = (some 1) := by kernel_rfl
theorem ze5 : agO Try.prog 3 = (some false) := by kernel_rfl
theorem jrz : zcO Try.prog 3 = (some [(.val (.int .i64 0))]) := by kernel_rfl
theorem jr0 : zaO Try.prog 3 = (some [(.val (.int .i64 0))]) := by kernel_rfl
theorem ze7 : zjv Try.prog 3 = (some .i64) := by kernel_rfl
theorem znt : szO Try.prog 4 = (some 1) := by kernel_rfl
theorem znu : agO Try.prog 4 = (some false) := by kernel_rfl
theorem zs1 : zjt Try.prog 4 = true := by kernel_rfl
theorem jix : szO Try.prog 5 = (some 1) := by kernel_rfl
theorem jiy : agO Try.prog 5 = (some false) := by kernel_rfl
theorem jl7 : zjv Try.prog 5 = (some .u8) := by kernel_rfl
theorem jr1 : szO Try.prog 7 = (some 4) := by kernel_rfl
theorem jr2 : agO Try.prog 7 = (some true) := by kernel_rfl
theorem jfi : szO Try.prog 22 = (some 1) := by kernel_rfl
theorem jfj : agO Try.prog 22 = (some false) := by kernel_rfl
theorem jfk : elO Try.prog 22 = (some (none, (5, 1))) := by kernel_rfl
theorem jfl : mkO Try.prog 22 = (some (1, ([(.val (.int .u8 0))], 1))) := by kernel_rfl
theorem jfm : szO Try.prog 23 = (some 1) := by kernel_rfl
theorem jfn : agO Try.prog 23 = (some false) := by kernel_rfl
theorem jfo : elO Try.prog 23 = (some (none, (99, 5))) := by kernel_rfl
theorem jfp : mkO Try.prog 23 = (some (5, ([(.val (.int .u8 0)), (.val (.int .u8 0)), (.val (.int .u8 0)), (.val (.int .u8 0)), (.val (.int .u8 0))], 5))) := by kernel_rfl
theorem jfq : szO Try.prog 24 = (some 1) := by kernel_rfl
theorem jfr : agO Try.prog 24 = (some false) := by kernel_rfl
theorem jfs : elO Try.prog 24 = (some (none, (27, 4))) := by kernel_rfl
theorem jft : mkO Try.prog 24 = (some (4, ([(.val (.int .u8 0)), (.val (.int .u8 0)), (.val (.int .u8 0)), (.val (.int .u8 0))], 4))) := by kernel_rfl
theorem zyr : szO Try.prog 26 = (some 3) := by kernel_rfl
theorem zys : agO Try.prog 26 = (some true) := by kernel_rfl
theorem jo1 : zcO Try.prog 26 = (some [(.val (.slice none 0 0)), (.val (.slice none 0 0)), (.val (.slice none 0 0))]) := by kernel_rfl
theorem jo2 : zaO Try.prog 26 = (some [(.val (.slice none 0 0)), (.val (.slice none 0 0)), (.val (.slice none 0 0))]) := by kernel_rfl
theorem jo3 : zh3 Try.prog 26 = true := by kernel_rfl
theorem zp3 : foO Try.prog 26 0 = (some 0) := by kernel_rfl
theorem zp4 : ftO Try.prog 26 0 = (some (0, (1, false))) := by kernel_rfl
theorem jb9 : plO Try.prog 26 0 = (some (0, 1)) := by kernel_rfl
theorem zp5 : foO Try.prog 26 1 = (some 1) := by kernel_rfl
theorem zp6 : ftO Try.prog 26 1 = (some (1, (1, false))) := by kernel_rfl
theorem jca : plO Try.prog 26 1 = (some (1, 1)) := by kernel_rfl
theorem zp7 : foO Try.prog 26 2 = (some 2) := by kernel_rfl
theorem zp8 : ftO Try.prog 26 2 = (some (2, (1, false))) := by kernel_rfl
theorem jcb : plO Try.prog 26 2 = (some (2, 1)) := by kernel_rfl
theorem zyt : szO Try.prog 27 = (some 4) := by kernel_rfl
theorem zyu : agO Try.prog 27 = (some true) := by kernel_rfl
theorem zyv : elO Try.prog 27 = (some ((some 4), (5, 1))) := by kernel_rfl
theorem jo4 : zcO Try.prog 27 = (some [(.val (.int .u8 0)), (.val (.int .u8 0)), (.val (.int .u8 0)), (.val (.int .u8 0))]) := by kernel_rfl
theorem jo5 : zaO Try.prog 27 = (some [(.val (.int .u8 0)), (.val (.int .u8 0)), (.val (.int .u8 0)), (.val (.int .u8 0))]) := by kernel_rfl
theorem zfs : szO Try.prog 29 = (some 1) := by kernel_rfl
theorem zft : agO Try.prog 29 = (some false) := by kernel_rfl
theorem zfu : elO Try.prog 29 = (some (none, (70, 3))) := by kernel_rfl
theorem zfv : mkO Try.prog 29 = (some (3, ([(.val (.int .i64 0)), (.val (.int .i64 0)), (.val (.int .i64 0))], 24))) := by kernel_rfl
theorem zgz : szO Try.prog 30 = (some 1) := by kernel_rfl
theorem zg0 : agO Try.prog 30 = (some false) := by kernel_rfl
theorem zg1 : elO Try.prog 30 = (some (none, (72, 5))) := by kernel_rfl
theorem zg2 : mkO Try.prog 30 = (some (5, ([(.val (.int .i64 0)), (.val (.int .i64 0)), (.val (.int .i64 0)), (.val (.int .i64 0)), (.val (.int .i64 0))], 40))) := by kernel_rfl
theorem zdm : szO Try.prog 31 = (some 1) := by kernel_rfl
theorem zdn : agO Try.prog 31 = (some false) := by kernel_rfl
theorem zdo : elO Try.prog 31 = (some (none, (3, 1))) := by kernel_rfl
theorem zdv : mkO Try.prog 31 = (some (1, ([(.val (.int .i64 0))], 8))) := by kernel_rfl
theorem zd1 : szO Try.prog 33 = (some 4) := by kernel_rfl
theorem zd2 : agO Try.prog 33 = (some true) := by kernel_rfl
theorem zhs : zcO Try.prog 33 = (some [(.val (.slice none 0 0)), (.val (.slice none 0 0)), (.val (.slice none 0 0)), (.val (.slice none 0 0))]) := by kernel_rfl
theorem zht : zaO Try.prog 33 = (some [(.val (.slice none 0 0)), (.val (.slice none 0 0)), (.val (.slice none 0 0)), (.val (.slice none 0 0))]) := by kernel_rfl
theorem zr9 : zh3 Try.prog 33 = true := by kernel_rfl
theorem zda : foO Try.prog 33 0 = (some 0) := by kernel_rfl
theorem zdb : ftO Try.prog 33 0 = (some (0, (1, false))) := by kernel_rfl
theorem zib : plO Try.prog 33 0 = (some (0, 1)) := by kernel_rfl
theorem zdq : foO Try.prog 33 1 = (some 1) := by kernel_rfl
theorem zdr : ftO Try.prog 33 1 = (some (1, (1, false))) := by kernel_rfl
theorem zic : plO Try.prog 33 1 = (some (1, 1)) := by kernel_rfl
theorem zla : foO Try.prog 33 2 = (some 2) := by kernel_rfl
theorem zlb : ftO Try.prog 33 2 = (some (2, (1, false))) := by kernel_rfl
theorem zid : plO Try.prog 33 2 = (some (2, 1)) := by kernel_rfl
theorem zgi : foO Try.prog 33 3 = (some 3) := by kernel_rfl
theorem zgj : ftO Try.prog 33 3 = (some (3, (1, false))) := by kernel_rfl
theorem zie : plO Try.prog 33 3 = (some (3, 1)) := by kernel_rfl
theorem zfd : szO Try.prog 36 = (some 1) := by kernel_rfl
theorem zfe : agO Try.prog 36 = (some false) := by kernel_rfl
theorem zff : elO Try.prog 36 = (some (none, (50, 2))) := by kernel_rfl
theorem zfg : mkO Try.prog 36 = (some (2, ([(.val (.int .i64 0)), (.val (.int .i64 0))], 16))) := by kernel_rfl
theorem jfu : szO Try.prog 38 = (some 3) := by kernel_rfl
theorem jfv : agO Try.prog 38 = (some true) := by kernel_rfl
theorem jfw : elO Try.prog 38 = (some ((some 3), (5, 1))) := by kernel_rfl
theorem jo6 : zcO Try.prog 38 = (some [(.val (.int .u8 0)), (.val (.int .u8 0)), (.val (.int .u8 0))]) := by kernel_rfl
theorem jo7 : zaO Try.prog 38 = (some [(.val (.int .u8 0)), (.val (.int .u8 0)), (.val (.int .u8 0))]) := by kernel_rfl
theorem jo8 : zh3 Try.prog 38 = true := by kernel_rfl
theorem jcc : plO Try.prog 38 0 = (some (0, 1)) := by kernel_rfl
theorem jcd : plO Try.prog 38 1 = (some (1, 1)) := by kernel_rfl
theorem jce : plO Try.prog 38 2 = (some (2, 1)) := by kernel_rfl
theorem jcf : plO Try.prog 38 3 = (some (3, 1)) := by kernel_rfl
theorem jcg : plO Try.prog 38 4 = (some (4, 1)) := by kernel_rfl
theorem jch : plO Try.prog 38 5 = (some (5, 1)) := by kernel_rfl
theorem jci : plO Try.prog 38 6 = (some (6, 1)) := by kernel_rfl
theorem jcj : plO Try.prog 38 7 = (some (7, 1)) := by kernel_rfl
theorem jck : plO Try.prog 38 8 = (some (8, 1)) := by kernel_rfl
theorem jcl : plO Try.prog 38 9 = (some (9, 1)) := by kernel_rfl
theorem zwi : plO Try.prog 38 10 = (some (10, 1)) := by kernel_rfl
theorem zwj : plO Try.prog 38 11 = (some (11, 1)) := by kernel_rfl
theorem zkg : szO Try.prog 39 = (some 1) := by kernel_rfl
theorem zkh : agO Try.prog 39 = (some false) := by kernel_rfl
theorem zki : elO Try.prog 39 = (some (none, (4, 1))) := by kernel_rfl
theorem zkj : mkO Try.prog 39 = (some (1, ([(.val (.bool false))], 1))) := by kernel_rfl
theorem zkk : szO Try.prog 40 = (some 1) := by kernel_rfl
theorem zkl : agO Try.prog 40 = (some false) := by kernel_rfl
theorem zkm : zjv Try.prog 40 = (some .i64) := by kernel_rfl
theorem zn0 : szO Try.prog 42 = (some 3) := by kernel_rfl
theorem zn1 : agO Try.prog 42 = (some true) := by kernel_rfl
theorem zsa : zcO Try.prog 42 = (some [(.val (.bool false)), (.val (.slice none 0 0)), (.val (.int .i64 0))]) := by kernel_rfl
theorem zsb : zaO Try.prog 42 = (some [(.val (.bool false)), (.val (.slice none 0 0)), (.val (.int .i64 0))]) := by kernel_rfl
theorem zyw : zh3 Try.prog 42 = true := by kernel_rfl
theorem zp9 : foO Try.prog 42 0 = (some 0) := by kernel_rfl
theorem zqa : ftO Try.prog 42 0 = (some (0, (1, false))) := by kernel_rfl
theorem zlc : plO Try.prog 42 0 = (some (0, 1)) := by kernel_rfl
theorem zqb : foO Try.prog 42 1 = (some 1) := by kernel_rfl
theorem zqc : ftO Try.prog 42 1 = (some (1, (1, false))) := by kernel_rfl
theorem zld : plO Try.prog 42 1 = (some (1, 1)) := by kernel_rfl
theorem zle : foO Try.prog 42 2 = (some 2) := by kernel_rfl
theorem zlf : ftO Try.prog 42 2 = (some (2, (1, false))) := by kernel_rfl
theorem zlg : plO Try.prog 42 2 = (some (2, 1)) := by kernel_rfl
theorem zkn : szO Try.prog 50 = (some 2) := by kernel_rfl
theorem zko : agO Try.prog 50 = (some true) := by kernel_rfl
theorem zkp : elO Try.prog 50 = (some ((some 2), (3, 1))) := by kernel_rfl
theorem zyx : zcO Try.prog 50 = (some [(.val (.int .i64 0)), (.val (.int .i64 0))]) := by kernel_rfl
theorem zyy : zaO Try.prog 50 = (some [(.val (.int .i64 0)), (.val (.int .i64 0))]) := by kernel_rfl
theorem jo9 : zh3 Try.prog 50 = true := by kernel_rfl
theorem jcm : plO Try.prog 50 0 = (some (0, 1)) := by kernel_rfl
theorem jcn : plO Try.prog 50 1 = (some (1, 1)) := by kernel_rfl
theorem jco : plO Try.prog 50 2 = (some (2, 1)) := by kernel_rfl
theorem jcp : plO Try.prog 50 3 = (some (3, 1)) := by kernel_rfl
theorem jcq : plO Try.prog 50 4 = (some (4, 1)) := by kernel_rfl
theorem jcr : plO Try.prog 50 5 = (some (5, 1)) := by kernel_rfl
theorem jcs : plO Try.prog 50 6 = (some (6, 1)) := by kernel_rfl
theorem jct : plO Try.prog 50 7 = (some (7, 1)) := by kernel_rfl
theorem jcu : plO Try.prog 50 8 = (some (8, 1)) := by kernel_rfl
theorem jcv : plO Try.prog 50 9 = (some (9, 1)) := by kernel_rfl
theorem zwk : plO Try.prog 50 10 = (some (10, 1)) := by kernel_rfl
theorem zwl : plO Try.prog 50 11 = (some (11, 1)) := by kernel_rfl
theorem jcw : szO Try.prog 52 = (some 2) := by kernel_rfl
theorem jcx : agO Try.prog 52 = (some true) := by kernel_rfl
theorem jfx : zcO Try.prog 52 = (some [(.val (.slice none 0 0)), (.val (.int .i64 0))]) := by kernel_rfl
theorem jfy : zaO Try.prog 52 = (some [(.val (.slice none 0 0)), (.val (.int .i64 0))]) := by kernel_rfl
theorem jpa : zh3 Try.prog 52 = true := by kernel_rfl
theorem jcy : foO Try.prog 52 0 = (some 0) := by kernel_rfl
theorem jcz : ftO Try.prog 52 0 = (some (0, (1, false))) := by kernel_rfl
theorem jc0 : plO Try.prog 52 0 = (some (0, 1)) := by kernel_rfl
theorem jc1 : foO Try.prog 52 1 = (some 1) := by kernel_rfl
theorem jc2 : ftO Try.prog 52 1 = (some (1, (1, false))) := by kernel_rfl
theorem jc3 : plO Try.prog 52 1 = (some (1, 1)) := by kernel_rfl
theorem jpb : szO Try.prog 55 = (some 1) := by kernel_rfl
theorem jpc : agO Try.prog 55 = (some false) := by kernel_rfl
theorem jpd : elO Try.prog 55 = (some (none, (39, 1))) := by kernel_rfl
theorem jpe : mkO Try.prog 55 = (some (1, ([(.val (.slice none 0 0))], 24))) := by kernel_rfl
theorem jpf : szO Try.prog 56 = (some 1) := by kernel_rfl
theorem jpg : agO Try.prog 56 = (some false) := by kernel_rfl
theorem jph : zjv Try.prog 56 = (some .u64) := by kernel_rfl
theorem zsc : szO Try.prog 60 = (some 1) := by kernel_rfl
theorem zsd : agO Try.prog 60 = (some false) := by kernel_rfl
theorem zse : elO Try.prog 60 = (some (none, (31, 1))) := by kernel_rfl
theorem zsf : mkO Try.prog 60 = (some (1, ([(.val (.slice none 0 0))], 24))) := by kernel_rfl
theorem jc4 : szO Try.prog 65 = (some 5) := by kernel_rfl
theorem jc5 : agO Try.prog 65 = (some true) := by kernel_rfl
theorem jfz : zcO Try.prog 65 = (some [(.val (.slice none 0 0)), (.val (.slice none 0 0)), (.val (.slice none 0 0)), (.val (.slice none 0 0)), (.val (.int .i64 0))]) := by kernel_rfl
theorem jf0 : zaO Try.prog 65 = (some [(.val (.slice none 0 0)), (.val (.slice none 0 0)), (.val (.slice none 0 0)), (.val (.slice none 0 0)), (.val (.int .i64 0))]) := by kernel_rfl
theorem jpi : zh3 Try.prog 65 = true := by kernel_rfl
theorem jc6 : foO Try.prog 65 0 = (some 0) := by kernel_rfl
theorem jc7 : ftO Try.prog 65 0 = (some (0, (4, true))) := by kernel_rfl
theorem jc8 : plO Try.prog 65 0 = (some (0, 4)) := by kernel_rfl
theorem jc9 : foO Try.prog 65 1 = (some 4) := by kernel_rfl
theorem jda : ftO Try.prog 65 1 = (some (4, (1, false))) := by kernel_rfl
theorem jdb : plO Try.prog 65 1 = (some (4, 1)) := by kernel_rfl
theorem zsg : szO Try.prog 70 = (some 3) := by kernel_rfl
theorem zsh : agO Try.prog 70 = (some true) := by kernel_rfl
theorem zyz : zcO Try.prog 70 = (some [(.val (.int .i64 0)), (.val (.int .i64 0)), (.val (.int .i64 0))]) := by kernel_rfl
theorem zy0 : zaO Try.prog 70 = (some [(.val (.int .i64 0)), (.val (.int .i64 0)), (.val (.int .i64 0))]) := by kernel_rfl
theorem zy1 : zh3 Try.prog 70 = true := by kernel_rfl
theorem jpj : jmi Try.prog 70 = (some [0, 1, 2]) := by kernel_rfl
theorem jdc : foO Try.prog 70 0 = (some 0) := by kernel_rfl
theorem jdd : ftO Try.prog 70 0 = (some (0, (1, false))) := by kernel_rfl
theorem zlh : plO Try.prog 70 0 = (some (0, 1)) := by kernel_rfl
theorem zli : plO Try.prog 70 1 = (some (1, 1)) := by kernel_rfl
theorem jde : foO Try.prog 70 2 = (some 2) := by kernel_rfl
theorem jdf : ftO Try.prog 70 2 = (some (2, (1, false))) := by kernel_rfl
theorem zlj : plO Try.prog 70 2 = (some (2, 1)) := by kernel_rfl
theorem zjf : szO Try.prog 72 = (some 5) := by kernel_rfl
theorem zjg : agO Try.prog 72 = (some true) := by kernel_rfl
theorem zl5 : zcO Try.prog 72 = (some [(.val (.int .i64 0)), (.val (.int .i64 0)), (.val (.int .i64 0)), (.val (.int .i64 0)), (.val (.int .i64 0))]) := by kernel_rfl
theorem zl6 : zaO Try.prog 72 = (some [(.val (.int .i64 0)), (.val (.int .i64 0)), (.val (.int .i64 0)), (.val (.int .i64 0)), (.val (.int .i64 0))]) := by kernel_rfl
theorem zsi : zh3 Try.prog 72 = true := by kernel_rfl
theorem zif : foO Try.prog 72 0 = (some 0) := by kernel_rfl
theorem zig : ftO Try.prog 72 0 = (some (0, (1, false))) := by kernel_rfl
theorem zih : plO Try.prog 72 0 = (some (0, 1)) := by kernel_rfl
theorem zgk : foO Try.prog 72 1 = (some 1) := by kernel_rfl
theorem zgl : ftO Try.prog 72 1 = (some (1, (1, false))) := by kernel_rfl
theorem zii : plO Try.prog 72 1 = (some (1, 1)) := by kernel_rfl
theorem zgm : foO Try.prog 72 2 = (some 2) := by kernel_rfl
theorem zgn : ftO Try.prog 72 2 = (some (2, (1, false))) := by kernel_rfl
theorem zij : plO Try.prog 72 2 = (some (2, 1)) := by kernel_rfl
theorem zgo : foO Try.prog 72 3 = (some 3) := by kernel_rfl
theorem zgp : ftO Try.prog 72 3 = (some (3, (1, false))) := by kernel_rfl
theorem zik : plO Try.prog 72 3 = (some (3, 1)) := by kernel_rfl
theorem zlk : foO Try.prog 72 4 = (some 4) := by kernel_rfl
theorem zll : ftO Try.prog 72 4 = (some (4, (1, false))) := by kernel_rfl
theorem zil : plO Try.prog 72 4 = (some (4, 1)) := by kernel_rfl
theorem jpk : szO Try.prog 79 = (some 1) := by kernel_rfl
theorem jpl : agO Try.prog 79 = (some false) := by kernel_rfl
theorem jpm : szO Try.prog 81 = (some 2) := by kernel_rfl
theorem jpn : agO Try.prog 81 = (some true) := by kernel_rfl
theorem jdg : foO Try.prog 81 1 = (some 1) := by kernel_rfl
theorem jdh : ftO Try.prog 81 1 = (some (1, (1, false))) := by kernel_rfl
theorem jpo : szO Try.prog 82 = (some 12) := by kernel_rfl
theorem jpp : agO Try.prog 82 = (some true) := by kernel_rfl
theorem jpq : elO Try.prog 82 = (some ((some 6), (81, 2))) := by kernel_rfl
theorem jpr : zcO Try.prog 82 = (some [(.val (.int .i64 0)), (.val .nilFunc), (.val (.int .i64 0)), (.val .nilFunc), (.val (.int .i64 0)), (.val .nilFunc), (.val (.int .i64 0)), (.val .nilFunc), (.val (.int .i64 0)), (.val .nilFunc), (.val (.int .i64 0)), (.val .nilFunc)]) := by kernel_rfl
theorem jps : zaO Try.prog 82 = (some [(.val (.int .i64 0)), (.val .nilFunc), (.val (.int .i64 0)), (.val .nilFunc), (.val (.int .i64 0)), (.val .nilFunc), (.val (.int .i64 0)), (.val .nilFunc), (.val (.int .i64 0)), (.val .nilFunc), (.val (.int .i64 0)), (.val .nilFunc)]) := by kernel_rfl
theorem jpt : szO Try.prog 87 = (some 1) := by kernel_rfl
theorem jpu : agO Try.prog 87 = (some false) := by kernel_rfl
theorem jpv : elO Try.prog 87 = (some (none, (81, 2))) := by kernel_rfl
theorem jpw : mkO Try.prog 87 = (some (2, ([(.val (.int .i64 0)), (.val .nilFunc)], 16))) := by kernel_rfl
theorem jpx : szO Try.prog 88 = (some 1) := by kernel_rfl
theorem jpy : agO Try.prog 88 = (some false) := by kernel_rfl
theorem jf1 : szO Try.prog 95 = (some 1) := by kernel_rfl
theorem jf2 : agO Try.prog 95 = (some false) := by kernel_rfl
theorem jf3 : szO Try.prog 97 = (some 1) := by kernel_rfl
theorem jf4 : agO Try.prog 97 = (some false) := by kernel_rfl
theorem jpz : zcO Try.prog 97 = (some [(.val .nilFunc)]) := by kernel_rfl
theorem jp0 : zaO Try.prog 97 = (some [(.val .nilFunc)]) := by kernel_rfl
theorem jp1 : szO Try.prog 99 = (some 5) := by kernel_rfl
theorem jp2 : agO Try.prog 99 = (some true) := by kernel_rfl
theorem jp3 : elO Try.prog 99 = (some ((some 5), (5, 1))) := by kernel_rfl
theorem jp4 : zcO Try.prog 99 = (some [(.val (.int .u8 0)), (.val (.int .u8 0)), (.val (.int .u8 0)), (.val (.int .u8 0)), (.val (.int .u8 0))]) := by kernel_rfl
theorem jp5 : zaO Try.prog 99 = (some [(.val (.int .u8 0)), (.val (.int .u8 0)), (.val (.int .u8 0)), (.val (.int .u8 0)), (.val (.int .u8 0))]) := by kernel_rfl
theorem zf3 : szO Try.prog 102 = (some 1) := by kernel_rfl
theorem zf4 : agO Try.prog 102 = (some false) := by kernel_rfl
theorem zf5 : elO Try.prog 102 = (some (none, (125, 3))) := by kernel_rfl
theorem zjo : mkO Try.prog 102 = (some (3, ([(.val (.int .i64 0)), (.val (.int .i64 0)), (.val (.int .i64 0))], 24))) := by kernel_rfl
theorem zeg : szO Try.prog 104 = (some 2) := by kernel_rfl
theorem zeh : agO Try.prog 104 = (some true) := by kernel_rfl
theorem zjp : zcO Try.prog 104 = (some [(.val (.slice none 0 0)), (.val (.slice none 0 0))]) := by kernel_rfl
theorem zjq : zaO Try.prog 104 = (some [(.val (.slice none 0 0)), (.val (.slice none 0 0))]) := by kernel_rfl
theorem jiz : zh3 Try.prog 104 = true := by kernel_rfl
theorem zf6 : foO Try.prog 104 0 = (some 0) := by kernel_rfl
theorem zf7 : ftO Try.prog 104 0 = (some (0, (1, false))) := by kernel_rfl
theorem zwm : plO Try.prog 104 0 = (some (0, 1)) := by kernel_rfl
theorem zi2 : foO Try.prog 104 1 = (some 1) := by kernel_rfl
theorem zi3 : ftO Try.prog 104 1 = (some (1, (1, false))) := by kernel_rfl
theorem zwn : plO Try.prog 104 1 = (some (1, 1)) := by kernel_rfl
theorem zou : szO Try.prog 109 = (some 1) := by kernel_rfl
theorem zov : agO Try.prog 109 = (some false) := by kernel_rfl
theorem ji0 : zcO Try.prog 109 = (some [(.val (.map none))]) := by kernel_rfl
theorem zow : zgr Try.prog 109 = (some (3, 3)) := by kernel_rfl
theorem zox : zvO Try.prog 109 = (some (.d (.val (.map none)))) := by kernel_rfl
theorem ji1 : zaO Try.prog 109 = (some [(.val (.map none))]) := by kernel_rfl
theorem zwo : szO Try.prog 114 = (some 1) := by kernel_rfl
theorem zwp : agO Try.prog 114 = (some false) := by kernel_rfl
theorem zwq : szO Try.prog 116 = (some 1) := by kernel_rfl
theorem zwr : agO Try.prog 116 = (some false) := by kernel_rfl
theorem zhm : szO Try.prog 117 = (some 1) := by kernel_rfl
theorem zhn : agO Try.prog 117 = (some false) := by kernel_rfl
theorem zoy : szO Try.prog 120 = (some 4) := by kernel_rfl
theorem zoz : agO Try.prog 120 = (some true) := by kernel_rfl
theorem ji2 : zcO Try.prog 120 = (some [(.val (.pointer none)), (.val (.slice none 0 0)), (.val (.slice none 0 0)), (.val (.slice none 0 0))]) := by kernel_rfl
theorem ji3 : zaO Try.prog 120 = (some [(.val (.pointer none)), (.val (.slice none 0 0)), (.val (.slice none 0 0)), (.val (.slice none 0 0))]) := by kernel_rfl
theorem ji4 : zh3 Try.prog 120 = true := by kernel_rfl
theorem zi4 : foO Try.prog 120 0 = (some 0) := by kernel_rfl
theorem zi5 : ftO Try.prog 120 0 = (some (0, (1, false))) := by kernel_rfl
theorem zws : plO Try.prog 120 0 = (some (0, 1)) := by kernel_rfl
theorem zmn : foO Try.prog 120 1 = (some 1) := by kernel_rfl
theorem zmo : ftO Try.prog 120 1 = (some (1, (1, false))) := by kernel_rfl
theorem zwt : plO Try.prog 120 1 = (some (1, 1)) := by kernel_rfl
theorem zwu : foO Try.prog 120 2 = (some 2) := by kernel_rfl
theorem zwv : ftO Try.prog 120 2 = (some (2, (1, false))) := by kernel_rfl
theorem zww : plO Try.prog 120 2 = (some (2, 1)) := by kernel_rfl
theorem zi6 : foO Try.prog 120 3 = (some 3) := by kernel_rfl
theorem zi7 : ftO Try.prog 120 3 = (some (3, (1, false))) := by kernel_rfl
theorem zwx : plO Try.prog 120 3 = (some (3, 1)) := by kernel_rfl
theorem zf8 : szO Try.prog 125 = (some 3) := by kernel_rfl
theorem zf9 : agO Try.prog 125 = (some true) := by kernel_rfl
theorem zho : zcO Try.prog 125 = (some [(.val (.int .i64 0)), (.val (.int .i64 0)), (.val (.int .i64 0))]) := by kernel_rfl
theorem zhp : zaO Try.prog 125 = (some [(.val (.int .i64 0)), (.val (.int .i64 0)), (.val (.int .i64 0))]) := by kernel_rfl
theorem zo0 : zh3 Try.prog 125 = true := by kernel_rfl
theorem zex : foO Try.prog 125 0 = (some 0) := by kernel_rfl
theorem zey : ftO Try.prog 125 0 = (some (0, (1, false))) := by kernel_rfl
theorem zi8 : plO Try.prog 125 0 = (some (0, 1)) := by kernel_rfl
theorem zga : foO Try.prog 125 1 = (some 1) := by kernel_rfl
theorem zgb : ftO Try.prog 125 1 = (some (1, (1, false))) := by kernel_rfl
theorem zi9 : plO Try.prog 125 1 = (some (1, 1)) := by kernel_rfl
theorem zgc : foO Try.prog 125 2 = (some 2) := by kernel_rfl
theorem zgd : ftO Try.prog 125 2 = (some (2, (1, false))) := by kernel_rfl
theorem zja : plO Try.prog 125 2 = (some (2, 1)) := by kernel_rfl
theorem zwy : szO Try.prog 127 = (some 1) := by kernel_rfl
theorem zwz : agO Try.prog 127 = (some false) := by kernel_rfl
theorem zw0 : zgr Try.prog 127 = (some (125, 3)) := by kernel_rfl
theorem zw1 : zvO Try.prog 127 = (some (.d (.val (.map none)))) := by kernel_rfl
theorem zw2 : szO Try.prog 128 = (some 1) := by kernel_rfl
theorem zw3 : agO Try.prog 128 = (some false) := by kernel_rfl
theorem zw4 : zgr Try.prog 128 = (some (132, 3)) := by kernel_rfl
theorem zw5 : zvO Try.prog 128 = (some (.d (.val (.map none)))) := by kernel_rfl
theorem zjr : szO Try.prog 130 = (some 3) := by kernel_rfl
theorem zjs : agO Try.prog 130 = (some true) := by kernel_rfl
theorem ji5 : zcO Try.prog 130 = (some [(.val (.slice none 0 0)), (.val (.map none)), (.val (.map none))]) := by kernel_rfl
theorem ji6 : zaO Try.prog 130 = (some [(.val (.slice none 0 0)), (.val (.map none)), (.val (.map none))]) := by kernel_rfl
theorem ji7 : zh3 Try.prog 130 = true := by kernel_rfl
theorem zge : foO Try.prog 130 0 = (some 0) := by kernel_rfl
theorem zgf : ftO Try.prog 130 0 = (some (0, (1, false))) := by kernel_rfl
theorem zw6 : plO Try.prog 130 0 = (some (0, 1)) := by kernel_rfl
theorem zw7 : foO Try.prog 130 1 = (some 1) := by kernel_rfl
theorem zw8 : ftO Try.prog 130 1 = (some (1, (1, false))) := by kernel_rfl
theorem zw9 : plO Try.prog 130 1 = (some (1, 1)) := by kernel_rfl
theorem zxa : foO Try.prog 130 2 = (some 2) := by kernel_rfl
theorem zxb : ftO Try.prog 130 2 = (some (2, (1, false))) := by kernel_rfl
theorem zxc : plO Try.prog 130 2 = (some (2, 1)) := by kernel_rfl
theorem ji8 : szO Try.prog 132 = (some 3) := by kernel_rfl
theorem ji9 : agO Try.prog 132 = (some true) := by kernel_rfl
theorem jja : elO Try.prog 132 = (some ((some 3), (3, 1))) := by kernel_rfl
theorem jjb : zcO Try.prog 132 = (some [(.val (.int .i64 0)), (.val (.int .i64 0)), (.val (.int .i64 0))]) := by kernel_rfl
theorem jjc : zaO Try.prog 132 = (some [(.val (.int .i64 0)), (.val (.int .i64 0)), (.val (.int .i64 0))]) := by kernel_rfl
theorem jjd : zh3 Try.prog 132 = true := by kernel_rfl
theorem zxd : plO Try.prog 132 0 = (some (0, 1)) := by kernel_rfl
theorem zxe : plO Try.prog 132 1 = (some (1, 1)) := by kernel_rfl
theorem zxf : plO Try.prog 132 2 = (some (2, 1)) := by kernel_rfl
theorem zxg : plO Try.prog 132 3 = (some (3, 1)) := by kernel_rfl
theorem zxh : plO Try.prog 132 4 = (some (4, 1)) := by kernel_rfl
theorem zxi : plO Try.prog 132 5 = (some (5, 1)) := by kernel_rfl
theorem zxj : plO Try.prog 132 6 = (some (6, 1)) := by kernel_rfl
theorem zxk : plO Try.prog 132 7 = (some (7, 1)) := by kernel_rfl
theorem zxl : plO Try.prog 132 8 = (some (8, 1)) := by kernel_rfl
theorem zxm : plO Try.prog 132 9 = (some (9, 1)) := by kernel_rfl
theorem zsj : plO Try.prog 132 10 = (some (10, 1)) := by kernel_rfl
theorem zsk : plO Try.prog 132 11 = (some (11, 1)) := by kernel_rfl
theorem jje : szO Try.prog 134 = (some 1) := by kernel_rfl
theorem jjf : agO Try.prog 134 = (some false) := by kernel_rfl
theorem jjg : zgr Try.prog 134 = (some (3, 4)) := by kernel_rfl
theorem jjh : zvO Try.prog 134 = (some (.d (.val (.map none)))) := by kernel_rfl
theorem znk : laidOutB Try.prog = true := by kernel_rfl
theorem jts : Maps.Keyed Try.prog 3 := Maps.int_keyed (q := .i64) (by kernel_rfl)
theorem jp6 : Maps.Keyed Try.prog 125 := .of_law (deep_law_laid znk (m := 3) (by omega) (of_decide_eq_true (by kernel_rfl)) (by kernel_rfl) (by kernel_rfl))
theorem jp7 : Maps.Keyed Try.prog 132 := .of_law (deep_law_laid znk (m := 3) (by omega) (of_decide_eq_true (by kernel_rfl)) (by kernel_rfl) (by kernel_rfl))
def KT (k : TypeId) : Bool := k == 3 || k == 125 || k == 132
theorem zak (k : TypeId) (h : KT k = true) : Maps.Keyed Try.prog k := by
 simp only [KT, Bool.or_eq_true, beq_iff_eq, or_assoc] at h
 rcases h with rfl | rfl | rfl
 ·exact jts
 ·exact jp6
 ·exact jp7
end Go.Proofs.Ytignimmnnccblaa
