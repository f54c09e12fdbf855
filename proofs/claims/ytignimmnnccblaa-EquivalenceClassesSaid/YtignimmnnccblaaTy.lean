/- Facts of types, and of the settings. -/
import Derived.Test.YtignimmnnccblaaAR
import Derived.Test.YtignimmnnccblaaProg
import Derived.DeepKeys4
set_option linter.unusedVariables false
set_option linter.unusedSimpArgs false
namespace Go.Proofs.Ytignimmnnccblaa
open Go Go.RowKit
theorem mixed : Try.prog.follows .mixedOrders = true := by kernel_rfl
theorem zlz : szO Try.prog 0 = (some 1) := by kernel_rfl
theorem zl0 : agO Try.prog 0 = (some false) := by kernel_rfl
theorem zhq : szO Try.prog 1 = (some 1) := by kernel_rfl
theorem zhr : agO Try.prog 1 = (some false) := by kernel_rfl
theorem jen : szO Try.prog 2 = (some 1) := by kernel_rfl
theorem jeo : agO Try.prog 2 = (some false) := by kernel_rfl
theorem ze9 : szO Try.prog 3 = (some 1) := by kernel_rfl
theorem zfa : agO Try.prog 3 = (some false) := by kernel_rfl
theorem jrn : zcO Try.prog 3 = (some [(.val (.int .i64 0))]) := by kernel_rfl
theorem jro : zaO Try.prog 3 = (some [(.val (.int .i64 0))]) := by kernel_rfl
theorem zfc : zmx Try.prog 3 = (some .i64) := by kernel_rfl
theorem zmn : szO Try.prog 4 = (some 1) := by kernel_rfl
theorem zmo : agO Try.prog 4 = (some false) := by kernel_rfl
theorem zre : zj4 Try.prog 4 = true := by kernel_rfl
theorem jep : szO Try.prog 5 = (some 1) := by kernel_rfl
theorem jeq : agO Try.prog 5 = (some false) := by kernel_rfl
theorem ji1 : zmx Try.prog 5 = (some .u8) := by kernel_rfl
theorem jrp : szO Try.prog 7 = (some 4) := by kernel_rfl
theorem jrq : agO Try.prog 7 = (some true) := by kernel_rfl
theorem jfi : szO Try.prog 22 = (some 1) := by kernel_rfl
theorem jfj : agO Try.prog 22 = (some false) := by kernel_rfl
theorem jfk : elO Try.prog 22 = (some (none, (5, 1))) := by kernel_rfl
theorem jfl : mkO Try.prog 22 = (some (1, ([(.val (.int .u8 0))], 1))) := by kernel_rfl
theorem jfm : szO Try.prog 23 = (some 1) := by kernel_rfl
theorem jfn : agO Try.prog 23 = (some false) := by kernel_rfl
theorem jfo : elO Try.prog 23 = (some (none, (99, 5))) := by kernel_rfl
theorem jfp : mkO Try.prog 23 = (some (5, ([(.val (.int .u8 0)), (.val (.int .u8 0)), (.val (.int .u8 0)), (.val (.int .u8 0)), (.val (.int .u8 0))], 5))) := by kernel_rfl
theorem jfq : szO Try.prog 24 = (some 1) := by kernel_rfl
theorem jfr : agO Try.prog 24 = (some false) := by kernel_rfl
theorem jfs : elO Try.prog 24 = (some (none, (27, 4))) := by kernel_rfl
theorem jft : mkO Try.prog 24 = (some (4, ([(.val (.int .u8 0)), (.val (.int .u8 0)), (.val (.int .u8 0)), (.val (.int .u8 0))], 4))) := by kernel_rfl
theorem zsr : szO Try.prog 26 = (some 3) := by kernel_rfl
theorem zss : agO Try.prog 26 = (some true) := by kernel_rfl
theorem joy : zcO Try.prog 26 = (some [(.val (.slice none 0 0)), (.val (.slice none 0 0)), (.val (.slice none 0 0))]) := by kernel_rfl
theorem joz : zaO Try.prog 26 = (some [(.val (.slice none 0 0)), (.val (.slice none 0 0)), (.val (.slice none 0 0))]) := by kernel_rfl
theorem jo0 : zh4 Try.prog 26 = true := by kernel_rfl
theorem zqc : foO Try.prog 26 0 = (some 0) := by kernel_rfl
theorem zqd : ftO Try.prog 26 0 = (some (0, (1, false))) := by kernel_rfl
theorem jce : plO Try.prog 26 0 = (some (0, 1)) := by kernel_rfl
theorem zqe : foO Try.prog 26 1 = (some 1) := by kernel_rfl
theorem zqf : ftO Try.prog 26 1 = (some (1, (1, false))) := by kernel_rfl
theorem jcf : plO Try.prog 26 1 = (some (1, 1)) := by kernel_rfl
theorem zqg : foO Try.prog 26 2 = (some 2) := by kernel_rfl
theorem zqh : ftO Try.prog 26 2 = (some (2, (1, false))) := by kernel_rfl
theorem jcg : plO Try.prog 26 2 = (some (2, 1)) := by kernel_rfl
theorem zyz : szO Try.prog 27 = (some 4) := by kernel_rfl
theorem zy0 : agO Try.prog 27 = (some true) := by kernel_rfl
theorem zy1 : elO Try.prog 27 = (some ((some 4), (5, 1))) := by kernel_rfl
theorem jo1 : zcO Try.prog 27 = (some [(.val (.int .u8 0)), (.val (.int .u8 0)), (.val (.int .u8 0)), (.val (.int .u8 0))]) := by kernel_rfl
theorem jo2 : zaO Try.prog 27 = (some [(.val (.int .u8 0)), (.val (.int .u8 0)), (.val (.int .u8 0)), (.val (.int .u8 0))]) := by kernel_rfl
theorem zfw : szO Try.prog 29 = (some 1) := by kernel_rfl
theorem zfx : agO Try.prog 29 = (some false) := by kernel_rfl
theorem zfy : elO Try.prog 29 = (some (none, (70, 3))) := by kernel_rfl
theorem zfz : mkO Try.prog 29 = (some (3, ([(.val (.int .i64 0)), (.val (.int .i64 0)), (.val (.int .i64 0))], 24))) := by kernel_rfl
theorem zg1 : szO Try.prog 30 = (some 1) := by kernel_rfl
theorem zg2 : agO Try.prog 30 = (some false) := by kernel_rfl
theorem zg3 : elO Try.prog 30 = (some (none, (72, 5))) := by kernel_rfl
theorem zg4 : mkO Try.prog 30 = (some (5, ([(.val (.int .i64 0)), (.val (.int .i64 0)), (.val (.int .i64 0)), (.val (.int .i64 0)), (.val (.int .i64 0))], 40))) := by kernel_rfl
theorem zdf : szO Try.prog 31 = (some 1) := by kernel_rfl
theorem zdg : agO Try.prog 31 = (some false) := by kernel_rfl
theorem zdh : elO Try.prog 31 = (some (none, (3, 1))) := by kernel_rfl
theorem zdq : mkO Try.prog 31 = (some (1, ([(.val (.int .i64 0))], 8))) := by kernel_rfl
theorem zds : szO Try.prog 33 = (some 4) := by kernel_rfl
theorem zdt : agO Try.prog 33 = (some true) := by kernel_rfl
theorem zg5 : zcO Try.prog 33 = (some [(.val (.slice none 0 0)), (.val (.slice none 0 0)), (.val (.slice none 0 0)), (.val (.slice none 0 0))]) := by kernel_rfl
theorem zg6 : zaO Try.prog 33 = (some [(.val (.slice none 0 0)), (.val (.slice none 0 0)), (.val (.slice none 0 0)), (.val (.slice none 0 0))]) := by kernel_rfl
theorem zst : zh4 Try.prog 33 = true := by kernel_rfl
theorem zdc : foO Try.prog 33 0 = (some 0) := by kernel_rfl
theorem zdd : ftO Try.prog 33 0 = (some (0, (1, false))) := by kernel_rfl
theorem zib : plO Try.prog 33 0 = (some (0, 1)) := by kernel_rfl
theorem zdu : foO Try.prog 33 1 = (some 1) := by kernel_rfl
theorem zdv : ftO Try.prog 33 1 = (some (1, (1, false))) := by kernel_rfl
theorem zic : plO Try.prog 33 1 = (some (1, 1)) := by kernel_rfl
theorem zlc : foO Try.prog 33 2 = (some 2) := by kernel_rfl
theorem zld : ftO Try.prog 33 2 = (some (2, (1, false))) := by kernel_rfl
theorem zid : plO Try.prog 33 2 = (some (2, 1)) := by kernel_rfl
theorem zgk : foO Try.prog 33 3 = (some 3) := by kernel_rfl
theorem zgl : ftO Try.prog 33 3 = (some (3, (1, false))) := by kernel_rfl
theorem zie : plO Try.prog 33 3 = (some (3, 1)) := by kernel_rfl
theorem ze4 : szO Try.prog 36 = (some 1) := by kernel_rfl
theorem ze5 : agO Try.prog 36 = (some false) := by kernel_rfl
theorem ze6 : elO Try.prog 36 = (some (none, (50, 2))) := by kernel_rfl
theorem ze7 : mkO Try.prog 36 = (some (2, ([(.val (.int .i64 0)), (.val (.int .i64 0))], 16))) := by kernel_rfl
theorem jfu : szO Try.prog 38 = (some 3) := by kernel_rfl
theorem jfv : agO Try.prog 38 = (some true) := by kernel_rfl
theorem jfw : elO Try.prog 38 = (some ((some 3), (5, 1))) := by kernel_rfl
theorem jo3 : zcO Try.prog 38 = (some [(.val (.int .u8 0)), (.val (.int .u8 0)), (.val (.int .u8 0))]) := by kernel_rfl
theorem jo4 : zaO Try.prog 38 = (some [(.val (.int .u8 0)), (.val (.int .u8 0)), (.val (.int .u8 0))]) := by kernel_rfl
theorem jo5 : zh4 Try.prog 38 = true := by kernel_rfl
theorem jch : plO Try.prog 38 0 = (some (0, 1)) := by kernel_rfl
theorem jci : plO Try.prog 38 1 = (some (1, 1)) := by kernel_rfl
theorem jcj : plO Try.prog 38 2 = (some (2, 1)) := by kernel_rfl
theorem jck : plO Try.prog 38 3 = (some (3, 1)) := by kernel_rfl
theorem jcl : plO Try.prog 38 4 = (some (4, 1)) := by kernel_rfl
theorem jcm : plO Try.prog 38 5 = (some (5, 1)) := by kernel_rfl
theorem jcn : plO Try.prog 38 6 = (some (6, 1)) := by kernel_rfl
theorem jco : plO Try.prog 38 7 = (some (7, 1)) := by kernel_rfl
theorem jcp : plO Try.prog 38 8 = (some (8, 1)) := by kernel_rfl
theorem jcq : plO Try.prog 38 9 = (some (9, 1)) := by kernel_rfl
theorem zwu : plO Try.prog 38 10 = (some (10, 1)) := by kernel_rfl
theorem zwv : plO Try.prog 38 11 = (some (11, 1)) := by kernel_rfl
theorem zkr : szO Try.prog 39 = (some 1) := by kernel_rfl
theorem zks : agO Try.prog 39 = (some false) := by kernel_rfl
theorem zkt : elO Try.prog 39 = (some (none, (4, 1))) := by kernel_rfl
theorem zku : mkO Try.prog 39 = (some (1, ([(.val (.bool false))], 1))) := by kernel_rfl
theorem zjk : szO Try.prog 40 = (some 1) := by kernel_rfl
theorem zjl : agO Try.prog 40 = (some false) := by kernel_rfl
theorem zjm : zmx Try.prog 40 = (some .i64) := by kernel_rfl
theorem znz : szO Try.prog 42 = (some 3) := by kernel_rfl
theorem zn0 : agO Try.prog 42 = (some true) := by kernel_rfl
theorem zsu : zcO Try.prog 42 = (some [(.val (.bool false)), (.val (.slice none 0 0)), (.val (.int .i64 0))]) := by kernel_rfl
theorem zsv : zaO Try.prog 42 = (some [(.val (.bool false)), (.val (.slice none 0 0)), (.val (.int .i64 0))]) := by kernel_rfl
theorem zsw : zh4 Try.prog 42 = true := by kernel_rfl
theorem zqi : foO Try.prog 42 0 = (some 0) := by kernel_rfl
theorem zqj : ftO Try.prog 42 0 = (some (0, (1, false))) := by kernel_rfl
theorem zif : plO Try.prog 42 0 = (some (0, 1)) := by kernel_rfl
theorem jcr : foO Try.prog 42 1 = (some 1) := by kernel_rfl
theorem jcs : ftO Try.prog 42 1 = (some (1, (1, false))) := by kernel_rfl
theorem zig : plO Try.prog 42 1 = (some (1, 1)) := by kernel_rfl
theorem zle : foO Try.prog 42 2 = (some 2) := by kernel_rfl
theorem zlf : ftO Try.prog 42 2 = (some (2, (1, false))) := by kernel_rfl
theorem zih : plO Try.prog 42 2 = (some (2, 1)) := by kernel_rfl
theorem zjn : szO Try.prog 50 = (some 2) := by kernel_rfl
theorem zjo : agO Try.prog 50 = (some true) := by kernel_rfl
theorem zjp : elO Try.prog 50 = (some ((some 2), (3, 1))) := by kernel_rfl
theorem zsx : zcO Try.prog 50 = (some [(.val (.int .i64 0)), (.val (.int .i64 0))]) := by kernel_rfl
theorem zsy : zaO Try.prog 50 = (some [(.val (.int .i64 0)), (.val (.int .i64 0))]) := by kernel_rfl
theorem jfx : zh4 Try.prog 50 = true := by kernel_rfl
theorem zqk : plO Try.prog 50 0 = (some (0, 1)) := by kernel_rfl
theorem zql : plO Try.prog 50 1 = (some (1, 1)) := by kernel_rfl
theorem zqm : plO Try.prog 50 2 = (some (2, 1)) := by kernel_rfl
theorem zqn : plO Try.prog 50 3 = (some (3, 1)) := by kernel_rfl
theorem zqo : plO Try.prog 50 4 = (some (4, 1)) := by kernel_rfl
theorem zqp : plO Try.prog 50 5 = (some (5, 1)) := by kernel_rfl
theorem zqq : plO Try.prog 50 6 = (some (6, 1)) := by kernel_rfl
theorem zqr : plO Try.prog 50 7 = (some (7, 1)) := by kernel_rfl
theorem zqs : plO Try.prog 50 8 = (some (8, 1)) := by kernel_rfl
theorem zqt : plO Try.prog 50 9 = (some (9, 1)) := by kernel_rfl
theorem zmp : plO Try.prog 50 10 = (some (10, 1)) := by kernel_rfl
theorem zmq : plO Try.prog 50 11 = (some (11, 1)) := by kernel_rfl
theorem zt9 : szO Try.prog 52 = (some 2) := by kernel_rfl
theorem zua : agO Try.prog 52 = (some true) := by kernel_rfl
theorem zy2 : zcO Try.prog 52 = (some [(.val (.slice none 0 0)), (.val (.int .i64 0))]) := by kernel_rfl
theorem zy3 : zaO Try.prog 52 = (some [(.val (.slice none 0 0)), (.val (.int .i64 0))]) := by kernel_rfl
theorem jo6 : zh4 Try.prog 52 = true := by kernel_rfl
theorem zqu : foO Try.prog 52 0 = (some 0) := by kernel_rfl
theorem zqv : ftO Try.prog 52 0 = (some (0, (1, false))) := by kernel_rfl
theorem jct : plO Try.prog 52 0 = (some (0, 1)) := by kernel_rfl
theorem zqw : foO Try.prog 52 1 = (some 1) := by kernel_rfl
theorem zqx : ftO Try.prog 52 1 = (some (1, (1, false))) := by kernel_rfl
theorem jcu : plO Try.prog 52 1 = (some (1, 1)) := by kernel_rfl
theorem jfy : szO Try.prog 55 = (some 1) := by kernel_rfl
theorem jfz : agO Try.prog 55 = (some false) := by kernel_rfl
theorem jf0 : elO Try.prog 55 = (some (none, (39, 1))) := by kernel_rfl
theorem jf1 : mkO Try.prog 55 = (some (1, ([(.val (.slice none 0 0))], 24))) := by kernel_rfl
theorem jf2 : szO Try.prog 56 = (some 1) := by kernel_rfl
theorem jf3 : agO Try.prog 56 = (some false) := by kernel_rfl
theorem jf4 : zmx Try.prog 56 = (some .u64) := by kernel_rfl
theorem zn1 : szO Try.prog 60 = (some 1) := by kernel_rfl
theorem zn2 : agO Try.prog 60 = (some false) := by kernel_rfl
theorem zn3 : elO Try.prog 60 = (some (none, (31, 1))) := by kernel_rfl
theorem zn4 : mkO Try.prog 60 = (some (1, ([(.val (.slice none 0 0))], 24))) := by kernel_rfl
theorem jcv : szO Try.prog 65 = (some 5) := by kernel_rfl
theorem jcw : agO Try.prog 65 = (some true) := by kernel_rfl
theorem jf5 : zcO Try.prog 65 = (some [(.val (.slice none 0 0)), (.val (.slice none 0 0)), (.val (.slice none 0 0)), (.val (.slice none 0 0)), (.val (.int .i64 0))]) := by kernel_rfl
theorem jf6 : zaO Try.prog 65 = (some [(.val (.slice none 0 0)), (.val (.slice none 0 0)), (.val (.slice none 0 0)), (.val (.slice none 0 0)), (.val (.int .i64 0))]) := by kernel_rfl
theorem jo7 : zh4 Try.prog 65 = true := by kernel_rfl
theorem jcx : foO Try.prog 65 0 = (some 0) := by kernel_rfl
theorem jcy : ftO Try.prog 65 0 = (some (0, (4, true))) := by kernel_rfl
theorem jcz : plO Try.prog 65 0 = (some (0, 4)) := by kernel_rfl
theorem jc0 : foO Try.prog 65 1 = (some 4) := by kernel_rfl
theorem jc1 : ftO Try.prog 65 1 = (some (4, (1, false))) := by kernel_rfl
theorem jc2 : plO Try.prog 65 1 = (some (4, 1)) := by kernel_rfl
theorem zsz : szO Try.prog 70 = (some 3) := by kernel_rfl
theorem zs0 : agO Try.prog 70 = (some true) := by kernel_rfl
theorem zy4 : zcO Try.prog 70 = (some [(.val (.int .i64 0)), (.val (.int .i64 0)), (.val (.int .i64 0))]) := by kernel_rfl
theorem zy5 : zaO Try.prog 70 = (some [(.val (.int .i64 0)), (.val (.int .i64 0)), (.val (.int .i64 0))]) := by kernel_rfl
theorem zy6 : zh4 Try.prog 70 = true := by kernel_rfl
theorem jo8 : jmf Try.prog 70 = (some [0, 1, 2]) := by kernel_rfl
theorem jc3 : foO Try.prog 70 0 = (some 0) := by kernel_rfl
theorem jc4 : ftO Try.prog 70 0 = (some (0, (1, false))) := by kernel_rfl
theorem zlg : plO Try.prog 70 0 = (some (0, 1)) := by kernel_rfl
theorem zlh : plO Try.prog 70 1 = (some (1, 1)) := by kernel_rfl
theorem jc5 : foO Try.prog 70 2 = (some 2) := by kernel_rfl
theorem jc6 : ftO Try.prog 70 2 = (some (2, (1, false))) := by kernel_rfl
theorem zli : plO Try.prog 70 2 = (some (2, 1)) := by kernel_rfl
theorem zjq : szO Try.prog 72 = (some 5) := by kernel_rfl
theorem zjr : agO Try.prog 72 = (some true) := by kernel_rfl
theorem zl4 : zcO Try.prog 72 = (some [(.val (.int .i64 0)), (.val (.int .i64 0)), (.val (.int .i64 0)), (.val (.int .i64 0)), (.val (.int .i64 0))]) := by kernel_rfl
theorem zl5 : zaO Try.prog 72 = (some [(.val (.int .i64 0)), (.val (.int .i64 0)), (.val (.int .i64 0)), (.val (.int .i64 0)), (.val (.int .i64 0))]) := by kernel_rfl
theorem zs1 : zh4 Try.prog 72 = true := by kernel_rfl
theorem zii : foO Try.prog 72 0 = (some 0) := by kernel_rfl
theorem zij : ftO Try.prog 72 0 = (some (0, (1, false))) := by kernel_rfl
theorem zik : plO Try.prog 72 0 = (some (0, 1)) := by kernel_rfl
theorem zgm : foO Try.prog 72 1 = (some 1) := by kernel_rfl
theorem zgn : ftO Try.prog 72 1 = (some (1, (1, false))) := by kernel_rfl
theorem zil : plO Try.prog 72 1 = (some (1, 1)) := by kernel_rfl
theorem zgo : foO Try.prog 72 2 = (some 2) := by kernel_rfl
theorem zgp : ftO Try.prog 72 2 = (some (2, (1, false))) := by kernel_rfl
theorem zim : plO Try.prog 72 2 = (some (2, 1)) := by kernel_rfl
theorem zgq : foO Try.prog 72 3 = (some 3) := by kernel_rfl
theorem zgr : ftO Try.prog 72 3 = (some (3, (1, false))) := by kernel_rfl
theorem zin : plO Try.prog 72 3 = (some (3, 1)) := by kernel_rfl
theorem zlj : foO Try.prog 72 4 = (some 4) := by kernel_rfl
theorem zlk : ftO Try.prog 72 4 = (some (4, (1, false))) := by kernel_rfl
theorem zio : plO Try.prog 72 4 = (some (4, 1)) := by kernel_rfl
theorem jo9 : szO Try.prog 79 = (some 1) := by kernel_rfl
theorem jpa : agO Try.prog 79 = (some false) := by kernel_rfl
theorem jpb : szO Try.prog 81 = (some 2) := by kernel_rfl
theorem jpc : agO Try.prog 81 = (some true) := by kernel_rfl
theorem jc7 : foO Try.prog 81 1 = (some 1) := by kernel_rfl
theorem jc8 : ftO Try.prog 81 1 = (some (1, (1, false))) := by kernel_rfl
theorem jpd : szO Try.prog 82 = (some 12) := by kernel_rfl
theorem jpe : agO Try.prog 82 = (some true) := by kernel_rfl
theorem jpf : elO Try.prog 82 = (some ((some 6), (81, 2))) := by kernel_rfl
theorem jpg : zcO Try.prog 82 = (some [(.val (.int .i64 0)), (.val .nilFunc), (.val (.int .i64 0)), (.val .nilFunc), (.val (.int .i64 0)), (.val .nilFunc), (.val (.int .i64 0)), (.val .nilFunc), (.val (.int .i64 0)), (.val .nilFunc), (.val (.int .i64 0)), (.val .nilFunc)]) := by kernel_rfl
theorem jph : zaO Try.prog 82 = (some [(.val (.int .i64 0)), (.val .nilFunc), (.val (.int .i64 0)), (.val .nilFunc), (.val (.int .i64 0)), (.val .nilFunc), (.val (.int .i64 0)), (.val .nilFunc), (.val (.int .i64 0)), (.val .nilFunc), (.val (.int .i64 0)), (.val .nilFunc)]) := by kernel_rfl
theorem jpi : szO Try.prog 87 = (some 1) := by kernel_rfl
theorem jpj : agO Try.prog 87 = (some false) := by kernel_rfl
theorem jpk : elO Try.prog 87 = (some (none, (81, 2))) := by kernel_rfl
theorem jpl : mkO Try.prog 87 = (some (2, ([(.val (.int .i64 0)), (.val .nilFunc)], 16))) := by kernel_rfl
theorem jpm : szO Try.prog 88 = (some 1) := by kernel_rfl
theorem jpn : agO Try.prog 88 = (some false) := by kernel_rfl
theorem jf7 : szO Try.prog 95 = (some 1) := by kernel_rfl
theorem jf8 : agO Try.prog 95 = (some false) := by kernel_rfl
theorem jf9 : szO Try.prog 97 = (some 1) := by kernel_rfl
theorem jga : agO Try.prog 97 = (some false) := by kernel_rfl
theorem jpo : zcO Try.prog 97 = (some [(.val .nilFunc)]) := by kernel_rfl
theorem jpp : zaO Try.prog 97 = (some [(.val .nilFunc)]) := by kernel_rfl
theorem jpq : szO Try.prog 99 = (some 5) := by kernel_rfl
theorem jpr : agO Try.prog 99 = (some true) := by kernel_rfl
theorem jps : elO Try.prog 99 = (some ((some 5), (5, 1))) := by kernel_rfl
theorem jpt : zcO Try.prog 99 = (some [(.val (.int .u8 0)), (.val (.int .u8 0)), (.val (.int .u8 0)), (.val (.int .u8 0)), (.val (.int .u8 0))]) := by kernel_rfl
theorem jpu : zaO Try.prog 99 = (some [(.val (.int .u8 0)), (.val (.int .u8 0)), (.val (.int .u8 0)), (.val (.int .u8 0)), (.val (.int .u8 0))]) := by kernel_rfl
theorem zf5 : szO Try.prog 102 = (some 1) := by kernel_rfl
theorem zf6 : agO Try.prog 102 = (some false) := by kernel_rfl
theorem zf7 : elO Try.prog 102 = (some (none, (125, 3))) := by kernel_rfl
theorem zjz : mkO Try.prog 102 = (some (3, ([(.val (.int .i64 0)), (.val (.int .i64 0)), (.val (.int .i64 0))], 24))) := by kernel_rfl
theorem zei : szO Try.prog 104 = (some 2) := by kernel_rfl
theorem zej : agO Try.prog 104 = (some true) := by kernel_rfl
theorem zj0 : zcO Try.prog 104 = (some [(.val (.slice none 0 0)), (.val (.slice none 0 0))]) := by kernel_rfl
theorem zj1 : zaO Try.prog 104 = (some [(.val (.slice none 0 0)), (.val (.slice none 0 0))]) := by kernel_rfl
theorem ji2 : zh4 Try.prog 104 = true := by kernel_rfl
theorem zf8 : foO Try.prog 104 0 = (some 0) := by kernel_rfl
theorem zf9 : ftO Try.prog 104 0 = (some (0, (1, false))) := by kernel_rfl
theorem zww : plO Try.prog 104 0 = (some (0, 1)) := by kernel_rfl
theorem zi7 : foO Try.prog 104 1 = (some 1) := by kernel_rfl
theorem zi8 : ftO Try.prog 104 1 = (some (1, (1, false))) := by kernel_rfl
theorem zwx : plO Try.prog 104 1 = (some (1, 1)) := by kernel_rfl
theorem zo0 : szO Try.prog 109 = (some 1) := by kernel_rfl
theorem zo1 : agO Try.prog 109 = (some false) := by kernel_rfl
theorem ji3 : zcO Try.prog 109 = (some [(.val (.map none))]) := by kernel_rfl
theorem zo2 : zgt Try.prog 109 = (some (3, 3)) := by kernel_rfl
theorem zo3 : zvO Try.prog 109 = (some (.d (.val (.map none)))) := by kernel_rfl
theorem ji4 : zaO Try.prog 109 = (some [(.val (.map none))]) := by kernel_rfl
theorem zwy : szO Try.prog 114 = (some 1) := by kernel_rfl
theorem zwz : agO Try.prog 114 = (some false) := by kernel_rfl
theorem zw0 : szO Try.prog 116 = (some 1) := by kernel_rfl
theorem zw1 : agO Try.prog 116 = (some false) := by kernel_rfl
theorem zhs : szO Try.prog 117 = (some 1) := by kernel_rfl
theorem zht : agO Try.prog 117 = (some false) := by kernel_rfl
theorem zo4 : szO Try.prog 120 = (some 4) := by kernel_rfl
theorem zo5 : agO Try.prog 120 = (some true) := by kernel_rfl
theorem ji5 : zcO Try.prog 120 = (some [(.val (.pointer none)), (.val (.slice none 0 0)), (.val (.slice none 0 0)), (.val (.slice none 0 0))]) := by kernel_rfl
theorem ji6 : zaO Try.prog 120 = (some [(.val (.pointer none)), (.val (.slice none 0 0)), (.val (.slice none 0 0)), (.val (.slice none 0 0))]) := by kernel_rfl
theorem ji7 : zh4 Try.prog 120 = true := by kernel_rfl
theorem zi9 : foO Try.prog 120 0 = (some 0) := by kernel_rfl
theorem zja : ftO Try.prog 120 0 = (some (0, (1, false))) := by kernel_rfl
theorem zw2 : plO Try.prog 120 0 = (some (0, 1)) := by kernel_rfl
theorem zmr : foO Try.prog 120 1 = (some 1) := by kernel_rfl
theorem zms : ftO Try.prog 120 1 = (some (1, (1, false))) := by kernel_rfl
theorem zw3 : plO Try.prog 120 1 = (some (1, 1)) := by kernel_rfl
theorem zw4 : foO Try.prog 120 2 = (some 2) := by kernel_rfl
theorem zw5 : ftO Try.prog 120 2 = (some (2, (1, false))) := by kernel_rfl
theorem zw6 : plO Try.prog 120 2 = (some (2, 1)) := by kernel_rfl
theorem zjb : foO Try.prog 120 3 = (some 3) := by kernel_rfl
theorem zjc : ftO Try.prog 120 3 = (some (3, (1, false))) := by kernel_rfl
theorem zw7 : plO Try.prog 120 3 = (some (3, 1)) := by kernel_rfl
theorem zga : szO Try.prog 125 = (some 3) := by kernel_rfl
theorem zgb : agO Try.prog 125 = (some true) := by kernel_rfl
theorem zhu : zcO Try.prog 125 = (some [(.val (.int .i64 0)), (.val (.int .i64 0)), (.val (.int .i64 0))]) := by kernel_rfl
theorem zhv : zaO Try.prog 125 = (some [(.val (.int .i64 0)), (.val (.int .i64 0)), (.val (.int .i64 0))]) := by kernel_rfl
theorem zo6 : zh4 Try.prog 125 = true := by kernel_rfl
theorem zez : foO Try.prog 125 0 = (some 0) := by kernel_rfl
theorem ze0 : ftO Try.prog 125 0 = (some (0, (1, false))) := by kernel_rfl
theorem zjd : plO Try.prog 125 0 = (some (0, 1)) := by kernel_rfl
theorem zgc : foO Try.prog 125 1 = (some 1) := by kernel_rfl
theorem zgd : ftO Try.prog 125 1 = (some (1, (1, false))) := by kernel_rfl
theorem zje : plO Try.prog 125 1 = (some (1, 1)) := by kernel_rfl
theorem zge : foO Try.prog 125 2 = (some 2) := by kernel_rfl
theorem zgf : ftO Try.prog 125 2 = (some (2, (1, false))) := by kernel_rfl
theorem zjf : plO Try.prog 125 2 = (some (2, 1)) := by kernel_rfl
theorem zw8 : szO Try.prog 127 = (some 1) := by kernel_rfl
theorem zw9 : agO Try.prog 127 = (some false) := by kernel_rfl
theorem zxa : zgt Try.prog 127 = (some (125, 3)) := by kernel_rfl
theorem zxb : zvO Try.prog 127 = (some (.d (.val (.map none)))) := by kernel_rfl
theorem zxc : szO Try.prog 128 = (some 1) := by kernel_rfl
theorem zxd : agO Try.prog 128 = (some false) := by kernel_rfl
theorem zxe : zgt Try.prog 128 = (some (132, 3)) := by kernel_rfl
theorem zxf : zvO Try.prog 128 = (some (.d (.val (.map none)))) := by kernel_rfl
theorem zj2 : szO Try.prog 130 = (some 3) := by kernel_rfl
theorem zj3 : agO Try.prog 130 = (some true) := by kernel_rfl
theorem ji8 : zcO Try.prog 130 = (some [(.val (.slice none 0 0)), (.val (.map none)), (.val (.map none))]) := by kernel_rfl
theorem ji9 : zaO Try.prog 130 = (some [(.val (.slice none 0 0)), (.val (.map none)), (.val (.map none))]) := by kernel_rfl
theorem jja : zh4 Try.prog 130 = true := by kernel_rfl
theorem zgg : foO Try.prog 130 0 = (some 0) := by kernel_rfl
theorem zgh : ftO Try.prog 130 0 = (some (0, (1, false))) := by kernel_rfl
theorem zxg : plO Try.prog 130 0 = (some (0, 1)) := by kernel_rfl
theorem zxh : foO Try.prog 130 1 = (some 1) := by kernel_rfl
theorem zxi : ftO Try.prog 130 1 = (some (1, (1, false))) := by kernel_rfl
theorem zxj : plO Try.prog 130 1 = (some (1, 1)) := by kernel_rfl
theorem zxk : foO Try.prog 130 2 = (some 2) := by kernel_rfl
theorem zxl : ftO Try.prog 130 2 = (some (2, (1, false))) := by kernel_rfl
theorem zxm : plO Try.prog 130 2 = (some (2, 1)) := by kernel_rfl
theorem jjb : szO Try.prog 132 = (some 3) := by kernel_rfl
theorem jjc : agO Try.prog 132 = (some true) := by kernel_rfl
theorem jjd : elO Try.prog 132 = (some ((some 3), (3, 1))) := by kernel_rfl
theorem jje : zcO Try.prog 132 = (some [(.val (.int .i64 0)), (.val (.int .i64 0)), (.val (.int .i64 0))]) := by kernel_rfl
theorem jjf : zaO Try.prog 132 = (some [(.val (.int .i64 0)), (.val (.int .i64 0)), (.val (.int .i64 0))]) := by kernel_rfl
theorem jjg : zh4 Try.prog 132 = true := by kernel_rfl
theorem zxn : plO Try.prog 132 0 = (some (0, 1)) := by kernel_rfl
theorem zxo : plO Try.prog 132 1 = (some (1, 1)) := by kernel_rfl
theorem zxp : plO Try.prog 132 2 = (some (2, 1)) := by kernel_rfl
theorem zxq : plO Try.prog 132 3 = (some (3, 1)) := by kernel_rfl
theorem zxr : plO Try.prog 132 4 = (some (4, 1)) := by kernel_rfl
theorem zxs : plO Try.prog 132 5 = (some (5, 1)) := by kernel_rfl
theorem zxt : plO Try.prog 132 6 = (some (6, 1)) := by kernel_rfl
theorem zxu : plO Try.prog 132 7 = (some (7, 1)) := by kernel_rfl
theorem zxv : plO Try.prog 132 8 = (some (8, 1)) := by kernel_rfl
theorem zxw : plO Try.prog 132 9 = (some (9, 1)) := by kernel_rfl
theorem zs2 : plO Try.prog 132 10 = (some (10, 1)) := by kernel_rfl
theorem zs3 : plO Try.prog 132 11 = (some (11, 1)) := by kernel_rfl
theorem jjh : szO Try.prog 134 = (some 1) := by kernel_rfl
theorem jji : agO Try.prog 134 = (some false) := by kernel_rfl
theorem jjj : zgt Try.prog 134 = (some (3, 4)) := by kernel_rfl
theorem jjk : zvO Try.prog 134 = (some (.d (.val (.map none)))) := by kernel_rfl
theorem ziq : laidOutB Try.prog = true := by kernel_rfl
theorem jti : Maps.Keyed Try.prog 3 := Maps.int_keyed (q := .i64) (by kernel_rfl)
theorem jpv : Maps.Keyed Try.prog 125 := .of_law (deep_law_laid ziq (m := 3) (by omega) (of_decide_eq_true (by kernel_rfl)) (by kernel_rfl) (by kernel_rfl))
theorem jpw : Maps.Keyed Try.prog 132 := .of_law (deep_law_laid ziq (m := 3) (by omega) (of_decide_eq_true (by kernel_rfl)) (by kernel_rfl) (by kernel_rfl))
def KT (k : TypeId) : Bool := k == 3 || k == 125 || k == 132
theorem zaj (k : TypeId) (h : KT k = true) : Maps.Keyed Try.prog k := by
 simp only [KT, Bool.or_eq_true, beq_iff_eq, or_assoc] at h
 rcases h with rfl | rfl | rfl
 ·exact jti
 ·exact jpv
 ·exact jpw
end Go.Proofs.Ytignimmnnccblaa
