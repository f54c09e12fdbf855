/- Facts of types, and of the settings. -/
import Derived.Test.YtignimmnnccblaaAR
import Derived.Test.YtignimmnnccblaaProg
import Derived.DeepKeys4
set_option linter.unusedVariables false
set_option linter.unusedSimpArgs false
namespace Go.Proofs.Ytignimmnnccblaa
open Go Go.RowKit
theorem mixed : Try.prog.follows .mixedOrders = true := by kernel_rfl
theorem zlz : szO Try.prog 0 = (some 1) := by kernel_rfl
theorem zl0 : agO Try.prog 0 = (some false) := by kernel_rfl
theorem zhq : szO Try.prog 1 = (some 1) := by kernel_rfl
theorem zhr : agO Try.prog 1 = (some false) := by kernel_rfl
theorem je4 : szO Try.prog 2 = (some 1) := by kernel_rfl
theorem je5 : agO Try.prog 2 = (some false) := by kernel_rfl
theorem zex : szO Try.prog 3 = (some 1) := by kernel_rfl
theorem zey : agO Try.prog 3 = (some false) := by kernel_rfl
theorem jmm : zcO Try.prog 3 = (some [(.val (.int .i64 0))]) := by kernel_rfl
theorem jmn : zaO Try.prog 3 = (some [(.val (.int .i64 0))]) := by kernel_rfl
theorem zfa : zjz Try.prog 3 = (some .i64) := by kernel_rfl
theorem zmk : szO Try.prog 4 = (some 1) := by kernel_rfl
theorem zml : agO Try.prog 4 = (some false) := by kernel_rfl
theorem zq4 : zjx Try.prog 4 = true := by kernel_rfl
theorem ji4 : szO Try.prog 5 = (some 1) := by kernel_rfl
theorem ji5 : agO Try.prog 5 = (some false) := by kernel_rfl
theorem jmo : zjz Try.prog 5 = (some .u8) := by kernel_rfl
theorem jsg : szO Try.prog 7 = (some 4) := by kernel_rfl
theorem jsh : agO Try.prog 7 = (some true) := by kernel_rfl
theorem jfv : szO Try.prog 22 = (some 1) := by kernel_rfl
theorem jfw : agO Try.prog 22 = (some false) := by kernel_rfl
theorem jfx : elO Try.prog 22 = (some (none, (5, 1))) := by kernel_rfl
theorem jfy : mkO Try.prog 22 = (some (1, ([(.val (.int .u8 0))], 1))) := by kernel_rfl
theorem jfz : szO Try.prog 23 = (some 1) := by kernel_rfl
theorem jf0 : agO Try.prog 23 = (some false) := by kernel_rfl
theorem jf1 : elO Try.prog 23 = (some (none, (99, 5))) := by kernel_rfl
theorem jf2 : mkO Try.prog 23 = (some (5, ([(.val (.int .u8 0)), (.val (.int .u8 0)), (.val (.int .u8 0)), (.val (.int .u8 0)), (.val (.int .u8 0))], 5))) := by kernel_rfl
theorem jf3 : szO Try.prog 24 = (some 1) := by kernel_rfl
theorem jf4 : agO Try.prog 24 = (some false) := by kernel_rfl
theorem jf5 : elO Try.prog 24 = (some (none, (27, 4))) := by kernel_rfl
theorem jf6 : mkO Try.prog 24 = (some (4, ([(.val (.int .u8 0)), (.val (.int .u8 0)), (.val (.int .u8 0)), (.val (.int .u8 0))], 4))) := by kernel_rfl
theorem zyw : szO Try.prog 26 = (some 3) := by kernel_rfl
theorem zyx : agO Try.prog 26 = (some true) := by kernel_rfl
theorem jpi : zcO Try.prog 26 = (some [(.val (.slice none 0 0)), (.val (.slice none 0 0)), (.val (.slice none 0 0))]) := by kernel_rfl
theorem jpj : zaO Try.prog 26 = (some [(.val (.slice none 0 0)), (.val (.slice none 0 0)), (.val (.slice none 0 0))]) := by kernel_rfl
theorem jpk : zia Try.prog 26 = true := by kernel_rfl
theorem zp6 : foO Try.prog 26 0 = (some 0) := by kernel_rfl
theorem zp7 : ftO Try.prog 26 0 = (some (0, (1, false))) := by kernel_rfl
theorem jcq : plO Try.prog 26 0 = (some (0, 1)) := by kernel_rfl
theorem zp8 : foO Try.prog 26 1 = (some 1) := by kernel_rfl
theorem zp9 : ftO Try.prog 26 1 = (some (1, (1, false))) := by kernel_rfl
theorem jcr : plO Try.prog 26 1 = (some (1, 1)) := by kernel_rfl
theorem zqa : foO Try.prog 26 2 = (some 2) := by kernel_rfl
theorem zqb : ftO Try.prog 26 2 = (some (2, (1, false))) := by kernel_rfl
theorem jcs : plO Try.prog 26 2 = (some (2, 1)) := by kernel_rfl
theorem zyy : szO Try.prog 27 = (some 4) := by kernel_rfl
theorem zyz : agO Try.prog 27 = (some true) := by kernel_rfl
theorem zy0 : elO Try.prog 27 = (some ((some 4), (5, 1))) := by kernel_rfl
theorem jpl : zcO Try.prog 27 = (some [(.val (.int .u8 0)), (.val (.int .u8 0)), (.val (.int .u8 0)), (.val (.int .u8 0))]) := by kernel_rfl
theorem jpm : zaO Try.prog 27 = (some [(.val (.int .u8 0)), (.val (.int .u8 0)), (.val (.int .u8 0)), (.val (.int .u8 0))]) := by kernel_rfl
theorem ze4 : szO Try.prog 29 = (some 1) := by kernel_rfl
theorem ze5 : agO Try.prog 29 = (some false) := by kernel_rfl
theorem ze6 : elO Try.prog 29 = (some (none, (70, 3))) := by kernel_rfl
theorem ze7 : mkO Try.prog 29 = (some (3, ([(.val (.int .i64 0)), (.val (.int .i64 0)), (.val (.int .i64 0))], 24))) := by kernel_rfl
theorem zfq : szO Try.prog 30 = (some 1) := by kernel_rfl
theorem zfr : agO Try.prog 30 = (some false) := by kernel_rfl
theorem zfs : elO Try.prog 30 = (some (none, (72, 5))) := by kernel_rfl
theorem zft : mkO Try.prog 30 = (some (5, ([(.val (.int .i64 0)), (.val (.int .i64 0)), (.val (.int .i64 0)), (.val (.int .i64 0)), (.val (.int .i64 0))], 40))) := by kernel_rfl
theorem zde : szO Try.prog 31 = (some 1) := by kernel_rfl
theorem zdf : agO Try.prog 31 = (some false) := by kernel_rfl
theorem zdg : elO Try.prog 31 = (some (none, (3, 1))) := by kernel_rfl
theorem zdq : mkO Try.prog 31 = (some (1, ([(.val (.int .i64 0))], 8))) := by kernel_rfl
theorem zds : szO Try.prog 33 = (some 4) := by kernel_rfl
theorem zdt : agO Try.prog 33 = (some true) := by kernel_rfl
theorem zhz : zcO Try.prog 33 = (some [(.val (.slice none 0 0)), (.val (.slice none 0 0)), (.val (.slice none 0 0)), (.val (.slice none 0 0))]) := by kernel_rfl
theorem zh0 : zaO Try.prog 33 = (some [(.val (.slice none 0 0)), (.val (.slice none 0 0)), (.val (.slice none 0 0)), (.val (.slice none 0 0))]) := by kernel_rfl
theorem zsj : zia Try.prog 33 = true := by kernel_rfl
theorem zcr : foO Try.prog 33 0 = (some 0) := by kernel_rfl
theorem zcs : ftO Try.prog 33 0 = (some (0, (1, false))) := by kernel_rfl
theorem zii : plO Try.prog 33 0 = (some (0, 1)) := by kernel_rfl
theorem zc6 : foO Try.prog 33 1 = (some 1) := by kernel_rfl
theorem zc7 : ftO Try.prog 33 1 = (some (1, (1, false))) := by kernel_rfl
theorem zij : plO Try.prog 33 1 = (some (1, 1)) := by kernel_rfl
theorem zgu : foO Try.prog 33 2 = (some 2) := by kernel_rfl
theorem zgv : ftO Try.prog 33 2 = (some (2, (1, false))) := by kernel_rfl
theorem zik : plO Try.prog 33 2 = (some (2, 1)) := by kernel_rfl
theorem zfc : foO Try.prog 33 3 = (some 3) := by kernel_rfl
theorem zfd : ftO Try.prog 33 3 = (some (3, (1, false))) := by kernel_rfl
theorem zil : plO Try.prog 33 3 = (some (3, 1)) := by kernel_rfl
theorem zfu : szO Try.prog 36 = (some 1) := by kernel_rfl
theorem zfv : agO Try.prog 36 = (some false) := by kernel_rfl
theorem zfw : elO Try.prog 36 = (some (none, (50, 2))) := by kernel_rfl
theorem zfx : mkO Try.prog 36 = (some (2, ([(.val (.int .i64 0)), (.val (.int .i64 0))], 16))) := by kernel_rfl
theorem jf7 : szO Try.prog 38 = (some 3) := by kernel_rfl
theorem jf8 : agO Try.prog 38 = (some true) := by kernel_rfl
theorem jf9 : elO Try.prog 38 = (some ((some 3), (5, 1))) := by kernel_rfl
theorem jpn : zcO Try.prog 38 = (some [(.val (.int .u8 0)), (.val (.int .u8 0)), (.val (.int .u8 0))]) := by kernel_rfl
theorem jpo : zaO Try.prog 38 = (some [(.val (.int .u8 0)), (.val (.int .u8 0)), (.val (.int .u8 0))]) := by kernel_rfl
theorem jpp : zia Try.prog 38 = true := by kernel_rfl
theorem jct : plO Try.prog 38 0 = (some (0, 1)) := by kernel_rfl
theorem jcu : plO Try.prog 38 1 = (some (1, 1)) := by kernel_rfl
theorem jcv : plO Try.prog 38 2 = (some (2, 1)) := by kernel_rfl
theorem jcw : plO Try.prog 38 3 = (some (3, 1)) := by kernel_rfl
theorem jcx : plO Try.prog 38 4 = (some (4, 1)) := by kernel_rfl
theorem jcy : plO Try.prog 38 5 = (some (5, 1)) := by kernel_rfl
theorem jcz : plO Try.prog 38 6 = (some (6, 1)) := by kernel_rfl
theorem jc0 : plO Try.prog 38 7 = (some (7, 1)) := by kernel_rfl
theorem jc1 : plO Try.prog 38 8 = (some (8, 1)) := by kernel_rfl
theorem jc2 : plO Try.prog 38 9 = (some (9, 1)) := by kernel_rfl
theorem zwp : plO Try.prog 38 10 = (some (10, 1)) := by kernel_rfl
theorem zwq : plO Try.prog 38 11 = (some (11, 1)) := by kernel_rfl
theorem zkk : szO Try.prog 39 = (some 1) := by kernel_rfl
theorem zkl : agO Try.prog 39 = (some false) := by kernel_rfl
theorem zkm : elO Try.prog 39 = (some (none, (4, 1))) := by kernel_rfl
theorem zkn : mkO Try.prog 39 = (some (1, ([(.val (.bool false))], 1))) := by kernel_rfl
theorem zko : szO Try.prog 40 = (some 1) := by kernel_rfl
theorem zkp : agO Try.prog 40 = (some false) := by kernel_rfl
theorem zkq : zjz Try.prog 40 = (some .i64) := by kernel_rfl
theorem zsk : szO Try.prog 42 = (some 3) := by kernel_rfl
theorem zsl : agO Try.prog 42 = (some true) := by kernel_rfl
theorem zy1 : zcO Try.prog 42 = (some [(.val (.bool false)), (.val (.slice none 0 0)), (.val (.int .i64 0))]) := by kernel_rfl
theorem zy2 : zaO Try.prog 42 = (some [(.val (.bool false)), (.val (.slice none 0 0)), (.val (.int .i64 0))]) := by kernel_rfl
theorem zy3 : zia Try.prog 42 = true := by kernel_rfl
theorem jc3 : foO Try.prog 42 0 = (some 0) := by kernel_rfl
theorem jc4 : ftO Try.prog 42 0 = (some (0, (1, false))) := by kernel_rfl
theorem zlg : plO Try.prog 42 0 = (some (0, 1)) := by kernel_rfl
theorem jc5 : foO Try.prog 42 1 = (some 1) := by kernel_rfl
theorem jc6 : ftO Try.prog 42 1 = (some (1, (1, false))) := by kernel_rfl
theorem zlh : plO Try.prog 42 1 = (some (1, 1)) := by kernel_rfl
theorem zqc : foO Try.prog 42 2 = (some 2) := by kernel_rfl
theorem zqd : ftO Try.prog 42 2 = (some (2, (1, false))) := by kernel_rfl
theorem zli : plO Try.prog 42 2 = (some (2, 1)) := by kernel_rfl
theorem zkr : szO Try.prog 50 = (some 2) := by kernel_rfl
theorem zks : agO Try.prog 50 = (some true) := by kernel_rfl
theorem zkt : elO Try.prog 50 = (some ((some 2), (3, 1))) := by kernel_rfl
theorem zy4 : zcO Try.prog 50 = (some [(.val (.int .i64 0)), (.val (.int .i64 0))]) := by kernel_rfl
theorem zy5 : zaO Try.prog 50 = (some [(.val (.int .i64 0)), (.val (.int .i64 0))]) := by kernel_rfl
theorem jpq : zia Try.prog 50 = true := by kernel_rfl
theorem jc7 : plO Try.prog 50 0 = (some (0, 1)) := by kernel_rfl
theorem jc8 : plO Try.prog 50 1 = (some (1, 1)) := by kernel_rfl
theorem jc9 : plO Try.prog 50 2 = (some (2, 1)) := by kernel_rfl
theorem jda : plO Try.prog 50 3 = (some (3, 1)) := by kernel_rfl
theorem jdb : plO Try.prog 50 4 = (some (4, 1)) := by kernel_rfl
theorem jdc : plO Try.prog 50 5 = (some (5, 1)) := by kernel_rfl
theorem jdd : plO Try.prog 50 6 = (some (6, 1)) := by kernel_rfl
theorem jde : plO Try.prog 50 7 = (some (7, 1)) := by kernel_rfl
theorem jdf : plO Try.prog 50 8 = (some (8, 1)) := by kernel_rfl
theorem jdg : plO Try.prog 50 9 = (some (9, 1)) := by kernel_rfl
theorem zwr : plO Try.prog 50 10 = (some (10, 1)) := by kernel_rfl
theorem zws : plO Try.prog 50 11 = (some (11, 1)) := by kernel_rfl
theorem jdh : szO Try.prog 52 = (some 2) := by kernel_rfl
theorem jdi : agO Try.prog 52 = (some true) := by kernel_rfl
theorem jga : zcO Try.prog 52 = (some [(.val (.slice none 0 0)), (.val (.int .i64 0))]) := by kernel_rfl
theorem jgb : zaO Try.prog 52 = (some [(.val (.slice none 0 0)), (.val (.int .i64 0))]) := by kernel_rfl
theorem jpr : zia Try.prog 52 = true := by kernel_rfl
theorem jdj : foO Try.prog 52 0 = (some 0) := by kernel_rfl
theorem jdk : ftO Try.prog 52 0 = (some (0, (1, false))) := by kernel_rfl
theorem jdl : plO Try.prog 52 0 = (some (0, 1)) := by kernel_rfl
theorem jdm : foO Try.prog 52 1 = (some 1) := by kernel_rfl
theorem jdn : ftO Try.prog 52 1 = (some (1, (1, false))) := by kernel_rfl
theorem jdo : plO Try.prog 52 1 = (some (1, 1)) := by kernel_rfl
theorem jps : szO Try.prog 55 = (some 1) := by kernel_rfl
theorem jpt : agO Try.prog 55 = (some false) := by kernel_rfl
theorem jpu : elO Try.prog 55 = (some (none, (39, 1))) := by kernel_rfl
theorem jpv : mkO Try.prog 55 = (some (1, ([(.val (.slice none 0 0))], 24))) := by kernel_rfl
theorem jpw : szO Try.prog 56 = (some 1) := by kernel_rfl
theorem jpx : agO Try.prog 56 = (some false) := by kernel_rfl
theorem jpy : zjz Try.prog 56 = (some .u64) := by kernel_rfl
theorem zsn : szO Try.prog 60 = (some 1) := by kernel_rfl
theorem zso : agO Try.prog 60 = (some false) := by kernel_rfl
theorem zsp : elO Try.prog 60 = (some (none, (31, 1))) := by kernel_rfl
theorem zsq : mkO Try.prog 60 = (some (1, ([(.val (.slice none 0 0))], 24))) := by kernel_rfl
theorem zt1 : szO Try.prog 65 = (some 5) := by kernel_rfl
theorem zt2 : agO Try.prog 65 = (some true) := by kernel_rfl
theorem zy6 : zcO Try.prog 65 = (some [(.val (.slice none 0 0)), (.val (.slice none 0 0)), (.val (.slice none 0 0)), (.val (.slice none 0 0)), (.val (.int .i64 0))]) := by kernel_rfl
theorem zy7 : zaO Try.prog 65 = (some [(.val (.slice none 0 0)), (.val (.slice none 0 0)), (.val (.slice none 0 0)), (.val (.slice none 0 0)), (.val (.int .i64 0))]) := by kernel_rfl
theorem jpz : zia Try.prog 65 = true := by kernel_rfl
theorem zqe : foO Try.prog 65 0 = (some 0) := by kernel_rfl
theorem zqf : ftO Try.prog 65 0 = (some (0, (4, true))) := by kernel_rfl
theorem jdp : plO Try.prog 65 0 = (some (0, 4)) := by kernel_rfl
theorem zqg : foO Try.prog 65 1 = (some 4) := by kernel_rfl
theorem zqh : ftO Try.prog 65 1 = (some (4, (1, false))) := by kernel_rfl
theorem jdq : plO Try.prog 65 1 = (some (4, 1)) := by kernel_rfl
theorem zn0 : szO Try.prog 70 = (some 3) := by kernel_rfl
theorem zn1 : agO Try.prog 70 = (some true) := by kernel_rfl
theorem zsr : zcO Try.prog 70 = (some [(.val (.int .i64 0)), (.val (.int .i64 0)), (.val (.int .i64 0))]) := by kernel_rfl
theorem zss : zaO Try.prog 70 = (some [(.val (.int .i64 0)), (.val (.int .i64 0)), (.val (.int .i64 0))]) := by kernel_rfl
theorem zy8 : zia Try.prog 70 = true := by kernel_rfl
theorem jgc : jmz Try.prog 70 = (some [0, 1, 2]) := by kernel_rfl
theorem zqi : foO Try.prog 70 0 = (some 0) := by kernel_rfl
theorem zqj : ftO Try.prog 70 0 = (some (0, (1, false))) := by kernel_rfl
theorem zlj : plO Try.prog 70 0 = (some (0, 1)) := by kernel_rfl
theorem jdr : foO Try.prog 70 1 = (some 1) := by kernel_rfl
theorem jds : ftO Try.prog 70 1 = (some (1, (1, false))) := by kernel_rfl
theorem zlk : plO Try.prog 70 1 = (some (1, 1)) := by kernel_rfl
theorem zqk : foO Try.prog 70 2 = (some 2) := by kernel_rfl
theorem zql : ftO Try.prog 70 2 = (some (2, (1, false))) := by kernel_rfl
theorem zll : plO Try.prog 70 2 = (some (2, 1)) := by kernel_rfl
theorem zh1 : szO Try.prog 72 = (some 5) := by kernel_rfl
theorem zh2 : agO Try.prog 72 = (some true) := by kernel_rfl
theorem zku : zcO Try.prog 72 = (some [(.val (.int .i64 0)), (.val (.int .i64 0)), (.val (.int .i64 0)), (.val (.int .i64 0)), (.val (.int .i64 0))]) := by kernel_rfl
theorem zkv : zaO Try.prog 72 = (some [(.val (.int .i64 0)), (.val (.int .i64 0)), (.val (.int .i64 0)), (.val (.int .i64 0)), (.val (.int .i64 0))]) := by kernel_rfl
theorem zst : zia Try.prog 72 = true := by kernel_rfl
theorem zgw : foO Try.prog 72 0 = (some 0) := by kernel_rfl
theorem zgx : ftO Try.prog 72 0 = (some (0, (1, false))) := by kernel_rfl
theorem zim : plO Try.prog 72 0 = (some (0, 1)) := by kernel_rfl
theorem zfe : foO Try.prog 72 1 = (some 1) := by kernel_rfl
theorem zff : ftO Try.prog 72 1 = (some (1, (1, false))) := by kernel_rfl
theorem zin : plO Try.prog 72 1 = (some (1, 1)) := by kernel_rfl
theorem zfg : foO Try.prog 72 2 = (some 2) := by kernel_rfl
theorem zfh : ftO Try.prog 72 2 = (some (2, (1, false))) := by kernel_rfl
theorem zio : plO Try.prog 72 2 = (some (2, 1)) := by kernel_rfl
theorem zfi : foO Try.prog 72 3 = (some 3) := by kernel_rfl
theorem zfj : ftO Try.prog 72 3 = (some (3, (1, false))) := by kernel_rfl
theorem ziq : plO Try.prog 72 3 = (some (3, 1)) := by kernel_rfl
theorem zir : foO Try.prog 72 4 = (some 4) := by kernel_rfl
theorem zis : ftO Try.prog 72 4 = (some (4, (1, false))) := by kernel_rfl
theorem zit : plO Try.prog 72 4 = (some (4, 1)) := by kernel_rfl
theorem jp0 : szO Try.prog 79 = (some 1) := by kernel_rfl
theorem jp1 : agO Try.prog 79 = (some false) := by kernel_rfl
theorem jp2 : szO Try.prog 81 = (some 2) := by kernel_rfl
theorem jp3 : agO Try.prog 81 = (some true) := by kernel_rfl
theorem jdt : foO Try.prog 81 1 = (some 1) := by kernel_rfl
theorem jdu : ftO Try.prog 81 1 = (some (1, (1, false))) := by kernel_rfl
theorem jp4 : szO Try.prog 82 = (some 12) := by kernel_rfl
theorem jp5 : agO Try.prog 82 = (some true) := by kernel_rfl
theorem jp6 : elO Try.prog 82 = (some ((some 6), (81, 2))) := by kernel_rfl
theorem jp7 : zcO Try.prog 82 = (some [(.val (.int .i64 0)), (.val .nilFunc), (.val (.int .i64 0)), (.val .nilFunc), (.val (.int .i64 0)), (.val .nilFunc), (.val (.int .i64 0)), (.val .nilFunc), (.val (.int .i64 0)), (.val .nilFunc), (.val (.int .i64 0)), (.val .nilFunc)]) := by kernel_rfl
theorem jp8 : zaO Try.prog 82 = (some [(.val (.int .i64 0)), (.val .nilFunc), (.val (.int .i64 0)), (.val .nilFunc), (.val (.int .i64 0)), (.val .nilFunc), (.val (.int .i64 0)), (.val .nilFunc), (.val (.int .i64 0)), (.val .nilFunc), (.val (.int .i64 0)), (.val .nilFunc)]) := by kernel_rfl
theorem jp9 : szO Try.prog 87 = (some 1) := by kernel_rfl
theorem jqa : agO Try.prog 87 = (some false) := by kernel_rfl
theorem jqb : elO Try.prog 87 = (some (none, (81, 2))) := by kernel_rfl
theorem jqc : mkO Try.prog 87 = (some (2, ([(.val (.int .i64 0)), (.val .nilFunc)], 16))) := by kernel_rfl
theorem jqd : szO Try.prog 88 = (some 1) := by kernel_rfl
theorem jqe : agO Try.prog 88 = (some false) := by kernel_rfl
theorem zy9 : szO Try.prog 95 = (some 1) := by kernel_rfl
theorem zza : agO Try.prog 95 = (some false) := by kernel_rfl
theorem jgd : szO Try.prog 97 = (some 1) := by kernel_rfl
theorem jge : agO Try.prog 97 = (some false) := by kernel_rfl
theorem jqf : zcO Try.prog 97 = (some [(.val .nilFunc)]) := by kernel_rfl
theorem jqg : zaO Try.prog 97 = (some [(.val .nilFunc)]) := by kernel_rfl
theorem jqh : szO Try.prog 99 = (some 5) := by kernel_rfl
theorem jqi : agO Try.prog 99 = (some true) := by kernel_rfl
theorem jqj : elO Try.prog 99 = (some ((some 5), (5, 1))) := by kernel_rfl
theorem jqk : zcO Try.prog 99 = (some [(.val (.int .u8 0)), (.val (.int .u8 0)), (.val (.int .u8 0)), (.val (.int .u8 0)), (.val (.int .u8 0))]) := by kernel_rfl
theorem jql : zaO Try.prog 99 = (some [(.val (.int .u8 0)), (.val (.int .u8 0)), (.val (.int .u8 0)), (.val (.int .u8 0)), (.val (.int .u8 0))]) := by kernel_rfl
theorem zgf : szO Try.prog 102 = (some 1) := by kernel_rfl
theorem zgg : agO Try.prog 102 = (some false) := by kernel_rfl
theorem zgh : elO Try.prog 102 = (some (none, (125, 3))) := by kernel_rfl
theorem zjs : mkO Try.prog 102 = (some (3, ([(.val (.int .i64 0)), (.val (.int .i64 0)), (.val (.int .i64 0))], 24))) := by kernel_rfl
theorem zeg : szO Try.prog 104 = (some 2) := by kernel_rfl
theorem zeh : agO Try.prog 104 = (some true) := by kernel_rfl
theorem zjt : zcO Try.prog 104 = (some [(.val (.slice none 0 0)), (.val (.slice none 0 0))]) := by kernel_rfl
theorem zju : zaO Try.prog 104 = (some [(.val (.slice none 0 0)), (.val (.slice none 0 0))]) := by kernel_rfl
theorem ji6 : zia Try.prog 104 = true := by kernel_rfl
theorem zgi : foO Try.prog 104 0 = (some 0) := by kernel_rfl
theorem zgj : ftO Try.prog 104 0 = (some (0, (1, false))) := by kernel_rfl
theorem zwt : plO Try.prog 104 0 = (some (0, 1)) := by kernel_rfl
theorem zi8 : foO Try.prog 104 1 = (some 1) := by kernel_rfl
theorem zi9 : ftO Try.prog 104 1 = (some (1, (1, false))) := by kernel_rfl
theorem zwu : plO Try.prog 104 1 = (some (1, 1)) := by kernel_rfl
theorem zou : szO Try.prog 109 = (some 1) := by kernel_rfl
theorem zov : agO Try.prog 109 = (some false) := by kernel_rfl
theorem ji7 : zcO Try.prog 109 = (some [(.val (.map none))]) := by kernel_rfl
theorem zow : zg0 Try.prog 109 = (some (3, 3)) := by kernel_rfl
theorem zox : zvO Try.prog 109 = (some (.d (.val (.map none)))) := by kernel_rfl
theorem ji8 : zaO Try.prog 109 = (some [(.val (.map none))]) := by kernel_rfl
theorem zwv : szO Try.prog 114 = (some 1) := by kernel_rfl
theorem zww : agO Try.prog 114 = (some false) := by kernel_rfl
theorem zwx : szO Try.prog 116 = (some 1) := by kernel_rfl
theorem zwy : agO Try.prog 116 = (some false) := by kernel_rfl
theorem zhs : szO Try.prog 117 = (some 1) := by kernel_rfl
theorem zht : agO Try.prog 117 = (some false) := by kernel_rfl
theorem zoy : szO Try.prog 120 = (some 4) := by kernel_rfl
theorem zoz : agO Try.prog 120 = (some true) := by kernel_rfl
theorem ji9 : zcO Try.prog 120 = (some [(.val (.pointer none)), (.val (.slice none 0 0)), (.val (.slice none 0 0)), (.val (.slice none 0 0))]) := by kernel_rfl
theorem jja : zaO Try.prog 120 = (some [(.val (.pointer none)), (.val (.slice none 0 0)), (.val (.slice none 0 0)), (.val (.slice none 0 0))]) := by kernel_rfl
theorem jjb : zia Try.prog 120 = true := by kernel_rfl
theorem zja : foO Try.prog 120 0 = (some 0) := by kernel_rfl
theorem zjb : ftO Try.prog 120 0 = (some (0, (1, false))) := by kernel_rfl
theorem zwz : plO Try.prog 120 0 = (some (0, 1)) := by kernel_rfl
theorem zmm : foO Try.prog 120 1 = (some 1) := by kernel_rfl
theorem zmn : ftO Try.prog 120 1 = (some (1, (1, false))) := by kernel_rfl
theorem zw0 : plO Try.prog 120 1 = (some (1, 1)) := by kernel_rfl
theorem zw1 : foO Try.prog 120 2 = (some 2) := by kernel_rfl
theorem zw2 : ftO Try.prog 120 2 = (some (2, (1, false))) := by kernel_rfl
theorem zw3 : plO Try.prog 120 2 = (some (2, 1)) := by kernel_rfl
theorem zjc : foO Try.prog 120 3 = (some 3) := by kernel_rfl
theorem zjd : ftO Try.prog 120 3 = (some (3, (1, false))) := by kernel_rfl
theorem zw4 : plO Try.prog 120 3 = (some (3, 1)) := by kernel_rfl
theorem zgk : szO Try.prog 125 = (some 3) := by kernel_rfl
theorem zgl : agO Try.prog 125 = (some true) := by kernel_rfl
theorem zhu : zcO Try.prog 125 = (some [(.val (.int .i64 0)), (.val (.int .i64 0)), (.val (.int .i64 0))]) := by kernel_rfl
theorem zhv : zaO Try.prog 125 = (some [(.val (.int .i64 0)), (.val (.int .i64 0)), (.val (.int .i64 0))]) := by kernel_rfl
theorem zo0 : zia Try.prog 125 = true := by kernel_rfl
theorem zez : foO Try.prog 125 0 = (some 0) := by kernel_rfl
theorem ze0 : ftO Try.prog 125 0 = (some (0, (1, false))) := by kernel_rfl
theorem zje : plO Try.prog 125 0 = (some (0, 1)) := by kernel_rfl
theorem zgm : foO Try.prog 125 1 = (some 1) := by kernel_rfl
theorem zgn : ftO Try.prog 125 1 = (some (1, (1, false))) := by kernel_rfl
theorem zjf : plO Try.prog 125 1 = (some (1, 1)) := by kernel_rfl
theorem zgo : foO Try.prog 125 2 = (some 2) := by kernel_rfl
theorem zgp : ftO Try.prog 125 2 = (some (2, (1, false))) := by kernel_rfl
theorem zjg : plO Try.prog 125 2 = (some (2, 1)) := by kernel_rfl
theorem zw5 : szO Try.prog 127 = (some 1) := by kernel_rfl
theorem zw6 : agO Try.prog 127 = (some false) := by kernel_rfl
theorem zw7 : zg0 Try.prog 127 = (some (125, 3)) := by kernel_rfl
theorem zw8 : zvO Try.prog 127 = (some (.d (.val (.map none)))) := by kernel_rfl
theorem zw9 : szO Try.prog 128 = (some 1) := by kernel_rfl
theorem zxa : agO Try.prog 128 = (some false) := by kernel_rfl
theorem zxb : zg0 Try.prog 128 = (some (132, 3)) := by kernel_rfl
theorem zxc : zvO Try.prog 128 = (some (.d (.val (.map none)))) := by kernel_rfl
theorem zjv : szO Try.prog 130 = (some 3) := by kernel_rfl
theorem zjw : agO Try.prog 130 = (some true) := by kernel_rfl
theorem jjc : zcO Try.prog 130 = (some [(.val (.slice none 0 0)), (.val (.map none)), (.val (.map none))]) := by kernel_rfl
theorem jjd : zaO Try.prog 130 = (some [(.val (.slice none 0 0)), (.val (.map none)), (.val (.map none))]) := by kernel_rfl
theorem jje : zia Try.prog 130 = true := by kernel_rfl
theorem zgq : foO Try.prog 130 0 = (some 0) := by kernel_rfl
theorem zgr : ftO Try.prog 130 0 = (some (0, (1, false))) := by kernel_rfl
theorem zxd : plO Try.prog 130 0 = (some (0, 1)) := by kernel_rfl
theorem zxe : foO Try.prog 130 1 = (some 1) := by kernel_rfl
theorem zxf : ftO Try.prog 130 1 = (some (1, (1, false))) := by kernel_rfl
theorem zxg : plO Try.prog 130 1 = (some (1, 1)) := by kernel_rfl
theorem zxh : foO Try.prog 130 2 = (some 2) := by kernel_rfl
theorem zxi : ftO Try.prog 130 2 = (some (2, (1, false))) := by kernel_rfl
theorem zxj : plO Try.prog 130 2 = (some (2, 1)) := by kernel_rfl
theorem jjf : szO Try.prog 132 = (some 3) := by kernel_rfl
theorem jjg : agO Try.prog 132 = (some true) := by kernel_rfl
theorem jjh : elO Try.prog 132 = (some ((some 3), (3, 1))) := by kernel_rfl
theorem jji : zcO Try.prog 132 = (some [(.val (.int .i64 0)), (.val (.int .i64 0)), (.val (.int .i64 0))]) := by kernel_rfl
theorem jjj : zaO Try.prog 132 = (some [(.val (.int .i64 0)), (.val (.int .i64 0)), (.val (.int .i64 0))]) := by kernel_rfl
theorem jjk : zia Try.prog 132 = true := by kernel_rfl
theorem zxk : plO Try.prog 132 0 = (some (0, 1)) := by kernel_rfl
theorem zxl : plO Try.prog 132 1 = (some (1, 1)) := by kernel_rfl
theorem zxm : plO Try.prog 132 2 = (some (2, 1)) := by kernel_rfl
theorem zxn : plO Try.prog 132 3 = (some (3, 1)) := by kernel_rfl
theorem zxo : plO Try.prog 132 4 = (some (4, 1)) := by kernel_rfl
theorem zxp : plO Try.prog 132 5 = (some (5, 1)) := by kernel_rfl
theorem zxq : plO Try.prog 132 6 = (some (6, 1)) := by kernel_rfl
theorem zxr : plO Try.prog 132 7 = (some (7, 1)) := by kernel_rfl
theorem zxs : plO Try.prog 132 8 = (some (8, 1)) := by kernel_rfl
theorem zxt : plO Try.prog 132 9 = (some (9, 1)) := by kernel_rfl
theorem zsu : plO Try.prog 132 10 = (some (10, 1)) := by kernel_rfl
theorem zsv : plO Try.prog 132 11 = (some (11, 1)) := by kernel_rfl
theorem jjl : szO Try.prog 134 = (some 1) := by kernel_rfl
theorem jjm : agO Try.prog 134 = (some false) := by kernel_rfl
theorem jjn : zg0 Try.prog 134 = (some (3, 4)) := by kernel_rfl
theorem jjo : zvO Try.prog 134 = (some (.d (.val (.map none)))) := by kernel_rfl
theorem zni : laidOutB Try.prog = true := by kernel_rfl
theorem jub : Maps.Keyed Try.prog 3 := Maps.int_keyed (q := .i64) (by kernel_rfl)
theorem jqm : Maps.Keyed Try.prog 125 := .of_law (deep_law_laid zni (m := 3) (by omega) (of_decide_eq_true (by kernel_rfl)) (by kernel_rfl) (by kernel_rfl))
theorem jqn : Maps.Keyed Try.prog 132 := .of_law (deep_law_laid zni (m := 3) (by omega) (of_decide_eq_true (by kernel_rfl)) (by kernel_rfl) (by kernel_rfl))
def KT (k : TypeId) : Bool := k == 3 || k == 125 || k == 132
theorem zaj (k : TypeId) (h : KT k = true) : Maps.Keyed Try.prog k := by
 simp only [KT, Bool.or_eq_true, beq_iff_eq, or_assoc] at h
 rcases h with rfl | rfl | rfl
 ·exact jub
 ·exact jqm
 ·exact jqn
end Go.Proofs.Ytignimmnnccblaa
