/- Facts of types, and of the settings. -/
import Derived.Test.YtapjobndmmkanaaAR
import Derived.Test.YtapjobndmmkanaaProg
import Derived.DeepKeys4
set_option linter.unusedVariables false
set_option linter.unusedSimpArgs false
namespace Go.Proofs.Ytapjobndmmkanaa
open Go Go.RowKit
theorem mixed : Try.prog.follows .mixedOrders = true := by kernel_rfl
theorem zew : szO Try.prog 3 = (some 1) := by kernel_rfl
theorem zex : agO Try.prog 3 = (some false) := by kernel_rfl
theorem jsq : zaO Try.prog 3 = (some [(.val (.int .i64 0))]) := by kernel_rfl
theorem jir : zkm Try.prog 3 = (some .i64) := by kernel_rfl
theorem ye3 : szO Try.prog 4 = (some 1) := by kernel_rfl
theorem ye4 : agO Try.prog 4 = (some false) := by kernel_rfl
theorem ye5 : zll Try.prog 4 = true := by kernel_rfl
theorem jnb : szO Try.prog 5 = (some 1) := by kernel_rfl
theorem jnc : agO Try.prog 5 = (some false) := by kernel_rfl
theorem jnd : zkm Try.prog 5 = (some .u8) := by kernel_rfl
theorem ye6 : szO Try.prog 9 = (some 1) := by kernel_rfl
theorem ye7 : agO Try.prog 9 = (some false) := by kernel_rfl
theorem jjk : szO Try.prog 22 = (some 1) := by kernel_rfl
theorem jjl : agO Try.prog 22 = (some false) := by kernel_rfl
theorem jjm : elO Try.prog 22 = (some (none, (5, 1))) := by kernel_rfl
theorem zph : szO Try.prog 24 = (some 1) := by kernel_rfl
theorem zto : agO Try.prog 24 = (some true) := by kernel_rfl
theorem jfk : foO Try.prog 24 0 = (some 0) := by kernel_rfl
theorem jvl : szO Try.prog 28 = (some 3) := by kernel_rfl
theorem zd1 : szO Try.prog 29 = (some 1) := by kernel_rfl
theorem zey : agO Try.prog 29 = (some false) := by kernel_rfl
theorem zc2 : elO Try.prog 29 = (some (none, (3, 1))) := by kernel_rfl
theorem zee : mkO Try.prog 29 = (some (1, ([(.val (.int .i64 0))], 8))) := by kernel_rfl
theorem jvm : zaO Try.prog 29 = (some [(.val (.slice none 0 0))]) := by kernel_rfl
theorem jbk : szO Try.prog 30 = (some 1) := by kernel_rfl
theorem jbl : agO Try.prog 30 = (some false) := by kernel_rfl
theorem jbm : elO Try.prog 30 = (some (none, (29, 1))) := by kernel_rfl
theorem jjn : mkO Try.prog 30 = (some (1, ([(.val (.slice none 0 0))], 24))) := by kernel_rfl
theorem jvn : zaO Try.prog 30 = (some [(.val (.slice none 0 0))]) := by kernel_rfl
theorem zf0 : szO Try.prog 43 = (some 1) := by kernel_rfl
theorem zf1 : agO Try.prog 43 = (some false) := by kernel_rfl
theorem zg7 : elO Try.prog 43 = (some (none, (71, 3))) := by kernel_rfl
theorem jbn : mkO Try.prog 43 = (some (3, ([(.val (.int .i64 0)), (.val (.int .i64 0)), (.val (.int .i64 0))], 24))) := by kernel_rfl
theorem zh0 : szO Try.prog 44 = (some 1) := by kernel_rfl
theorem zh1 : agO Try.prog 44 = (some false) := by kernel_rfl
theorem zh2 : elO Try.prog 44 = (some (none, (95, 5))) := by kernel_rfl
theorem jbo : mkO Try.prog 44 = (some (5, ([(.val (.int .i64 0)), (.val (.int .i64 0)), (.val (.int .i64 0)), (.val (.int .i64 0)), (.val (.int .i64 0))], 40))) := by kernel_rfl
theorem zfr : szO Try.prog 46 = (some 4) := by kernel_rfl
theorem zkh : agO Try.prog 46 = (some true) := by kernel_rfl
theorem jjo : zcO Try.prog 46 = (some [(.val (.slice none 0 0)), (.val (.slice none 0 0)), (.val (.slice none 0 0)), (.val (.slice none 0 0))]) := by kernel_rfl
theorem zpi : zaO Try.prog 46 = (some [(.val (.slice none 0 0)), (.val (.slice none 0 0)), (.val (.slice none 0 0)), (.val (.slice none 0 0))]) := by kernel_rfl
theorem jjp : zgo Try.prog 46 = true := by kernel_rfl
theorem zcq : foO Try.prog 46 0 = (some 0) := by kernel_rfl
theorem jfl : plO Try.prog 46 0 = (some (0, 1)) := by kernel_rfl
theorem zc7 : foO Try.prog 46 1 = (some 1) := by kernel_rfl
theorem jfm : plO Try.prog 46 1 = (some (1, 1)) := by kernel_rfl
theorem zgr : foO Try.prog 46 2 = (some 2) := by kernel_rfl
theorem jfn : plO Try.prog 46 2 = (some (2, 1)) := by kernel_rfl
theorem ze9 : foO Try.prog 46 3 = (some 3) := by kernel_rfl
theorem jfo : plO Try.prog 46 3 = (some (3, 1)) := by kernel_rfl
theorem jjq : elO Try.prog 51 = (some ((some 2), (3, 1))) := by kernel_rfl
theorem ztp : zcO Try.prog 51 = (some [(.val (.int .i64 0)), (.val (.int .i64 0))]) := by kernel_rfl
theorem ztq : zgo Try.prog 51 = true := by kernel_rfl
theorem zik : plO Try.prog 51 0 = (some (0, 1)) := by kernel_rfl
theorem zil : plO Try.prog 51 1 = (some (1, 1)) := by kernel_rfl
theorem ztr : szO Try.prog 71 = (some 3) := by kernel_rfl
theorem jbp : agO Try.prog 71 = (some true) := by kernel_rfl
theorem zmp : zcO Try.prog 71 = (some [(.val (.int .i64 0)), (.val (.int .i64 0)), (.val (.int .i64 0))]) := by kernel_rfl
theorem jbq : zaO Try.prog 71 = (some [(.val (.int .i64 0)), (.val (.int .i64 0)), (.val (.int .i64 0))]) := by kernel_rfl
theorem zmq : zgo Try.prog 71 = true := by kernel_rfl
theorem jvo : jsl Try.prog 71 = (some [(0, false), (1, false), (2, false)]) := by kernel_rfl
theorem jfp : foO Try.prog 71 0 = (some 0) := by kernel_rfl
theorem zfa : plO Try.prog 71 0 = (some (0, 1)) := by kernel_rfl
theorem jfq : foO Try.prog 71 1 = (some 1) := by kernel_rfl
theorem zgs : plO Try.prog 71 1 = (some (1, 1)) := by kernel_rfl
theorem jfr : foO Try.prog 71 2 = (some 2) := by kernel_rfl
theorem zgt : plO Try.prog 71 2 = (some (2, 1)) := by kernel_rfl
theorem jjr : elO Try.prog 75 = (some ((some 2), (5, 1))) := by kernel_rfl
theorem zjp : szO Try.prog 76 = (some 1) := by kernel_rfl
theorem zjq : agO Try.prog 76 = (some false) := by kernel_rfl
theorem zmr : elO Try.prog 76 = (some (none, (105, 13))) := by kernel_rfl
theorem zts : mkO Try.prog 76 = (some (13, ([(.val (.string ⟨#[]⟩)), (.val (.int .i64 0)), (.val (.int .i64 0)), (.val (.int .i64 0)), (.val (.string ⟨#[]⟩)), (.val (.int .i64 0)), (.val (.string ⟨#[]⟩)), (.val (.int .i64 0)), (.val (.string ⟨#[]⟩)), (.val (.slice none 0 0)), (.val (.int .i64 0)), (.val (.string ⟨#[]⟩)), (.val (.int .i64 0))], 160))) := by kernel_rfl
theorem zk1 : szO Try.prog 77 = (some 1) := by kernel_rfl
theorem zk2 : agO Try.prog 77 = (some false) := by kernel_rfl
theorem zms : elO Try.prog 77 = (some (none, (108, 27))) := by kernel_rfl
theorem jjs : mkO Try.prog 77 = (some (27, ([(.val (.string ⟨#[]⟩)), (.val (.int .i64 0)), (.val (.int .i64 0)), (.val (.int .i64 0)), (.val (.string ⟨#[]⟩)), (.val (.int .i64 0)), (.val (.string ⟨#[]⟩)), (.val (.int .i64 0)), (.val (.string ⟨#[]⟩)), (.val (.slice none 0 0)), (.val (.int .i64 0)), (.val (.string ⟨#[]⟩)), (.val (.int .i64 0)), (.val (.string ⟨#[]⟩)), (.val (.int .i64 0)), (.val (.string ⟨#[]⟩)), (.val (.slice none 0 0)), (.val (.int .i64 0)), (.val (.string ⟨#[]⟩)), (.val (.int .i64 0)), (.val (.string ⟨#[]⟩)), (.val (.int .i64 0)), (.val (.string ⟨#[]⟩)), (.val (.slice none 0 0)), (.val (.int .i64 0)), (.val (.string ⟨#[]⟩)), (.val (.int .i64 0))], 352))) := by kernel_rfl
theorem zk3 : szO Try.prog 78 = (some 1) := by kernel_rfl
theorem zmt : agO Try.prog 78 = (some false) := by kernel_rfl
theorem zmu : elO Try.prog 78 = (some (none, (110, 9))) := by kernel_rfl
theorem jbr : mkO Try.prog 78 = (some (9, ([(.val (.int .i64 0)), (.val (.int .i64 0)), (.val (.int .i64 0)), (.val (.string ⟨#[]⟩)), (.val (.int .i64 0)), (.val (.string ⟨#[]⟩)), (.val (.int .i64 0)), (.val (.string ⟨#[]⟩)), (.val (.slice none 0 0))], 112))) := by kernel_rfl
theorem zk4 : szO Try.prog 79 = (some 1) := by kernel_rfl
theorem zk5 : agO Try.prog 79 = (some false) := by kernel_rfl
theorem zmv : elO Try.prog 79 = (some (none, (112, 16))) := by kernel_rfl
theorem jjt : mkO Try.prog 79 = (some (16, ([(.val (.int .i64 0)), (.val (.int .i64 0)), (.val (.int .i64 0)), (.val (.string ⟨#[]⟩)), (.val (.int .i64 0)), (.val (.string ⟨#[]⟩)), (.val (.int .i64 0)), (.val (.string ⟨#[]⟩)), (.val (.slice none 0 0)), (.val (.int .i64 0)), (.val (.string ⟨#[]⟩)), (.val (.int .i64 0)), (.val (.string ⟨#[]⟩)), (.val (.int .i64 0)), (.val (.string ⟨#[]⟩)), (.val (.slice none 0 0))], 208))) := by kernel_rfl
theorem zfs : szO Try.prog 81 = (some 6) := by kernel_rfl
theorem zim : agO Try.prog 81 = (some true) := by kernel_rfl
theorem jbs : zcO Try.prog 81 = (some [(.val (.string ⟨#[]⟩)), (.val (.string ⟨#[]⟩)), (.val (.slice none 0 0)), (.val (.slice none 0 0)), (.val (.slice none 0 0)), (.val (.slice none 0 0))]) := by kernel_rfl
theorem zmw : zaO Try.prog 81 = (some [(.val (.string ⟨#[]⟩)), (.val (.string ⟨#[]⟩)), (.val (.slice none 0 0)), (.val (.slice none 0 0)), (.val (.slice none 0 0)), (.val (.slice none 0 0))]) := by kernel_rfl
theorem jbt : zgo Try.prog 81 = true := by kernel_rfl
theorem jfs : foO Try.prog 81 0 = (some 0) := by kernel_rfl
theorem zlv : plO Try.prog 81 0 = (some (0, 1)) := by kernel_rfl
theorem jft : foO Try.prog 81 1 = (some 1) := by kernel_rfl
theorem zlw : plO Try.prog 81 1 = (some (1, 1)) := by kernel_rfl
theorem zdl : foO Try.prog 81 2 = (some 2) := by kernel_rfl
theorem jfu : plO Try.prog 81 2 = (some (2, 1)) := by kernel_rfl
theorem zfb : foO Try.prog 81 3 = (some 3) := by kernel_rfl
theorem zd6 : foO Try.prog 81 4 = (some 4) := by kernel_rfl
theorem zd7 : foO Try.prog 81 5 = (some 5) := by kernel_rfl
theorem zpj : szO Try.prog 84 = (some 1) := by kernel_rfl
theorem zpk : agO Try.prog 84 = (some false) := by kernel_rfl
theorem zoq : szO Try.prog 86 = (some 5) := by kernel_rfl
theorem yb8 : agO Try.prog 86 = (some true) := by kernel_rfl
theorem jvp : zcO Try.prog 86 = (some [(.val (.slice none 0 0)), (.val (.slice none 0 0)), (.val (.slice none 0 0)), (.val (.slice none 0 0)), (.val (.int .i64 0))]) := by kernel_rfl
theorem zpl : zaO Try.prog 86 = (some [(.val (.slice none 0 0)), (.val (.slice none 0 0)), (.val (.slice none 0 0)), (.val (.slice none 0 0)), (.val (.int .i64 0))]) := by kernel_rfl
theorem jvq : zgo Try.prog 86 = true := by kernel_rfl
theorem zgu : foO Try.prog 86 0 = (some 0) := by kernel_rfl
theorem jfv : plO Try.prog 86 0 = (some (0, 4)) := by kernel_rfl
theorem zgv : foO Try.prog 86 1 = (some 4) := by kernel_rfl
theorem jfw : ftO Try.prog 86 1 = (some (4, (1, false))) := by kernel_rfl
theorem jfx : plO Try.prog 86 1 = (some (4, 1)) := by kernel_rfl
theorem jvr : elO Try.prog 91 = (some (none, (86, 5))) := by kernel_rfl
theorem jvs : mkO Try.prog 91 = (some (5, ([(.val (.slice none 0 0)), (.val (.slice none 0 0)), (.val (.slice none 0 0)), (.val (.slice none 0 0)), (.val (.int .i64 0))], 104))) := by kernel_rfl
theorem zmx : szO Try.prog 95 = (some 5) := by kernel_rfl
theorem zmy : agO Try.prog 95 = (some true) := by kernel_rfl
theorem zk6 : zcO Try.prog 95 = (some [(.val (.int .i64 0)), (.val (.int .i64 0)), (.val (.int .i64 0)), (.val (.int .i64 0)), (.val (.int .i64 0))]) := by kernel_rfl
theorem jbu : zaO Try.prog 95 = (some [(.val (.int .i64 0)), (.val (.int .i64 0)), (.val (.int .i64 0)), (.val (.int .i64 0)), (.val (.int .i64 0))]) := by kernel_rfl
theorem zk7 : zgo Try.prog 95 = true := by kernel_rfl
theorem jju : jsl Try.prog 95 = (some [(0, false), (1, false), (2, false), (3, false), (4, false)]) := by kernel_rfl
theorem zlx : foO Try.prog 95 0 = (some 0) := by kernel_rfl
theorem zd8 : plO Try.prog 95 0 = (some (0, 1)) := by kernel_rfl
theorem zin : foO Try.prog 95 1 = (some 1) := by kernel_rfl
theorem zd9 : plO Try.prog 95 1 = (some (1, 1)) := by kernel_rfl
theorem zly : foO Try.prog 95 2 = (some 2) := by kernel_rfl
theorem zgw : plO Try.prog 95 2 = (some (2, 1)) := by kernel_rfl
theorem zlz : foO Try.prog 95 3 = (some 3) := by kernel_rfl
theorem zio : plO Try.prog 95 3 = (some (3, 1)) := by kernel_rfl
theorem jfy : foO Try.prog 95 4 = (some 4) := by kernel_rfl
theorem jfz : plO Try.prog 95 4 = (some (4, 1)) := by kernel_rfl
theorem jvt : elO Try.prog 96 = (some ((some 4), (5, 1))) := by kernel_rfl
theorem zpm : zcO Try.prog 98 = (some [(.val (.int .i64 0)), (.val (.string ⟨#[]⟩))]) := by kernel_rfl
theorem zpn : zgo Try.prog 98 = true := by kernel_rfl
theorem jf0 : foO Try.prog 98 0 = (some 0) := by kernel_rfl
theorem zgx : plO Try.prog 98 0 = (some (0, 1)) := by kernel_rfl
theorem jjv : szO Try.prog 99 = (some 1) := by kernel_rfl
theorem jjw : agO Try.prog 99 = (some false) := by kernel_rfl
theorem jjx : elO Try.prog 99 = (some (none, (101, 7))) := by kernel_rfl
theorem zpo : mkO Try.prog 99 = (some (7, ([(.val (.int .i64 0)), (.val (.string ⟨#[]⟩)), (.val (.int .i64 0)), (.val (.string ⟨#[]⟩)), (.val (.int .i64 0)), (.val (.string ⟨#[]⟩)), (.val (.slice none 0 0))], 96))) := by kernel_rfl
theorem zdj : szO Try.prog 101 = (some 7) := by kernel_rfl
theorem zdz : agO Try.prog 101 = (some true) := by kernel_rfl
theorem zhu : zcO Try.prog 101 = (some [(.val (.int .i64 0)), (.val (.string ⟨#[]⟩)), (.val (.int .i64 0)), (.val (.string ⟨#[]⟩)), (.val (.int .i64 0)), (.val (.string ⟨#[]⟩)), (.val (.slice none 0 0))]) := by kernel_rfl
theorem zhv : zaO Try.prog 101 = (some [(.val (.int .i64 0)), (.val (.string ⟨#[]⟩)), (.val (.int .i64 0)), (.val (.string ⟨#[]⟩)), (.val (.int .i64 0)), (.val (.string ⟨#[]⟩)), (.val (.slice none 0 0))]) := by kernel_rfl
theorem zhw : zgo Try.prog 101 = true := by kernel_rfl
theorem znf : foO Try.prog 101 0 = (some 0) := by kernel_rfl
theorem zdr : plO Try.prog 101 0 = (some (0, 1)) := by kernel_rfl
theorem zyo : foO Try.prog 101 2 = (some 2) := by kernel_rfl
theorem zen : plO Try.prog 101 2 = (some (2, 2)) := by kernel_rfl
theorem zyp : foO Try.prog 101 3 = (some 4) := by kernel_rfl
theorem zi8 : plO Try.prog 101 3 = (some (4, 2)) := by kernel_rfl
theorem zng : foO Try.prog 101 4 = (some 6) := by kernel_rfl
theorem zi9 : plO Try.prog 101 4 = (some (6, 1)) := by kernel_rfl
theorem ztt : szO Try.prog 103 = (some 3) := by kernel_rfl
theorem jvu : agO Try.prog 103 = (some true) := by kernel_rfl
theorem zyq : zcO Try.prog 103 = (some [(.val (.int .i64 0)), (.val (.string ⟨#[]⟩)), (.val (.int .i64 0))]) := by kernel_rfl
theorem jne : zaO Try.prog 103 = (some [(.val (.int .i64 0)), (.val (.string ⟨#[]⟩)), (.val (.int .i64 0))]) := by kernel_rfl
theorem zyr : zgo Try.prog 103 = true := by kernel_rfl
theorem znh : plO Try.prog 103 0 = (some (0, 1)) := by kernel_rfl
theorem zys : plO Try.prog 103 1 = (some (1, 1)) := by kernel_rfl
theorem zyt : plO Try.prog 103 2 = (some (2, 1)) := by kernel_rfl
theorem zyu : szO Try.prog 105 = (some 13) := by kernel_rfl
theorem zyv : agO Try.prog 105 = (some true) := by kernel_rfl
theorem zqe : zcO Try.prog 105 = (some [(.val (.string ⟨#[]⟩)), (.val (.int .i64 0)), (.val (.int .i64 0)), (.val (.int .i64 0)), (.val (.string ⟨#[]⟩)), (.val (.int .i64 0)), (.val (.string ⟨#[]⟩)), (.val (.int .i64 0)), (.val (.string ⟨#[]⟩)), (.val (.slice none 0 0)), (.val (.int .i64 0)), (.val (.string ⟨#[]⟩)), (.val (.int .i64 0))]) := by kernel_rfl
theorem zyw : zaO Try.prog 105 = (some [(.val (.string ⟨#[]⟩)), (.val (.int .i64 0)), (.val (.int .i64 0)), (.val (.int .i64 0)), (.val (.string ⟨#[]⟩)), (.val (.int .i64 0)), (.val (.string ⟨#[]⟩)), (.val (.int .i64 0)), (.val (.string ⟨#[]⟩)), (.val (.slice none 0 0)), (.val (.int .i64 0)), (.val (.string ⟨#[]⟩)), (.val (.int .i64 0))]) := by kernel_rfl
theorem zqf : zgo Try.prog 105 = true := by kernel_rfl
theorem zyx : foO Try.prog 105 0 = (some 0) := by kernel_rfl
theorem zja : plO Try.prog 105 0 = (some (0, 1)) := by kernel_rfl
theorem zeo : foO Try.prog 105 1 = (some 1) := by kernel_rfl
theorem zjb : plO Try.prog 105 1 = (some (1, 1)) := by kernel_rfl
theorem zyy : foO Try.prog 105 2 = (some 2) := by kernel_rfl
theorem zyz : plO Try.prog 105 2 = (some (2, 1)) := by kernel_rfl
theorem zni : foO Try.prog 105 3 = (some 3) := by kernel_rfl
theorem znj : plO Try.prog 105 3 = (some (3, 7)) := by kernel_rfl
theorem zy0 : foO Try.prog 105 4 = (some 10) := by kernel_rfl
theorem zy1 : plO Try.prog 105 4 = (some (10, 3)) := by kernel_rfl
theorem zqg : zkm Try.prog 106 = (some .u64) := by kernel_rfl
theorem jnf : szO Try.prog 108 = (some 27) := by kernel_rfl
theorem jng : agO Try.prog 108 = (some true) := by kernel_rfl
theorem jnh : zcO Try.prog 108 = (some [(.val (.string ⟨#[]⟩)), (.val (.int .i64 0)), (.val (.int .i64 0)), (.val (.int .i64 0)), (.val (.string ⟨#[]⟩)), (.val (.int .i64 0)), (.val (.string ⟨#[]⟩)), (.val (.int .i64 0)), (.val (.string ⟨#[]⟩)), (.val (.slice none 0 0)), (.val (.int .i64 0)), (.val (.string ⟨#[]⟩)), (.val (.int .i64 0)), (.val (.string ⟨#[]⟩)), (.val (.int .i64 0)), (.val (.string ⟨#[]⟩)), (.val (.slice none 0 0)), (.val (.int .i64 0)), (.val (.string ⟨#[]⟩)), (.val (.int .i64 0)), (.val (.string ⟨#[]⟩)), (.val (.int .i64 0)), (.val (.string ⟨#[]⟩)), (.val (.slice none 0 0)), (.val (.int .i64 0)), (.val (.string ⟨#[]⟩)), (.val (.int .i64 0))]) := by kernel_rfl
theorem jni : zaO Try.prog 108 = (some [(.val (.string ⟨#[]⟩)), (.val (.int .i64 0)), (.val (.int .i64 0)), (.val (.int .i64 0)), (.val (.string ⟨#[]⟩)), (.val (.int .i64 0)), (.val (.string ⟨#[]⟩)), (.val (.int .i64 0)), (.val (.string ⟨#[]⟩)), (.val (.slice none 0 0)), (.val (.int .i64 0)), (.val (.string ⟨#[]⟩)), (.val (.int .i64 0)), (.val (.string ⟨#[]⟩)), (.val (.int .i64 0)), (.val (.string ⟨#[]⟩)), (.val (.slice none 0 0)), (.val (.int .i64 0)), (.val (.string ⟨#[]⟩)), (.val (.int .i64 0)), (.val (.string ⟨#[]⟩)), (.val (.int .i64 0)), (.val (.string ⟨#[]⟩)), (.val (.slice none 0 0)), (.val (.int .i64 0)), (.val (.string ⟨#[]⟩)), (.val (.int .i64 0))]) := by kernel_rfl
theorem jnj : zgo Try.prog 108 = true := by kernel_rfl
theorem zy2 : foO Try.prog 108 0 = (some 0) := by kernel_rfl
theorem zy3 : plO Try.prog 108 0 = (some (0, 1)) := by kernel_rfl
theorem zga : foO Try.prog 108 1 = (some 1) := by kernel_rfl
theorem zy4 : plO Try.prog 108 1 = (some (1, 1)) := by kernel_rfl
theorem znk : foO Try.prog 108 2 = (some 2) := by kernel_rfl
theorem zy5 : plO Try.prog 108 2 = (some (2, 1)) := by kernel_rfl
theorem znl : foO Try.prog 108 3 = (some 3) := by kernel_rfl
theorem znm : foO Try.prog 108 4 = (some 10) := by kernel_rfl
theorem znn : foO Try.prog 108 5 = (some 17) := by kernel_rfl
theorem zy6 : foO Try.prog 108 6 = (some 24) := by kernel_rfl
theorem zy7 : plO Try.prog 108 6 = (some (24, 3)) := by kernel_rfl
theorem zy8 : szO Try.prog 110 = (some 9) := by kernel_rfl
theorem zy9 : agO Try.prog 110 = (some true) := by kernel_rfl
theorem zza : zcO Try.prog 110 = (some [(.val (.int .i64 0)), (.val (.int .i64 0)), (.val (.int .i64 0)), (.val (.string ⟨#[]⟩)), (.val (.int .i64 0)), (.val (.string ⟨#[]⟩)), (.val (.int .i64 0)), (.val (.string ⟨#[]⟩)), (.val (.slice none 0 0))]) := by kernel_rfl
theorem zzb : zaO Try.prog 110 = (some [(.val (.int .i64 0)), (.val (.int .i64 0)), (.val (.int .i64 0)), (.val (.string ⟨#[]⟩)), (.val (.int .i64 0)), (.val (.string ⟨#[]⟩)), (.val (.int .i64 0)), (.val (.string ⟨#[]⟩)), (.val (.slice none 0 0))]) := by kernel_rfl
theorem zzc : zgo Try.prog 110 = true := by kernel_rfl
theorem zzd : foO Try.prog 110 0 = (some 0) := by kernel_rfl
theorem zze : plO Try.prog 110 0 = (some (0, 1)) := by kernel_rfl
theorem zgb : foO Try.prog 110 1 = (some 1) := by kernel_rfl
theorem zno : plO Try.prog 110 1 = (some (1, 1)) := by kernel_rfl
theorem znp : foO Try.prog 110 2 = (some 2) := by kernel_rfl
theorem zzf : plO Try.prog 110 2 = (some (2, 7)) := by kernel_rfl
theorem jnk : szO Try.prog 112 = (some 16) := by kernel_rfl
theorem jnl : agO Try.prog 112 = (some true) := by kernel_rfl
theorem jnm : zcO Try.prog 112 = (some [(.val (.int .i64 0)), (.val (.int .i64 0)), (.val (.int .i64 0)), (.val (.string ⟨#[]⟩)), (.val (.int .i64 0)), (.val (.string ⟨#[]⟩)), (.val (.int .i64 0)), (.val (.string ⟨#[]⟩)), (.val (.slice none 0 0)), (.val (.int .i64 0)), (.val (.string ⟨#[]⟩)), (.val (.int .i64 0)), (.val (.string ⟨#[]⟩)), (.val (.int .i64 0)), (.val (.string ⟨#[]⟩)), (.val (.slice none 0 0))]) := by kernel_rfl
theorem jnn : zaO Try.prog 112 = (some [(.val (.int .i64 0)), (.val (.int .i64 0)), (.val (.int .i64 0)), (.val (.string ⟨#[]⟩)), (.val (.int .i64 0)), (.val (.string ⟨#[]⟩)), (.val (.int .i64 0)), (.val (.string ⟨#[]⟩)), (.val (.slice none 0 0)), (.val (.int .i64 0)), (.val (.string ⟨#[]⟩)), (.val (.int .i64 0)), (.val (.string ⟨#[]⟩)), (.val (.int .i64 0)), (.val (.string ⟨#[]⟩)), (.val (.slice none 0 0))]) := by kernel_rfl
theorem jno : zgo Try.prog 112 = true := by kernel_rfl
theorem zzg : foO Try.prog 112 0 = (some 0) := by kernel_rfl
theorem zzh : plO Try.prog 112 0 = (some (0, 1)) := by kernel_rfl
theorem znq : foO Try.prog 112 1 = (some 1) := by kernel_rfl
theorem zzi : plO Try.prog 112 1 = (some (1, 1)) := by kernel_rfl
theorem znr : foO Try.prog 112 2 = (some 2) := by kernel_rfl
theorem zns : foO Try.prog 112 3 = (some 9) := by kernel_rfl
theorem zg8 : szO Try.prog 143 = (some 4) := by kernel_rfl
theorem zg9 : agO Try.prog 143 = (some true) := by kernel_rfl
theorem zzj : zcO Try.prog 143 = (some [(.val (.slice none 0 0)), (.val (.slice none 0 0)), (.val (.slice none 0 0)), (.val (.bool false))]) := by kernel_rfl
theorem zzk : zaO Try.prog 143 = (some [(.val (.slice none 0 0)), (.val (.slice none 0 0)), (.val (.slice none 0 0)), (.val (.bool false))]) := by kernel_rfl
theorem zzl : zgo Try.prog 143 = true := by kernel_rfl
theorem zjc : foO Try.prog 143 0 = (some 0) := by kernel_rfl
theorem zzm : plO Try.prog 143 0 = (some (0, 1)) := by kernel_rfl
theorem znt : foO Try.prog 143 1 = (some 1) := by kernel_rfl
theorem zjd : foO Try.prog 143 2 = (some 2) := by kernel_rfl
theorem zzn : plO Try.prog 143 2 = (some (2, 1)) := by kernel_rfl
theorem zzo : foO Try.prog 143 3 = (some 3) := by kernel_rfl
theorem zzp : plO Try.prog 143 3 = (some (3, 1)) := by kernel_rfl
theorem zgc : szO Try.prog 145 = (some 2) := by kernel_rfl
theorem zgd : agO Try.prog 145 = (some true) := by kernel_rfl
theorem jnp : zcO Try.prog 145 = (some [(.val (.slice none 0 0)), (.val (.int .i64 0))]) := by kernel_rfl
theorem zqh : zaO Try.prog 145 = (some [(.val (.slice none 0 0)), (.val (.int .i64 0))]) := by kernel_rfl
theorem jnq : zgo Try.prog 145 = true := by kernel_rfl
theorem zzq : foO Try.prog 145 0 = (some 0) := by kernel_rfl
theorem zzr : plO Try.prog 145 0 = (some (0, 1)) := by kernel_rfl
theorem zzs : foO Try.prog 145 1 = (some 1) := by kernel_rfl
theorem ziq : szO Try.prog 149 = (some 9) := by kernel_rfl
theorem jf1 : agO Try.prog 149 = (some true) := by kernel_rfl
theorem zqi : zcO Try.prog 149 = (some [(.val (.int .i64 0)), (.val (.string ⟨#[]⟩)), (.val (.int .i64 0)), (.val (.string ⟨#[]⟩)), (.val (.int .i64 0)), (.val (.string ⟨#[]⟩)), (.val (.slice none 0 0)), (.val (.slice none 0 0)), (.val (.int .i64 0))]) := by kernel_rfl
theorem zmd : zaO Try.prog 149 = (some [(.val (.int .i64 0)), (.val (.string ⟨#[]⟩)), (.val (.int .i64 0)), (.val (.string ⟨#[]⟩)), (.val (.int .i64 0)), (.val (.string ⟨#[]⟩)), (.val (.slice none 0 0)), (.val (.slice none 0 0)), (.val (.int .i64 0))]) := by kernel_rfl
theorem zqj : zgo Try.prog 149 = true := by kernel_rfl
theorem zje : foO Try.prog 149 0 = (some 0) := by kernel_rfl
theorem zjf : plO Try.prog 149 0 = (some (0, 7)) := by kernel_rfl
theorem zjg : foO Try.prog 149 1 = (some 7) := by kernel_rfl
theorem zjh : plO Try.prog 149 1 = (some (7, 2)) := by kernel_rfl
theorem ztu : szO Try.prog 155 = (some 3) := by kernel_rfl
theorem jf2 : agO Try.prog 155 = (some true) := by kernel_rfl
theorem zjy : elO Try.prog 155 = (some ((some 3), (3, 1))) := by kernel_rfl
theorem zzt : zcO Try.prog 155 = (some [(.val (.int .i64 0)), (.val (.int .i64 0)), (.val (.int .i64 0))]) := by kernel_rfl
theorem zzu : zaO Try.prog 155 = (some [(.val (.int .i64 0)), (.val (.int .i64 0)), (.val (.int .i64 0))]) := by kernel_rfl
theorem zzv : zgo Try.prog 155 = true := by kernel_rfl
theorem znu : plO Try.prog 155 0 = (some (0, 1)) := by kernel_rfl
theorem znv : plO Try.prog 155 1 = (some (1, 1)) := by kernel_rfl
theorem znw : plO Try.prog 155 2 = (some (2, 1)) := by kernel_rfl
theorem zqk : szO Try.prog 167 = (some 2) := by kernel_rfl
theorem zzw : szO Try.prog 172 = (some 8) := by kernel_rfl
theorem jnr : szO Try.prog 174 = (some 4) := by kernel_rfl
theorem zge : szO Try.prog 192 = (some 1) := by kernel_rfl
theorem zgf : agO Try.prog 192 = (some false) := by kernel_rfl
theorem jns : szO Try.prog 193 = (some 1) := by kernel_rfl
theorem jnt : agO Try.prog 193 = (some false) := by kernel_rfl
theorem zme : szO Try.prog 194 = (some 1) := by kernel_rfl
theorem zmf : agO Try.prog 194 = (some false) := by kernel_rfl
theorem jnu : zcO Try.prog 196 = (some [(.val (.slice none 0 0)), (.val (.slice none 0 0)), (.val (.slice none 0 0)), (.val (.slice none 0 0)), (.val (.string ⟨#[]⟩)), (.val (.string ⟨#[]⟩)), (.val (.slice none 0 0)), (.val (.slice none 0 0)), (.val (.slice none 0 0)), (.val (.slice none 0 0)), (.val (.map none)), (.val (.map none)), (.val (.slice none 0 0))]) := by kernel_rfl
theorem jnv : zgo Try.prog 196 = true := by kernel_rfl
theorem zgg : foO Try.prog 196 0 = (some 0) := by kernel_rfl
theorem zji : foO Try.prog 196 1 = (some 4) := by kernel_rfl
theorem zzx : plO Try.prog 196 1 = (some (4, 6)) := by kernel_rfl
theorem zzy : foO Try.prog 196 2 = (some 10) := by kernel_rfl
theorem zzz : plO Try.prog 196 2 = (some (10, 1)) := by kernel_rfl
theorem zgh : foO Try.prog 196 3 = (some 11) := by kernel_rfl
theorem zz0 : plO Try.prog 196 3 = (some (11, 1)) := by kernel_rfl
theorem znx : foO Try.prog 196 4 = (some 12) := by kernel_rfl
theorem zz1 : szO Try.prog 219 = (some 1) := by kernel_rfl
theorem jnw : agO Try.prog 219 = (some false) := by kernel_rfl
theorem jnx : zaO Try.prog 219 = (some [(.val .nilFunc)]) := by kernel_rfl
theorem zft : laidOutB Try.prog = true := by kernel_rfl
theorem ygv : Maps.Keyed Try.prog 3 := Maps.int_keyed (q := .i64) (by kernel_rfl)
theorem yb9 : Maps.Keyed Try.prog 71 := .of_law (deep_law_laid zft (m := 3) (by omega) (of_decide_eq_true (by kernel_rfl)) (by kernel_rfl) (by kernel_rfl))
theorem yca : Maps.Keyed Try.prog 95 := .of_law (deep_law_laid zft (m := 3) (by omega) (of_decide_eq_true (by kernel_rfl)) (by kernel_rfl) (by kernel_rfl))
theorem jvv : Maps.Keyed Try.prog 134 := .of_law (deep_law_laid zft (m := 3) (by omega) (of_decide_eq_true (by kernel_rfl)) (by kernel_rfl) (by kernel_rfl))
def KT (k : TypeId) : Bool := k == 3 || k == 71 || k == 95 || k == 134
theorem zak (k : TypeId) (h : KT k = true) : Maps.Keyed Try.prog k := by
 simp only [KT, Bool.or_eq_true, beq_iff_eq, or_assoc] at h
 rcases h with rfl | rfl | rfl | rfl
 ·exact ygv
 ·exact yb9
 ·exact yca
 ·exact jvv
theorem sza {a b : Prop} (x : a) (y : b) : a ∧ b := ⟨x, y⟩
section
variable {c : Cx} {sm : List Nat} {Q : Exit → Fr → zae → Prop} {id : Nat} {l : List Oper} {n : Nat} {τ τ' : Fr} {H H' : zae}
theorem szq {y : Code} (hp : Kp c sm) (h : ∀ K : Fr → zae → Prop, K τ' H' → sT Try.prog KT sm l l τ H K) (hq : AWp Try.prog c y Q τ' H') (hn : c.nt = n := by exact hc) (hd : zfn n l = true := by rfl) : AWp Try.prog c (.seq (.region id l.toArray false) y) Q τ H := zag hp zak hn hd fun K hK => h K (hK _ _ hq)
theorem szt {o : Operand} {x y : Code} (h : AWp Try.prog c x Q τ H) (ht : zaw τ o = .d (.val (.bool true)) := by rfl) : AWp Try.prog c (.cond o x y) Q τ H := zal ht (fun _ => h) fun e => nomatch e
theorem szf {o : Operand} {x y : Code} (h : AWp Try.prog c y Q τ H) (ht : zaw τ o = .d (.val (.bool false)) := by rfl) : AWp Try.prog c (.cond o x y) Q τ H := zal ht (fun e => nomatch e) fun _ => h
theorem szs (hp : Kp c sm) (h : ∀ K : Fr → zae → Prop, K τ' H' → sT Try.prog KT sm l l τ H K) (hq : Q .normal τ' H') (hn : c.nt = n := by exact hc) (hd : zfn n l = true := by rfl) : AWp Try.prog c (.region id l.toArray false) Q τ H := za1 hp zak hn hd fun K hK => h K (hK _ _ hq)
end
end Go.Proofs.Ytapjobndmmkanaa
