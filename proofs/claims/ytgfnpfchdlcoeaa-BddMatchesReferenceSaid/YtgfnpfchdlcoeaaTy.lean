/- Facts of types, and of the settings. -/
import Derived.Test.YtgfnpfchdlcoeaaAR
import Derived.Test.YtgfnpfchdlcoeaaProg
import Derived.DeepKeys4
set_option linter.unusedVariables false
set_option linter.unusedSimpArgs false
namespace Go.Proofs.Ytgfnpfchdlcoeaa
open Go Go.RowKit
theorem mixed : Try.prog.follows .mixedOrders = true := by kernel_rfl
theorem zci : szO Try.prog 3 = (some 1) := by kernel_rfl
theorem zcn : agO Try.prog 3 = (some false) := by kernel_rfl
theorem js5 : zaO Try.prog 3 = (some [(.val (.int .i64 0))]) := by kernel_rfl
theorem zsk : zqp Try.prog 3 = (some .i64) := by kernel_rfl
theorem zus : szO Try.prog 4 = (some 1) := by kernel_rfl
theorem jep : agO Try.prog 4 = (some false) := by kernel_rfl
theorem jn5 : zlb Try.prog 4 = true := by kernel_rfl
theorem jeq : szO Try.prog 5 = (some 1) := by kernel_rfl
theorem jer : agO Try.prog 5 = (some false) := by kernel_rfl
theorem jes : zqp Try.prog 5 = (some .u8) := by kernel_rfl
theorem zvu : szO Try.prog 22 = (some 1) := by kernel_rfl
theorem zvv : agO Try.prog 22 = (some false) := by kernel_rfl
theorem zvw : elO Try.prog 22 = (some (none, (5, 1))) := by kernel_rfl
theorem jky : mkO Try.prog 22 = (some (1, ([(.val (.int .u8 0))], 1))) := by kernel_rfl
theorem jbw : szO Try.prog 23 = (some 1) := by kernel_rfl
theorem jbx : agO Try.prog 23 = (some false) := by kernel_rfl
theorem jby : elO Try.prog 23 = (some (none, (87, 5))) := by kernel_rfl
theorem jkz : mkO Try.prog 23 = (some (5, ([(.val (.int .u8 0)), (.val (.int .u8 0)), (.val (.int .u8 0)), (.val (.int .u8 0)), (.val (.int .u8 0))], 5))) := by kernel_rfl
theorem jbz : szO Try.prog 24 = (some 1) := by kernel_rfl
theorem jb0 : agO Try.prog 24 = (some false) := by kernel_rfl
theorem jb1 : elO Try.prog 24 = (some (none, (88, 4))) := by kernel_rfl
theorem jk0 : mkO Try.prog 24 = (some (4, ([(.val (.int .u8 0)), (.val (.int .u8 0)), (.val (.int .u8 0)), (.val (.int .u8 0))], 4))) := by kernel_rfl
theorem zpq : szO Try.prog 26 = (some 3) := by kernel_rfl
theorem zpr : agO Try.prog 26 = (some true) := by kernel_rfl
theorem zjm : foO Try.prog 26 0 = (some 0) := by kernel_rfl
theorem zw9 : ftO Try.prog 26 0 = (some (0, (1, false))) := by kernel_rfl
theorem znr : foO Try.prog 26 1 = (some 1) := by kernel_rfl
theorem zxa : ftO Try.prog 26 1 = (some (1, (1, false))) := by kernel_rfl
theorem zns : foO Try.prog 26 2 = (some 2) := by kernel_rfl
theorem zxb : ftO Try.prog 26 2 = (some (2, (1, false))) := by kernel_rfl
theorem jq7 : szO Try.prog 27 = (some 3) := by kernel_rfl
theorem jq8 : agO Try.prog 27 = (some true) := by kernel_rfl
theorem jn6 : elO Try.prog 27 = (some ((some 3), (5, 1))) := by kernel_rfl
theorem zcj : szO Try.prog 28 = (some 1) := by kernel_rfl
theorem zck : agO Try.prog 28 = (some false) := by kernel_rfl
theorem zcm : elO Try.prog 28 = (some (none, (83, 3))) := by kernel_rfl
theorem jb2 : mkO Try.prog 28 = (some (3, ([(.val (.int .i64 0)), (.val (.int .i64 0)), (.val (.int .i64 0))], 24))) := by kernel_rfl
theorem zea : szO Try.prog 29 = (some 1) := by kernel_rfl
theorem zeb : agO Try.prog 29 = (some false) := by kernel_rfl
theorem zc3 : elO Try.prog 29 = (some (none, (3, 1))) := by kernel_rfl
theorem zgb : mkO Try.prog 29 = (some (1, ([(.val (.int .i64 0))], 8))) := by kernel_rfl
theorem zc8 : szO Try.prog 31 = (some 2) := by kernel_rfl
theorem zds : agO Try.prog 31 = (some true) := by kernel_rfl
theorem zvx : zcO Try.prog 31 = (some [(.val (.slice none 0 0)), (.val (.slice none 0 0))]) := by kernel_rfl
theorem zvy : zaO Try.prog 31 = (some [(.val (.slice none 0 0)), (.val (.slice none 0 0))]) := by kernel_rfl
theorem zvz : zjd Try.prog 31 = true := by kernel_rfl
theorem zbk : foO Try.prog 31 0 = (some 0) := by kernel_rfl
theorem jk1 : ftO Try.prog 31 0 = (some (0, (1, false))) := by kernel_rfl
theorem jet : plO Try.prog 31 0 = (some (0, 1)) := by kernel_rfl
theorem zes : foO Try.prog 31 1 = (some 1) := by kernel_rfl
theorem zxc : plO Try.prog 31 1 = (some (1, 1)) := by kernel_rfl
theorem zv0 : szO Try.prog 32 = (some 1) := by kernel_rfl
theorem zv1 : agO Try.prog 32 = (some false) := by kernel_rfl
theorem zgd : elO Try.prog 32 = (some (none, (84, 2))) := by kernel_rfl
theorem jg7 : mkO Try.prog 32 = (some (2, ([(.val (.int .i64 0)), (.val (.int .i64 0))], 16))) := by kernel_rfl
theorem zqz : szO Try.prog 33 = (some 1) := by kernel_rfl
theorem zq0 : agO Try.prog 33 = (some false) := by kernel_rfl
theorem ze4 : elO Try.prog 33 = (some (none, (4, 1))) := by kernel_rfl
theorem zmb : mkO Try.prog 33 = (some (1, ([(.val (.bool false))], 1))) := by kernel_rfl
theorem zin : foO Try.prog 35 0 = (some 0) := by kernel_rfl
theorem zjn : foO Try.prog 35 1 = (some 2) := by kernel_rfl
theorem zts : foO Try.prog 35 2 = (some 3) := by kernel_rfl
theorem zps : foO Try.prog 35 3 = (some 4) := by kernel_rfl
theorem zxd : foO Try.prog 35 4 = (some 5) := by kernel_rfl
theorem ztt : foO Try.prog 35 5 = (some 6) := by kernel_rfl
theorem zjo : szO Try.prog 38 = (some 1) := by kernel_rfl
theorem zjp : agO Try.prog 38 = (some false) := by kernel_rfl
theorem zof : elO Try.prog 38 = (some (none, (86, 3))) := by kernel_rfl
theorem jb3 : mkO Try.prog 38 = (some (3, ([(.val (.int .i64 0)), (.val (.int .i64 0)), (.val (.int .i64 0))], 24))) := by kernel_rfl
theorem zog : szO Try.prog 39 = (some 1) := by kernel_rfl
theorem zoh : agO Try.prog 39 = (some false) := by kernel_rfl
theorem ztu : elO Try.prog 39 = (some (none, (64, 5))) := by kernel_rfl
theorem jg8 : mkO Try.prog 39 = (some (5, ([(.val (.int .i64 0)), (.val (.int .i64 0)), (.val (.int .i64 0)), (.val (.int .i64 0)), (.val (.int .i64 0))], 40))) := by kernel_rfl
theorem zf0 : szO Try.prog 41 = (some 4) := by kernel_rfl
theorem zgm : agO Try.prog 41 = (some true) := by kernel_rfl
theorem jq9 : zcO Try.prog 41 = (some [(.val (.slice none 0 0)), (.val (.slice none 0 0)), (.val (.slice none 0 0)), (.val (.slice none 0 0))]) := by kernel_rfl
theorem jg9 : zaO Try.prog 41 = (some [(.val (.slice none 0 0)), (.val (.slice none 0 0)), (.val (.slice none 0 0)), (.val (.slice none 0 0))]) := by kernel_rfl
theorem jra : zjd Try.prog 41 = true := by kernel_rfl
theorem zfm : foO Try.prog 41 0 = (some 0) := by kernel_rfl
theorem jk2 : plO Try.prog 41 0 = (some (0, 1)) := by kernel_rfl
theorem zge : foO Try.prog 41 1 = (some 1) := by kernel_rfl
theorem zxe : foO Try.prog 41 2 = (some 2) := by kernel_rfl
theorem znt : foO Try.prog 41 3 = (some 3) := by kernel_rfl
theorem jha : szO Try.prog 45 = (some 1) := by kernel_rfl
theorem jhb : agO Try.prog 45 = (some false) := by kernel_rfl
theorem zk2 : szO Try.prog 47 = (some 3) := by kernel_rfl
theorem zv2 : agO Try.prog 47 = (some true) := by kernel_rfl
theorem zv3 : zcO Try.prog 47 = (some [(.val (.slice none 0 0)), (.val (.slice none 0 0)), (.val (.int .i64 0))]) := by kernel_rfl
theorem jb4 : zaO Try.prog 47 = (some [(.val (.slice none 0 0)), (.val (.slice none 0 0)), (.val (.int .i64 0))]) := by kernel_rfl
theorem zv4 : zjd Try.prog 47 = true := by kernel_rfl
theorem jk3 : foO Try.prog 47 0 = (some 0) := by kernel_rfl
theorem jk4 : ftO Try.prog 47 0 = (some (0, (2, true))) := by kernel_rfl
theorem zpt : plO Try.prog 47 0 = (some (0, 2)) := by kernel_rfl
theorem jeu : foO Try.prog 47 1 = (some 2) := by kernel_rfl
theorem zxf : ftO Try.prog 47 1 = (some (2, (1, false))) := by kernel_rfl
theorem zpu : plO Try.prog 47 1 = (some (2, 1)) := by kernel_rfl
theorem ztv : elO Try.prog 51 = (some (none, (31, 2))) := by kernel_rfl
theorem jn7 : mkO Try.prog 51 = (some (2, ([(.val (.slice none 0 0)), (.val (.slice none 0 0))], 48))) := by kernel_rfl
theorem zpv : szO Try.prog 53 = (some 2) := by kernel_rfl
theorem jhc : agO Try.prog 53 = (some true) := by kernel_rfl
theorem jhd : zcO Try.prog 53 = (some [(.val (.slice none 0 0)), (.val (.int .i64 0))]) := by kernel_rfl
theorem jev : zaO Try.prog 53 = (some [(.val (.slice none 0 0)), (.val (.int .i64 0))]) := by kernel_rfl
theorem jhe : zjd Try.prog 53 = true := by kernel_rfl
theorem jew : foO Try.prog 53 0 = (some 0) := by kernel_rfl
theorem jex : plO Try.prog 53 0 = (some (0, 1)) := by kernel_rfl
theorem jey : foO Try.prog 53 1 = (some 1) := by kernel_rfl
theorem jk5 : ftO Try.prog 53 1 = (some (1, (1, false))) := by kernel_rfl
theorem zxg : plO Try.prog 53 1 = (some (1, 1)) := by kernel_rfl
theorem jb5 : szO Try.prog 59 = (some 2) := by kernel_rfl
theorem jk6 : agO Try.prog 59 = (some true) := by kernel_rfl
theorem jhf : zcO Try.prog 59 = (some [(.val (.int .i64 0)), (.val (.int .i64 0))]) := by kernel_rfl
theorem jn8 : zaO Try.prog 59 = (some [(.val (.int .i64 0)), (.val (.int .i64 0))]) := by kernel_rfl
theorem jhg : zjd Try.prog 59 = true := by kernel_rfl
theorem jn9 : jms Try.prog 59 = (some [0, 1]) := by kernel_rfl
theorem zxh : plO Try.prog 59 0 = (some (0, 1)) := by kernel_rfl
theorem jk7 : ftO Try.prog 59 1 = (some (1, (1, false))) := by kernel_rfl
theorem jez : plO Try.prog 59 1 = (some (1, 1)) := by kernel_rfl
theorem ztw : szO Try.prog 64 = (some 5) := by kernel_rfl
theorem zv5 : agO Try.prog 64 = (some true) := by kernel_rfl
theorem jrb : zcO Try.prog 64 = (some [(.val (.int .i64 0)), (.val (.int .i64 0)), (.val (.int .i64 0)), (.val (.int .i64 0)), (.val (.int .i64 0))]) := by kernel_rfl
theorem jk8 : zaO Try.prog 64 = (some [(.val (.int .i64 0)), (.val (.int .i64 0)), (.val (.int .i64 0)), (.val (.int .i64 0)), (.val (.int .i64 0))]) := by kernel_rfl
theorem jrc : zjd Try.prog 64 = true := by kernel_rfl
theorem zjq : foO Try.prog 64 0 = (some 0) := by kernel_rfl
theorem jk9 : plO Try.prog 64 0 = (some (0, 1)) := by kernel_rfl
theorem zxi : foO Try.prog 64 1 = (some 1) := by kernel_rfl
theorem jla : plO Try.prog 64 1 = (some (1, 1)) := by kernel_rfl
theorem ztx : foO Try.prog 64 2 = (some 2) := by kernel_rfl
theorem zty : foO Try.prog 64 3 = (some 3) := by kernel_rfl
theorem zxj : foO Try.prog 64 4 = (some 4) := by kernel_rfl
theorem jhh : elO Try.prog 72 = (some (none, (29, 1))) := by kernel_rfl
theorem joa : mkO Try.prog 72 = (some (1, ([(.val (.slice none 0 0))], 24))) := by kernel_rfl
theorem job : szO Try.prog 75 = (some 1) := by kernel_rfl
theorem joc : agO Try.prog 75 = (some false) := by kernel_rfl
theorem jb6 : elO Try.prog 75 = (some (none, (33, 1))) := by kernel_rfl
theorem jod : mkO Try.prog 75 = (some (1, ([(.val (.slice none 0 0))], 24))) := by kernel_rfl
theorem jb7 : zqp Try.prog 78 = (some .u64) := by kernel_rfl
theorem zgn : szO Try.prog 83 = (some 3) := by kernel_rfl
theorem zg4 : agO Try.prog 83 = (some true) := by kernel_rfl
theorem jb8 : zcO Try.prog 83 = (some [(.val (.int .i64 0)), (.val (.int .i64 0)), (.val (.int .i64 0))]) := by kernel_rfl
theorem znu : zaO Try.prog 83 = (some [(.val (.int .i64 0)), (.val (.int .i64 0)), (.val (.int .i64 0))]) := by kernel_rfl
theorem jb9 : zjd Try.prog 83 = true := by kernel_rfl
theorem jhi : jms Try.prog 83 = (some [0, 1, 2]) := by kernel_rfl
theorem zb4 : foO Try.prog 83 0 = (some 0) := by kernel_rfl
theorem znv : plO Try.prog 83 0 = (some (0, 1)) := by kernel_rfl
theorem zco : foO Try.prog 83 1 = (some 1) := by kernel_rfl
theorem zpw : plO Try.prog 83 1 = (some (1, 1)) := by kernel_rfl
theorem zdd : foO Try.prog 83 2 = (some 2) := by kernel_rfl
theorem zpx : plO Try.prog 83 2 = (some (2, 1)) := by kernel_rfl
theorem joe : szO Try.prog 84 = (some 2) := by kernel_rfl
theorem jof : agO Try.prog 84 = (some true) := by kernel_rfl
theorem zlo : elO Try.prog 84 = (some ((some 2), (3, 1))) := by kernel_rfl
theorem jlb : zcO Try.prog 84 = (some [(.val (.int .i64 0)), (.val (.int .i64 0))]) := by kernel_rfl
theorem jrd : zaO Try.prog 84 = (some [(.val (.int .i64 0)), (.val (.int .i64 0))]) := by kernel_rfl
theorem jlc : zjd Try.prog 84 = true := by kernel_rfl
theorem zxk : plO Try.prog 84 0 = (some (0, 1)) := by kernel_rfl
theorem zxl : plO Try.prog 84 1 = (some (1, 1)) := by kernel_rfl
theorem jca : szO Try.prog 86 = (some 3) := by kernel_rfl
theorem jhj : agO Try.prog 86 = (some true) := by kernel_rfl
theorem jhk : zcO Try.prog 86 = (some [(.val (.int .i64 0)), (.val (.int .i64 0)), (.val (.int .i64 0))]) := by kernel_rfl
theorem jog : zaO Try.prog 86 = (some [(.val (.int .i64 0)), (.val (.int .i64 0)), (.val (.int .i64 0))]) := by kernel_rfl
theorem jhl : zjd Try.prog 86 = true := by kernel_rfl
theorem zxm : foO Try.prog 86 0 = (some 0) := by kernel_rfl
theorem ztz : plO Try.prog 86 0 = (some (0, 1)) := by kernel_rfl
theorem je0 : plO Try.prog 86 1 = (some (1, 1)) := by kernel_rfl
theorem je1 : foO Try.prog 86 2 = (some 2) := by kernel_rfl
theorem jld : plO Try.prog 86 2 = (some (2, 1)) := by kernel_rfl
theorem jre : szO Try.prog 87 = (some 5) := by kernel_rfl
theorem jrf : agO Try.prog 87 = (some true) := by kernel_rfl
theorem jhm : elO Try.prog 87 = (some ((some 5), (5, 1))) := by kernel_rfl
theorem jrg : zaO Try.prog 87 = (some [(.val (.int .u8 0)), (.val (.int .u8 0)), (.val (.int .u8 0)), (.val (.int .u8 0)), (.val (.int .u8 0))]) := by kernel_rfl
theorem jrh : szO Try.prog 88 = (some 4) := by kernel_rfl
theorem jri : agO Try.prog 88 = (some true) := by kernel_rfl
theorem joh : elO Try.prog 88 = (some ((some 4), (5, 1))) := by kernel_rfl
theorem jrj : zaO Try.prog 88 = (some [(.val (.int .u8 0)), (.val (.int .u8 0)), (.val (.int .u8 0)), (.val (.int .u8 0))]) := by kernel_rfl
theorem znw : szO Try.prog 92 = (some 2) := by kernel_rfl
theorem zq1 : agO Try.prog 92 = (some true) := by kernel_rfl
theorem joi : zcO Try.prog 92 = (some [(.val (.slice none 0 0)), (.val (.slice none 0 0))]) := by kernel_rfl
theorem jle : zaO Try.prog 92 = (some [(.val (.slice none 0 0)), (.val (.slice none 0 0))]) := by kernel_rfl
theorem joj : zjd Try.prog 92 = true := by kernel_rfl
theorem zlp : foO Try.prog 92 0 = (some 0) := by kernel_rfl
theorem je2 : foO Try.prog 92 1 = (some 1) := by kernel_rfl
theorem zpy : szO Try.prog 94 = (some 3) := by kernel_rfl
theorem jhn : agO Try.prog 94 = (some true) := by kernel_rfl
theorem jho : zcO Try.prog 94 = (some [(.val (.slice none 0 0)), (.val (.slice none 0 0)), (.val (.int .i64 0))]) := by kernel_rfl
theorem jhp : zaO Try.prog 94 = (some [(.val (.slice none 0 0)), (.val (.slice none 0 0)), (.val (.int .i64 0))]) := by kernel_rfl
theorem jhq : zjd Try.prog 94 = true := by kernel_rfl
theorem zxn : foO Try.prog 94 0 = (some 0) := by kernel_rfl
theorem jlf : ftO Try.prog 94 0 = (some (0, (2, true))) := by kernel_rfl
theorem zt0 : plO Try.prog 94 0 = (some (0, 2)) := by kernel_rfl
theorem je3 : foO Try.prog 94 1 = (some 2) := by kernel_rfl
theorem zt1 : plO Try.prog 94 1 = (some (2, 1)) := by kernel_rfl
theorem zg1 : szO Try.prog 120 = (some 1) := by kernel_rfl
theorem zg2 : agO Try.prog 120 = (some false) := by kernel_rfl
theorem jok : zcO Try.prog 123 = (some [(.val (.pointer none)), (.val (.slice none 0 0)), (.val (.slice none 0 0)), (.val (.slice none 0 0))]) := by kernel_rfl
theorem jol : zjd Try.prog 123 = true := by kernel_rfl
theorem zfn : foO Try.prog 123 0 = (some 0) := by kernel_rfl
theorem jhr : plO Try.prog 123 0 = (some (0, 1)) := by kernel_rfl
theorem zzb : foO Try.prog 123 1 = (some 1) := by kernel_rfl
theorem zmc : foO Try.prog 123 2 = (some 2) := by kernel_rfl
theorem jhs : plO Try.prog 123 2 = (some (2, 1)) := by kernel_rfl
theorem zhb : foO Try.prog 123 3 = (some 3) := by kernel_rfl
theorem jht : plO Try.prog 123 3 = (some (3, 1)) := by kernel_rfl
theorem zix : szO Try.prog 132 = (some 1) := by kernel_rfl
theorem zk9 : agO Try.prog 132 = (some false) := by kernel_rfl
theorem jjj : zaO Try.prog 132 = (some [(.val (.map none))]) := by kernel_rfl
theorem zzc : szO Try.prog 133 = (some 1) := by kernel_rfl
theorem je4 : agO Try.prog 133 = (some false) := by kernel_rfl
theorem jom : zaO Try.prog 133 = (some [(.val .nilFunc)]) := by kernel_rfl
theorem je5 : szO Try.prog 137 = (some 1) := by kernel_rfl
theorem je6 : agO Try.prog 137 = (some false) := by kernel_rfl
theorem zv6 : szO Try.prog 138 = (some 1) := by kernel_rfl
theorem zv7 : agO Try.prog 138 = (some false) := by kernel_rfl
theorem jon : zcO Try.prog 140 = (some [(.val (.slice none 0 0)), (.val (.map none)), (.val (.map none))]) := by kernel_rfl
theorem joo : zjd Try.prog 140 = true := by kernel_rfl
theorem zmd : foO Try.prog 140 0 = (some 0) := by kernel_rfl
theorem jhu : plO Try.prog 140 0 = (some (0, 1)) := by kernel_rfl
theorem zt2 : foO Try.prog 140 1 = (some 1) := by kernel_rfl
theorem jhv : plO Try.prog 140 1 = (some (1, 1)) := by kernel_rfl
theorem zoy : foO Try.prog 140 2 = (some 2) := by kernel_rfl
theorem jhw : plO Try.prog 140 2 = (some (2, 1)) := by kernel_rfl
theorem zzd : szO Try.prog 141 = (some 1) := by kernel_rfl
theorem je7 : agO Try.prog 141 = (some false) := by kernel_rfl
theorem jop : zaO Try.prog 141 = (some [(.val .nilFunc)]) := by kernel_rfl
theorem zsl : szO Try.prog 154 = (some 3) := by kernel_rfl
theorem zv8 : agO Try.prog 154 = (some true) := by kernel_rfl
theorem joq : zcO Try.prog 154 = (some [(.val (.int .i64 0)), (.val (.int .i64 0)), (.val (.int .i64 0))]) := by kernel_rfl
theorem jor : zaO Try.prog 154 = (some [(.val (.int .i64 0)), (.val (.int .i64 0)), (.val (.int .i64 0))]) := by kernel_rfl
theorem jos : zjd Try.prog 154 = true := by kernel_rfl
theorem jhx : plO Try.prog 154 0 = (some (0, 1)) := by kernel_rfl
theorem jhy : plO Try.prog 154 1 = (some (1, 1)) := by kernel_rfl
theorem jhz : plO Try.prog 154 2 = (some (2, 1)) := by kernel_rfl
theorem zpz : laidOutB Try.prog = true := by kernel_rfl
theorem js6 : Maps.Keyed Try.prog 3 := Maps.int_keyed (q := .i64) (by kernel_rfl)
theorem jrk : Maps.Keyed Try.prog 83 := .of_law (deep_law_laid zpz (m := 3) (by omega) (of_decide_eq_true (by kernel_rfl)) (by kernel_rfl) (by kernel_rfl))
theorem jot : Maps.Keyed Try.prog 154 := .of_law (deep_law_laid zpz (m := 3) (by omega) (of_decide_eq_true (by kernel_rfl)) (by kernel_rfl) (by kernel_rfl))
def KT (k : TypeId) : Bool := k == 3 || k == 83 || k == 154
theorem zad (k : TypeId) (h : KT k = true) : Maps.Keyed Try.prog k := by
 simp only [KT, Bool.or_eq_true, beq_iff_eq, or_assoc] at h
 rcases h with rfl | rfl | rfl
 ·exact js6
 ·exact jrk
 ·exact jot
end Go.Proofs.Ytgfnpfchdlcoeaa
