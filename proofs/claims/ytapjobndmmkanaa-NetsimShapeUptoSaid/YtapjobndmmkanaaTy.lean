/- Facts of types, and of the settings. -/
import Derived.Test.YtapjobndmmkanaaAR
import Derived.Test.YtapjobndmmkanaaProg
import Derived.DeepKeys4
set_option linter.unusedVariables false
set_option linter.unusedSimpArgs false
namespace Go.Proofs.Ytapjobndmmkanaa
open Go Go.RowKit
theorem zcb : Try.prog.follows .mixedOrders = true := by kernel_rfl
theorem jfx : szO Try.prog 0 = (some 1) := by kernel_rfl
theorem jfy : agO Try.prog 0 = (some false) := by kernel_rfl
theorem jav : szO Try.prog 1 = (some 1) := by kernel_rfl
theorem jaw : agO Try.prog 1 = (some false) := by kernel_rfl
theorem jfz : szO Try.prog 2 = (some 1) := by kernel_rfl
theorem jf0 : agO Try.prog 2 = (some false) := by kernel_rfl
theorem zo8 : szO Try.prog 3 = (some 1) := by kernel_rfl
theorem zo9 : agO Try.prog 3 = (some false) := by kernel_rfl
theorem zpa : zfe Try.prog 3 = (some .i64) := by kernel_rfl
theorem zuw : szO Try.prog 4 = (some 1) := by kernel_rfl
theorem zux : agO Try.prog 4 = (some false) := by kernel_rfl
theorem jf1 : zei Try.prog 4 = true := by kernel_rfl
theorem jf2 : szO Try.prog 5 = (some 1) := by kernel_rfl
theorem jf3 : agO Try.prog 5 = (some false) := by kernel_rfl
theorem jf4 : zfe Try.prog 5 = (some .u8) := by kernel_rfl
theorem jf5 : szO Try.prog 7 = (some 4) := by kernel_rfl
theorem jf6 : agO Try.prog 7 = (some true) := by kernel_rfl
theorem zvo : szO Try.prog 22 = (some 1) := by kernel_rfl
theorem zvp : agO Try.prog 22 = (some false) := by kernel_rfl
theorem zvq : elO Try.prog 22 = (some (none, (5, 1))) := by kernel_rfl
theorem zvr : mkO Try.prog 22 = (some (1, ([(.val (.int .u8 0))], 1))) := by kernel_rfl
theorem jc8 : szO Try.prog 25 = (some 1) := by kernel_rfl
theorem jc9 : agO Try.prog 25 = (some false) := by kernel_rfl
theorem jda : elO Try.prog 25 = (some (none, (118, 5))) := by kernel_rfl
theorem jdb : mkO Try.prog 25 = (some (5, ([(.val (.int .u8 0)), (.val (.int .u8 0)), (.val (.int .u8 0)), (.val (.int .u8 0)), (.val (.int .u8 0))], 5))) := by kernel_rfl
theorem jdc : szO Try.prog 26 = (some 1) := by kernel_rfl
theorem jdd : agO Try.prog 26 = (some false) := by kernel_rfl
theorem jde : elO Try.prog 26 = (some (none, (96, 4))) := by kernel_rfl
theorem jdf : mkO Try.prog 26 = (some (4, ([(.val (.int .u8 0)), (.val (.int .u8 0)), (.val (.int .u8 0)), (.val (.int .u8 0))], 4))) := by kernel_rfl
theorem zvs : szO Try.prog 28 = (some 3) := by kernel_rfl
theorem zvt : agO Try.prog 28 = (some true) := by kernel_rfl
theorem ztd : foO Try.prog 28 0 = (some 0) := by kernel_rfl
theorem zte : ftO Try.prog 28 0 = (some (0, (1, false))) := by kernel_rfl
theorem ztf : foO Try.prog 28 1 = (some 1) := by kernel_rfl
theorem ztg : ftO Try.prog 28 1 = (some (1, (1, false))) := by kernel_rfl
theorem zth : foO Try.prog 28 2 = (some 2) := by kernel_rfl
theorem zti : ftO Try.prog 28 2 = (some (2, (1, false))) := by kernel_rfl
theorem ze5 : szO Try.prog 29 = (some 1) := by kernel_rfl
theorem ze6 : agO Try.prog 29 = (some false) := by kernel_rfl
theorem ze7 : elO Try.prog 29 = (some (none, (3, 1))) := by kernel_rfl
theorem ze8 : mkO Try.prog 29 = (some (1, ([(.val (.int .i64 0))], 8))) := by kernel_rfl
theorem zhr : szO Try.prog 30 = (some 1) := by kernel_rfl
theorem zhs : agO Try.prog 30 = (some false) := by kernel_rfl
theorem zht : elO Try.prog 30 = (some (none, (29, 1))) := by kernel_rfl
theorem zhu : mkO Try.prog 30 = (some (1, ([(.val (.slice none 0 0))], 24))) := by kernel_rfl
theorem zlt : szO Try.prog 32 = (some 2) := by kernel_rfl
theorem zlu : agO Try.prog 32 = (some true) := by kernel_rfl
theorem zd3 : foO Try.prog 32 0 = (some 0) := by kernel_rfl
theorem zd4 : ftO Try.prog 32 0 = (some (0, (1, false))) := by kernel_rfl
theorem zfo : foO Try.prog 32 1 = (some 1) := by kernel_rfl
theorem zfp : ftO Try.prog 32 1 = (some (1, (1, false))) := by kernel_rfl
theorem zlv : szO Try.prog 33 = (some 1) := by kernel_rfl
theorem zlw : agO Try.prog 33 = (some false) := by kernel_rfl
theorem zlx : elO Try.prog 33 = (some (none, (73, 2))) := by kernel_rfl
theorem zly : mkO Try.prog 33 = (some (2, ([(.val (.bool false)), (.val (.int .i64 0))], 16))) := by kernel_rfl
theorem zhv : szO Try.prog 34 = (some 1) := by kernel_rfl
theorem zhw : agO Try.prog 34 = (some false) := by kernel_rfl
theorem zhx : elO Try.prog 34 = (some (none, (4, 1))) := by kernel_rfl
theorem zhy : mkO Try.prog 34 = (some (1, ([(.val (.bool false))], 1))) := by kernel_rfl
theorem zvu : szO Try.prog 36 = (some 2) := by kernel_rfl
theorem zvv : agO Try.prog 36 = (some true) := by kernel_rfl
theorem zjk : foO Try.prog 36 0 = (some 0) := by kernel_rfl
theorem zjl : ftO Try.prog 36 0 = (some (0, (1, false))) := by kernel_rfl
theorem zjm : foO Try.prog 36 1 = (some 1) := by kernel_rfl
theorem zjn : ftO Try.prog 36 1 = (some (1, (1, false))) := by kernel_rfl
theorem zvw : szO Try.prog 40 = (some 8) := by kernel_rfl
theorem zvx : agO Try.prog 40 = (some true) := by kernel_rfl
theorem zjo : foO Try.prog 40 0 = (some 0) := by kernel_rfl
theorem zjp : ftO Try.prog 40 0 = (some (0, (2, true))) := by kernel_rfl
theorem zjq : foO Try.prog 40 1 = (some 2) := by kernel_rfl
theorem zjr : ftO Try.prog 40 1 = (some (2, (2, true))) := by kernel_rfl
theorem ztj : foO Try.prog 40 2 = (some 4) := by kernel_rfl
theorem ztk : ftO Try.prog 40 2 = (some (4, (1, false))) := by kernel_rfl
theorem zlz : szO Try.prog 43 = (some 1) := by kernel_rfl
theorem zl0 : agO Try.prog 43 = (some false) := by kernel_rfl
theorem zl1 : elO Try.prog 43 = (some (none, (71, 3))) := by kernel_rfl
theorem zl2 : mkO Try.prog 43 = (some (3, ([(.val (.int .i64 0)), (.val (.int .i64 0)), (.val (.int .i64 0))], 24))) := by kernel_rfl
theorem zvy : szO Try.prog 44 = (some 1) := by kernel_rfl
theorem zvz : agO Try.prog 44 = (some false) := by kernel_rfl
theorem zv0 : elO Try.prog 44 = (some (none, (95, 5))) := by kernel_rfl
theorem zv1 : mkO Try.prog 44 = (some (5, ([(.val (.int .i64 0)), (.val (.int .i64 0)), (.val (.int .i64 0)), (.val (.int .i64 0)), (.val (.int .i64 0))], 40))) := by kernel_rfl
theorem ze9 : szO Try.prog 46 = (some 4) := by kernel_rfl
theorem zfa : agO Try.prog 46 = (some true) := by kernel_rfl
theorem zv2 : zcO Try.prog 46 = (some [(.val (.slice none 0 0)), (.val (.slice none 0 0)), (.val (.slice none 0 0)), (.val (.slice none 0 0))]) := by kernel_rfl
theorem zv3 : zaO Try.prog 46 = (some [(.val (.slice none 0 0)), (.val (.slice none 0 0)), (.val (.slice none 0 0)), (.val (.slice none 0 0))]) := by kernel_rfl
theorem jdg : ziv Try.prog 46 = true := by kernel_rfl
theorem zjs : foO Try.prog 46 0 = (some 0) := by kernel_rfl
theorem zjt : ftO Try.prog 46 0 = (some (0, (1, false))) := by kernel_rfl
theorem ztl : plO Try.prog 46 0 = (some (0, 1)) := by kernel_rfl
theorem zju : foO Try.prog 46 1 = (some 1) := by kernel_rfl
theorem zjv : ftO Try.prog 46 1 = (some (1, (1, false))) := by kernel_rfl
theorem ztm : plO Try.prog 46 1 = (some (1, 1)) := by kernel_rfl
theorem zfq : foO Try.prog 46 2 = (some 2) := by kernel_rfl
theorem zfr : ftO Try.prog 46 2 = (some (2, (1, false))) := by kernel_rfl
theorem ztn : plO Try.prog 46 2 = (some (2, 1)) := by kernel_rfl
theorem zjw : foO Try.prog 46 3 = (some 3) := by kernel_rfl
theorem zjx : ftO Try.prog 46 3 = (some (3, (1, false))) := by kernel_rfl
theorem zto : plO Try.prog 46 3 = (some (3, 1)) := by kernel_rfl
theorem zv4 : szO Try.prog 51 = (some 2) := by kernel_rfl
theorem zv5 : agO Try.prog 51 = (some true) := by kernel_rfl
theorem zv6 : elO Try.prog 51 = (some ((some 2), (3, 1))) := by kernel_rfl
theorem jdh : zcO Try.prog 51 = (some [(.val (.int .i64 0)), (.val (.int .i64 0))]) := by kernel_rfl
theorem jdi : zaO Try.prog 51 = (some [(.val (.int .i64 0)), (.val (.int .i64 0))]) := by kernel_rfl
theorem jdj : ziv Try.prog 51 = true := by kernel_rfl
theorem ztp : plO Try.prog 51 0 = (some (0, 1)) := by kernel_rfl
theorem ztq : plO Try.prog 51 1 = (some (1, 1)) := by kernel_rfl
theorem ztr : plO Try.prog 51 2 = (some (2, 1)) := by kernel_rfl
theorem zts : plO Try.prog 51 3 = (some (3, 1)) := by kernel_rfl
theorem ztt : plO Try.prog 51 4 = (some (4, 1)) := by kernel_rfl
theorem ztu : plO Try.prog 51 5 = (some (5, 1)) := by kernel_rfl
theorem ztv : plO Try.prog 51 6 = (some (6, 1)) := by kernel_rfl
theorem ztw : plO Try.prog 51 7 = (some (7, 1)) := by kernel_rfl
theorem ztx : plO Try.prog 51 8 = (some (8, 1)) := by kernel_rfl
theorem zty : plO Try.prog 51 9 = (some (9, 1)) := by kernel_rfl
theorem zpb : plO Try.prog 51 10 = (some (10, 1)) := by kernel_rfl
theorem zpc : plO Try.prog 51 11 = (some (11, 1)) := by kernel_rfl
theorem zjy : szO Try.prog 60 = (some 5) := by kernel_rfl
theorem zjz : agO Try.prog 60 = (some true) := by kernel_rfl
theorem zqd : zcO Try.prog 60 = (some [(.val (.bool false)), (.val (.slice none 0 0)), (.val (.slice none 0 0)), (.val (.slice none 0 0)), (.val (.slice none 0 0))]) := by kernel_rfl
theorem zqe : zaO Try.prog 60 = (some [(.val (.bool false)), (.val (.slice none 0 0)), (.val (.slice none 0 0)), (.val (.slice none 0 0)), (.val (.slice none 0 0))]) := by kernel_rfl
theorem ztz : foO Try.prog 60 0 = (some 0) := by kernel_rfl
theorem zt0 : ftO Try.prog 60 0 = (some (0, (1, false))) := by kernel_rfl
theorem zj0 : foO Try.prog 60 1 = (some 1) := by kernel_rfl
theorem zj1 : ftO Try.prog 60 1 = (some (1, (2, true))) := by kernel_rfl
theorem zj2 : foO Try.prog 60 2 = (some 3) := by kernel_rfl
theorem zj3 : ftO Try.prog 60 2 = (some (3, (1, false))) := by kernel_rfl
theorem zj4 : foO Try.prog 60 3 = (some 4) := by kernel_rfl
theorem zj5 : ftO Try.prog 60 3 = (some (4, (1, false))) := by kernel_rfl
theorem zl3 : szO Try.prog 71 = (some 3) := by kernel_rfl
theorem zl4 : agO Try.prog 71 = (some true) := by kernel_rfl
theorem zqf : zcO Try.prog 71 = (some [(.val (.int .i64 0)), (.val (.int .i64 0)), (.val (.int .i64 0))]) := by kernel_rfl
theorem zqg : zaO Try.prog 71 = (some [(.val (.int .i64 0)), (.val (.int .i64 0)), (.val (.int .i64 0))]) := by kernel_rfl
theorem jdk : ziv Try.prog 71 = true := by kernel_rfl
theorem zd5 : foO Try.prog 71 0 = (some 0) := by kernel_rfl
theorem zd6 : ftO Try.prog 71 0 = (some (0, (1, false))) := by kernel_rfl
theorem zt1 : plO Try.prog 71 0 = (some (0, 1)) := by kernel_rfl
theorem zfs : foO Try.prog 71 1 = (some 1) := by kernel_rfl
theorem zft : ftO Try.prog 71 1 = (some (1, (1, false))) := by kernel_rfl
theorem zt2 : plO Try.prog 71 1 = (some (1, 1)) := by kernel_rfl
theorem zfu : foO Try.prog 71 2 = (some 2) := by kernel_rfl
theorem zfv : ftO Try.prog 71 2 = (some (2, (1, false))) := by kernel_rfl
theorem zt3 : plO Try.prog 71 2 = (some (2, 1)) := by kernel_rfl
theorem zqh : szO Try.prog 73 = (some 2) := by kernel_rfl
theorem zqi : agO Try.prog 73 = (some true) := by kernel_rfl
theorem jdl : zcO Try.prog 73 = (some [(.val (.bool false)), (.val (.int .i64 0))]) := by kernel_rfl
theorem jdm : zaO Try.prog 73 = (some [(.val (.bool false)), (.val (.int .i64 0))]) := by kernel_rfl
theorem jdn : ziv Try.prog 73 = true := by kernel_rfl
theorem zj6 : foO Try.prog 73 0 = (some 0) := by kernel_rfl
theorem zj7 : ftO Try.prog 73 0 = (some (0, (1, false))) := by kernel_rfl
theorem zt4 : plO Try.prog 73 0 = (some (0, 1)) := by kernel_rfl
theorem zj8 : foO Try.prog 73 1 = (some 1) := by kernel_rfl
theorem zj9 : ftO Try.prog 73 1 = (some (1, (1, false))) := by kernel_rfl
theorem zt5 : plO Try.prog 73 1 = (some (1, 1)) := by kernel_rfl
theorem zv7 : szO Try.prog 95 = (some 5) := by kernel_rfl
theorem zv8 : agO Try.prog 95 = (some true) := by kernel_rfl
theorem zv9 : zcO Try.prog 95 = (some [(.val (.int .i64 0)), (.val (.int .i64 0)), (.val (.int .i64 0)), (.val (.int .i64 0)), (.val (.int .i64 0))]) := by kernel_rfl
theorem zwa : zaO Try.prog 95 = (some [(.val (.int .i64 0)), (.val (.int .i64 0)), (.val (.int .i64 0)), (.val (.int .i64 0)), (.val (.int .i64 0))]) := by kernel_rfl
theorem jdo : ziv Try.prog 95 = true := by kernel_rfl
theorem zka : foO Try.prog 95 0 = (some 0) := by kernel_rfl
theorem zkb : ftO Try.prog 95 0 = (some (0, (1, false))) := by kernel_rfl
theorem zt6 : plO Try.prog 95 0 = (some (0, 1)) := by kernel_rfl
theorem zt7 : foO Try.prog 95 1 = (some 1) := by kernel_rfl
theorem zt8 : ftO Try.prog 95 1 = (some (1, (1, false))) := by kernel_rfl
theorem zt9 : plO Try.prog 95 1 = (some (1, 1)) := by kernel_rfl
theorem zkc : foO Try.prog 95 2 = (some 2) := by kernel_rfl
theorem zkd : ftO Try.prog 95 2 = (some (2, (1, false))) := by kernel_rfl
theorem zua : plO Try.prog 95 2 = (some (2, 1)) := by kernel_rfl
theorem zke : foO Try.prog 95 3 = (some 3) := by kernel_rfl
theorem zkf : ftO Try.prog 95 3 = (some (3, (1, false))) := by kernel_rfl
theorem zub : plO Try.prog 95 3 = (some (3, 1)) := by kernel_rfl
theorem zkg : foO Try.prog 95 4 = (some 4) := by kernel_rfl
theorem zkh : ftO Try.prog 95 4 = (some (4, (1, false))) := by kernel_rfl
theorem zuc : plO Try.prog 95 4 = (some (4, 1)) := by kernel_rfl
theorem jdp : szO Try.prog 96 = (some 4) := by kernel_rfl
theorem jdq : agO Try.prog 96 = (some true) := by kernel_rfl
theorem jdr : elO Try.prog 96 = (some ((some 4), (5, 1))) := by kernel_rfl
theorem jds : zcO Try.prog 96 = (some [(.val (.int .u8 0)), (.val (.int .u8 0)), (.val (.int .u8 0)), (.val (.int .u8 0))]) := by kernel_rfl
theorem jdt : zaO Try.prog 96 = (some [(.val (.int .u8 0)), (.val (.int .u8 0)), (.val (.int .u8 0)), (.val (.int .u8 0))]) := by kernel_rfl
theorem zyp : szO Try.prog 118 = (some 5) := by kernel_rfl
theorem zyq : agO Try.prog 118 = (some true) := by kernel_rfl
theorem zyr : elO Try.prog 118 = (some ((some 5), (5, 1))) := by kernel_rfl
theorem zys : zcO Try.prog 118 = (some [(.val (.int .u8 0)), (.val (.int .u8 0)), (.val (.int .u8 0)), (.val (.int .u8 0)), (.val (.int .u8 0))]) := by kernel_rfl
theorem zyt : zaO Try.prog 118 = (some [(.val (.int .u8 0)), (.val (.int .u8 0)), (.val (.int .u8 0)), (.val (.int .u8 0)), (.val (.int .u8 0))]) := by kernel_rfl
theorem zyu : szO Try.prog 119 = (some 1) := by kernel_rfl
theorem zyv : agO Try.prog 119 = (some false) := by kernel_rfl
theorem zyw : szO Try.prog 121 = (some 2) := by kernel_rfl
theorem zyx : agO Try.prog 121 = (some true) := by kernel_rfl
theorem zpd : foO Try.prog 121 1 = (some 1) := by kernel_rfl
theorem zpe : ftO Try.prog 121 1 = (some (1, (1, false))) := by kernel_rfl
theorem zyy : szO Try.prog 122 = (some 12) := by kernel_rfl
theorem zyz : agO Try.prog 122 = (some true) := by kernel_rfl
theorem zy0 : elO Try.prog 122 = (some ((some 6), (121, 2))) := by kernel_rfl
theorem zy1 : zcO Try.prog 122 = (some [(.val (.int .i64 0)), (.val .nilFunc), (.val (.int .i64 0)), (.val .nilFunc), (.val (.int .i64 0)), (.val .nilFunc), (.val (.int .i64 0)), (.val .nilFunc), (.val (.int .i64 0)), (.val .nilFunc), (.val (.int .i64 0)), (.val .nilFunc)]) := by kernel_rfl
theorem zy2 : zaO Try.prog 122 = (some [(.val (.int .i64 0)), (.val .nilFunc), (.val (.int .i64 0)), (.val .nilFunc), (.val (.int .i64 0)), (.val .nilFunc), (.val (.int .i64 0)), (.val .nilFunc), (.val (.int .i64 0)), (.val .nilFunc), (.val (.int .i64 0)), (.val .nilFunc)]) := by kernel_rfl
theorem zy3 : szO Try.prog 127 = (some 1) := by kernel_rfl
theorem zy4 : agO Try.prog 127 = (some false) := by kernel_rfl
theorem zy5 : elO Try.prog 127 = (some (none, (121, 2))) := by kernel_rfl
theorem zy6 : mkO Try.prog 127 = (some (2, ([(.val (.int .i64 0)), (.val .nilFunc)], 16))) := by kernel_rfl
theorem zy7 : szO Try.prog 128 = (some 1) := by kernel_rfl
theorem zy8 : agO Try.prog 128 = (some false) := by kernel_rfl
theorem zy9 : szO Try.prog 131 = (some 1) := by kernel_rfl
theorem zza : agO Try.prog 131 = (some false) := by kernel_rfl
theorem zzb : zec Try.prog 131 = (some (134, 4)) := by kernel_rfl
theorem zzc : zvO Try.prog 131 = (some (.d (.val (.map none)))) := by kernel_rfl
theorem zzd : szO Try.prog 132 = (some 1) := by kernel_rfl
theorem zze : agO Try.prog 132 = (some false) := by kernel_rfl
theorem zzf : zec Try.prog 132 = (some (134, 3)) := by kernel_rfl
theorem zzg : zvO Try.prog 132 = (some (.d (.val (.map none)))) := by kernel_rfl
theorem zzh : szO Try.prog 134 = (some 2) := by kernel_rfl
theorem zzi : agO Try.prog 134 = (some true) := by kernel_rfl
theorem zzj : zcO Try.prog 134 = (some [(.val (.int .i64 0)), (.val (.int .i64 0))]) := by kernel_rfl
theorem zzk : zaO Try.prog 134 = (some [(.val (.int .i64 0)), (.val (.int .i64 0))]) := by kernel_rfl
theorem zzl : ziv Try.prog 134 = true := by kernel_rfl
theorem zpf : plO Try.prog 134 0 = (some (0, 1)) := by kernel_rfl
theorem zpg : plO Try.prog 134 1 = (some (1, 1)) := by kernel_rfl
theorem zhl : laidOutB Try.prog = true := by kernel_rfl
theorem jgd : Maps.Keyed Try.prog 3 := Maps.int_keyed (q := .i64) (by kernel_rfl)
theorem jfb : Maps.Keyed Try.prog 71 := .of_law (deep_law_laid zhl (m := 3) (by omega) (of_decide_eq_true (by kernel_rfl)) (by kernel_rfl) (by kernel_rfl))
theorem jfc : Maps.Keyed Try.prog 95 := .of_law (deep_law_laid zhl (m := 3) (by omega) (of_decide_eq_true (by kernel_rfl)) (by kernel_rfl) (by kernel_rfl))
theorem jdu : Maps.Keyed Try.prog 134 := .of_law (deep_law_laid zhl (m := 3) (by omega) (of_decide_eq_true (by kernel_rfl)) (by kernel_rfl) (by kernel_rfl))
def KT (k : TypeId) : Bool := k == 3 || k == 71 || k == 95 || k == 134
theorem zar (k : TypeId) (h : KT k = true) : Maps.Keyed Try.prog k := by
 simp only [KT, Bool.or_eq_true, beq_iff_eq, or_assoc] at h
 rcases h with rfl | rfl | rfl | rfl
 ·exact jgd
 ·exact jfb
 ·exact jfc
 ·exact jdu
end Go.Proofs.Ytapjobndmmkanaa
