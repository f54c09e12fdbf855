/- Facts of types, and of the settings. -/
import Derived.Test.YtgfnpfchdlcoeaaAR
import Derived.Test.YtgfnpfchdlcoeaaProg
import Derived.DeepKeys4
set_option linter.unusedVariables false
set_option linter.unusedSimpArgs false
namespace Go.Proofs.Ytgfnpfchdlcoeaa
open Go Go.RowKit
theorem mixed : Try.prog.follows .mixedOrders = true := by kernel_rfl
theorem sz_3 : szO Try.prog 3 = (some 1) := by kernel_rfl
theorem ag_3 : agO Try.prog 3 = (some false) := by kernel_rfl
theorem za_3 : zaO Try.prog 3 = (some [(.val (.int .i64 0))]) := by kernel_rfl
theorem ik_3 : zp0 Try.prog 3 = (some .i64) := by kernel_rfl
theorem sz_4 : szO Try.prog 4 = (some 1) := by kernel_rfl
theorem ag_4 : agO Try.prog 4 = (some false) := by kernel_rfl
theorem bt_4 : zk7 Try.prog 4 = true := by kernel_rfl
theorem sz_5 : szO Try.prog 5 = (some 1) := by kernel_rfl
theorem ag_5 : agO Try.prog 5 = (some false) := by kernel_rfl
theorem ik_5 : zp0 Try.prog 5 = (some .u8) := by kernel_rfl
theorem ztk : szO Try.prog 22 = (some 1) := by kernel_rfl
theorem ztl : agO Try.prog 22 = (some false) := by kernel_rfl
theorem ztm : elO Try.prog 22 = (some (none, (5, 1))) := by kernel_rfl
theorem mk_22 : mkO Try.prog 22 = (some (1, ([(.val (.int .u8 0))], 1))) := by kernel_rfl
theorem sz_23 : szO Try.prog 23 = (some 1) := by kernel_rfl
theorem ag_23 : agO Try.prog 23 = (some false) := by kernel_rfl
theorem eo_23 : elO Try.prog 23 = (some (none, (87, 5))) := by kernel_rfl
theorem mk_23 : mkO Try.prog 23 = (some (5, ([(.val (.int .u8 0)), (.val (.int .u8 0)), (.val (.int .u8 0)), (.val (.int .u8 0)), (.val (.int .u8 0))], 5))) := by kernel_rfl
theorem sz_24 : szO Try.prog 24 = (some 1) := by kernel_rfl
theorem ag_24 : agO Try.prog 24 = (some false) := by kernel_rfl
theorem eo_24 : elO Try.prog 24 = (some (none, (88, 4))) := by kernel_rfl
theorem mk_24 : mkO Try.prog 24 = (some (4, ([(.val (.int .u8 0)), (.val (.int .u8 0)), (.val (.int .u8 0)), (.val (.int .u8 0))], 4))) := by kernel_rfl
theorem zkx : szO Try.prog 26 = (some 3) := by kernel_rfl
theorem zky : agO Try.prog 26 = (some true) := by kernel_rfl
theorem zkb : foO Try.prog 26 0 = (some 0) := by kernel_rfl
theorem zur : ftO Try.prog 26 0 = (some (0, (1, false))) := by kernel_rfl
theorem zm4 : foO Try.prog 26 1 = (some 1) := by kernel_rfl
theorem zus : ftO Try.prog 26 1 = (some (1, (1, false))) := by kernel_rfl
theorem zm5 : foO Try.prog 26 2 = (some 2) := by kernel_rfl
theorem zut : ftO Try.prog 26 2 = (some (2, (1, false))) := by kernel_rfl
theorem sz_27 : szO Try.prog 27 = (some 3) := by kernel_rfl
theorem ag_27 : agO Try.prog 27 = (some true) := by kernel_rfl
theorem eo_27 : elO Try.prog 27 = (some ((some 3), (5, 1))) := by kernel_rfl
theorem zen : szO Try.prog 28 = (some 1) := by kernel_rfl
theorem zeo : agO Try.prog 28 = (some false) := by kernel_rfl
theorem zep : elO Try.prog 28 = (some (none, (83, 3))) := by kernel_rfl
theorem mk_28 : mkO Try.prog 28 = (some (3, ([(.val (.int .i64 0)), (.val (.int .i64 0)), (.val (.int .i64 0))], 24))) := by kernel_rfl
theorem zfg : szO Try.prog 29 = (some 1) := by kernel_rfl
theorem zfh : agO Try.prog 29 = (some false) := by kernel_rfl
theorem zea : elO Try.prog 29 = (some (none, (3, 1))) := by kernel_rfl
theorem zgp : mkO Try.prog 29 = (some (1, ([(.val (.int .i64 0))], 8))) := by kernel_rfl
theorem zez : szO Try.prog 31 = (some 2) := by kernel_rfl
theorem zft : agO Try.prog 31 = (some true) := by kernel_rfl
theorem zuu : zcO Try.prog 31 = (some [(.val (.slice none 0 0)), (.val (.slice none 0 0))]) := by kernel_rfl
theorem zuv : zaO Try.prog 31 = (some [(.val (.slice none 0 0)), (.val (.slice none 0 0))]) := by kernel_rfl
theorem zuw : zlb Try.prog 31 = true := by kernel_rfl
theorem zdc : foO Try.prog 31 0 = (some 0) := by kernel_rfl
theorem ft_31_0 : ftO Try.prog 31 0 = (some (0, (1, false))) := by kernel_rfl
theorem pl_31_0 : plO Try.prog 31 0 = (some (0, 1)) := by kernel_rfl
theorem zeh : foO Try.prog 31 1 = (some 1) := by kernel_rfl
theorem zux : plO Try.prog 31 1 = (some (1, 1)) := by kernel_rfl
theorem sz_32 : szO Try.prog 32 = (some 1) := by kernel_rfl
theorem ag_32 : agO Try.prog 32 = (some false) := by kernel_rfl
theorem zjv : elO Try.prog 32 = (some (none, (84, 2))) := by kernel_rfl
theorem mk_32 : mkO Try.prog 32 = (some (2, ([(.val (.int .i64 0)), (.val (.int .i64 0))], 16))) := by kernel_rfl
theorem ztn : szO Try.prog 33 = (some 1) := by kernel_rfl
theorem zto : agO Try.prog 33 = (some false) := by kernel_rfl
theorem zhy : elO Try.prog 33 = (some (none, (4, 1))) := by kernel_rfl
theorem zjw : mkO Try.prog 33 = (some (1, ([(.val (.bool false))], 1))) := by kernel_rfl
theorem zkc : szO Try.prog 38 = (some 1) := by kernel_rfl
theorem zkd : agO Try.prog 38 = (some false) := by kernel_rfl
theorem znp : elO Try.prog 38 = (some (none, (86, 3))) := by kernel_rfl
theorem mk_38 : mkO Try.prog 38 = (some (3, ([(.val (.int .i64 0)), (.val (.int .i64 0)), (.val (.int .i64 0))], 24))) := by kernel_rfl
theorem znq : szO Try.prog 39 = (some 1) := by kernel_rfl
theorem znr : agO Try.prog 39 = (some false) := by kernel_rfl
theorem zr2 : elO Try.prog 39 = (some (none, (64, 5))) := by kernel_rfl
theorem mk_39 : mkO Try.prog 39 = (some (5, ([(.val (.int .i64 0)), (.val (.int .i64 0)), (.val (.int .i64 0)), (.val (.int .i64 0)), (.val (.int .i64 0))], 40))) := by kernel_rfl
theorem zes : szO Try.prog 41 = (some 4) := by kernel_rfl
theorem zfi : agO Try.prog 41 = (some true) := by kernel_rfl
theorem zc_41 : zcO Try.prog 41 = (some [(.val (.slice none 0 0)), (.val (.slice none 0 0)), (.val (.slice none 0 0)), (.val (.slice none 0 0))]) := by kernel_rfl
theorem ztp : zaO Try.prog 41 = (some [(.val (.slice none 0 0)), (.val (.slice none 0 0)), (.val (.slice none 0 0)), (.val (.slice none 0 0))]) := by kernel_rfl
theorem pa_41 : zlb Try.prog 41 = true := by kernel_rfl
theorem zgq : foO Try.prog 41 0 = (some 0) := by kernel_rfl
theorem pl_41_0 : plO Try.prog 41 0 = (some (0, 1)) := by kernel_rfl
theorem zhe : foO Try.prog 41 1 = (some 1) := by kernel_rfl
theorem zuy : foO Try.prog 41 2 = (some 2) := by kernel_rfl
theorem fo_41_3 : foO Try.prog 41 3 = (some 3) := by kernel_rfl
theorem zjx : szO Try.prog 45 = (some 1) := by kernel_rfl
theorem zjy : agO Try.prog 45 = (some false) := by kernel_rfl
theorem zns : szO Try.prog 47 = (some 3) := by kernel_rfl
theorem ag_47 : agO Try.prog 47 = (some true) := by kernel_rfl
theorem zc_47 : zcO Try.prog 47 = (some [(.val (.slice none 0 0)), (.val (.slice none 0 0)), (.val (.int .i64 0))]) := by kernel_rfl
theorem ztq : zaO Try.prog 47 = (some [(.val (.slice none 0 0)), (.val (.slice none 0 0)), (.val (.int .i64 0))]) := by kernel_rfl
theorem pa_47 : zlb Try.prog 47 = true := by kernel_rfl
theorem zhf : foO Try.prog 47 0 = (some 0) := by kernel_rfl
theorem zr3 : plO Try.prog 47 0 = (some (0, 2)) := by kernel_rfl
theorem zgr : foO Try.prog 47 1 = (some 2) := by kernel_rfl
theorem ft_47_1 : ftO Try.prog 47 1 = (some (2, (1, false))) := by kernel_rfl
theorem pl_47_1 : plO Try.prog 47 1 = (some (2, 1)) := by kernel_rfl
theorem sz_53 : szO Try.prog 53 = (some 2) := by kernel_rfl
theorem ag_53 : agO Try.prog 53 = (some true) := by kernel_rfl
theorem zc_53 : zcO Try.prog 53 = (some [(.val (.slice none 0 0)), (.val (.int .i64 0))]) := by kernel_rfl
theorem za_53 : zaO Try.prog 53 = (some [(.val (.slice none 0 0)), (.val (.int .i64 0))]) := by kernel_rfl
theorem pa_53 : zlb Try.prog 53 = true := by kernel_rfl
theorem zuz : foO Try.prog 53 0 = (some 0) := by kernel_rfl
theorem pl_53_0 : plO Try.prog 53 0 = (some (0, 1)) := by kernel_rfl
theorem zu0 : foO Try.prog 53 1 = (some 1) := by kernel_rfl
theorem ft_53_1 : ftO Try.prog 53 1 = (some (1, (1, false))) := by kernel_rfl
theorem pl_53_1 : plO Try.prog 53 1 = (some (1, 1)) := by kernel_rfl
theorem sz_59 : szO Try.prog 59 = (some 2) := by kernel_rfl
theorem ag_59 : agO Try.prog 59 = (some true) := by kernel_rfl
theorem zc_59 : zcO Try.prog 59 = (some [(.val (.int .i64 0)), (.val (.int .i64 0))]) := by kernel_rfl
theorem za_59 : zaO Try.prog 59 = (some [(.val (.int .i64 0)), (.val (.int .i64 0))]) := by kernel_rfl
theorem pa_59 : zlb Try.prog 59 = true := by kernel_rfl
theorem eq_59 : eqTy Try.prog 59 = (some [0, 1]) := by kernel_rfl
theorem fo_59_0 : foO Try.prog 59 0 = (some 0) := by kernel_rfl
theorem pl_59_0 : plO Try.prog 59 0 = (some (0, 1)) := by kernel_rfl
theorem fo_59_1 : foO Try.prog 59 1 = (some 1) := by kernel_rfl
theorem ft_59_1 : ftO Try.prog 59 1 = (some (1, (1, false))) := by kernel_rfl
theorem pl_59_1 : plO Try.prog 59 1 = (some (1, 1)) := by kernel_rfl
theorem zr4 : szO Try.prog 64 = (some 5) := by kernel_rfl
theorem ztr : agO Try.prog 64 = (some true) := by kernel_rfl
theorem zc_64 : zcO Try.prog 64 = (some [(.val (.int .i64 0)), (.val (.int .i64 0)), (.val (.int .i64 0)), (.val (.int .i64 0)), (.val (.int .i64 0))]) := by kernel_rfl
theorem za_64 : zaO Try.prog 64 = (some [(.val (.int .i64 0)), (.val (.int .i64 0)), (.val (.int .i64 0)), (.val (.int .i64 0)), (.val (.int .i64 0))]) := by kernel_rfl
theorem pa_64 : zlb Try.prog 64 = true := by kernel_rfl
theorem zke : foO Try.prog 64 0 = (some 0) := by kernel_rfl
theorem pl_64_0 : plO Try.prog 64 0 = (some (0, 1)) := by kernel_rfl
theorem zu1 : foO Try.prog 64 1 = (some 1) := by kernel_rfl
theorem pl_64_1 : plO Try.prog 64 1 = (some (1, 1)) := by kernel_rfl
theorem zr5 : foO Try.prog 64 2 = (some 2) := by kernel_rfl
theorem zr6 : foO Try.prog 64 3 = (some 3) := by kernel_rfl
theorem zu2 : foO Try.prog 64 4 = (some 4) := by kernel_rfl
theorem eo_72 : elO Try.prog 72 = (some (none, (29, 1))) := by kernel_rfl
theorem mk_72 : mkO Try.prog 72 = (some (1, ([(.val (.slice none 0 0))], 24))) := by kernel_rfl
theorem zm6 : elO Try.prog 75 = (some (none, (33, 1))) := by kernel_rfl
theorem mk_75 : mkO Try.prog 75 = (some (1, ([(.val (.slice none 0 0))], 24))) := by kernel_rfl
theorem ik_78 : zp0 Try.prog 78 = (some .u64) := by kernel_rfl
theorem zis : szO Try.prog 83 = (some 3) := by kernel_rfl
theorem zje : agO Try.prog 83 = (some true) := by kernel_rfl
theorem zc_83 : zcO Try.prog 83 = (some [(.val (.int .i64 0)), (.val (.int .i64 0)), (.val (.int .i64 0))]) := by kernel_rfl
theorem zp7 : zaO Try.prog 83 = (some [(.val (.int .i64 0)), (.val (.int .i64 0)), (.val (.int .i64 0))]) := by kernel_rfl
theorem pa_83 : zlb Try.prog 83 = true := by kernel_rfl
theorem eq_83 : eqTy Try.prog 83 = (some [0, 1, 2]) := by kernel_rfl
theorem zdf : foO Try.prog 83 0 = (some 0) := by kernel_rfl
theorem zpi : plO Try.prog 83 0 = (some (0, 1)) := by kernel_rfl
theorem zd3 : foO Try.prog 83 1 = (some 1) := by kernel_rfl
theorem zr7 : plO Try.prog 83 1 = (some (1, 1)) := by kernel_rfl
theorem ze0 : foO Try.prog 83 2 = (some 2) := by kernel_rfl
theorem zr8 : plO Try.prog 83 2 = (some (2, 1)) := by kernel_rfl
theorem sz_84 : szO Try.prog 84 = (some 2) := by kernel_rfl
theorem ag_84 : agO Try.prog 84 = (some true) := by kernel_rfl
theorem zp8 : elO Try.prog 84 = (some ((some 2), (3, 1))) := by kernel_rfl
theorem zc_84 : zcO Try.prog 84 = (some [(.val (.int .i64 0)), (.val (.int .i64 0))]) := by kernel_rfl
theorem za_84 : zaO Try.prog 84 = (some [(.val (.int .i64 0)), (.val (.int .i64 0))]) := by kernel_rfl
theorem pa_84 : zlb Try.prog 84 = true := by kernel_rfl
theorem zu3 : plO Try.prog 84 0 = (some (0, 1)) := by kernel_rfl
theorem zu4 : plO Try.prog 84 1 = (some (1, 1)) := by kernel_rfl
theorem sz_86 : szO Try.prog 86 = (some 3) := by kernel_rfl
theorem ag_86 : agO Try.prog 86 = (some true) := by kernel_rfl
theorem zc_86 : zcO Try.prog 86 = (some [(.val (.int .i64 0)), (.val (.int .i64 0)), (.val (.int .i64 0))]) := by kernel_rfl
theorem za_86 : zaO Try.prog 86 = (some [(.val (.int .i64 0)), (.val (.int .i64 0)), (.val (.int .i64 0))]) := by kernel_rfl
theorem pa_86 : zlb Try.prog 86 = true := by kernel_rfl
theorem zu5 : foO Try.prog 86 0 = (some 0) := by kernel_rfl
theorem zr9 : plO Try.prog 86 0 = (some (0, 1)) := by kernel_rfl
theorem pl_86_1 : plO Try.prog 86 1 = (some (1, 1)) := by kernel_rfl
theorem fo_86_2 : foO Try.prog 86 2 = (some 2) := by kernel_rfl
theorem pl_86_2 : plO Try.prog 86 2 = (some (2, 1)) := by kernel_rfl
theorem sz_87 : szO Try.prog 87 = (some 5) := by kernel_rfl
theorem ag_87 : agO Try.prog 87 = (some true) := by kernel_rfl
theorem eo_87 : elO Try.prog 87 = (some ((some 5), (5, 1))) := by kernel_rfl
theorem za_87 : zaO Try.prog 87 = (some [(.val (.int .u8 0)), (.val (.int .u8 0)), (.val (.int .u8 0)), (.val (.int .u8 0)), (.val (.int .u8 0))]) := by kernel_rfl
theorem sz_88 : szO Try.prog 88 = (some 4) := by kernel_rfl
theorem ag_88 : agO Try.prog 88 = (some true) := by kernel_rfl
theorem eo_88 : elO Try.prog 88 = (some ((some 4), (5, 1))) := by kernel_rfl
theorem za_88 : zaO Try.prog 88 = (some [(.val (.int .u8 0)), (.val (.int .u8 0)), (.val (.int .u8 0)), (.val (.int .u8 0))]) := by kernel_rfl
theorem zqs : szO Try.prog 107 = (some 1) := by kernel_rfl
theorem zqt : agO Try.prog 107 = (some false) := by kernel_rfl
theorem zkt : foO Try.prog 109 1 = (some 1) := by kernel_rfl
theorem sz_110 : szO Try.prog 110 = (some 12) := by kernel_rfl
theorem zjo : elO Try.prog 110 = (some ((some 6), (109, 2))) := by kernel_rfl
theorem za_110 : zaO Try.prog 110 = (some [(.val (.int .i64 0)), (.val .nilFunc), (.val (.int .i64 0)), (.val .nilFunc), (.val (.int .i64 0)), (.val .nilFunc), (.val (.int .i64 0)), (.val .nilFunc), (.val (.int .i64 0)), (.val .nilFunc), (.val (.int .i64 0)), (.val .nilFunc)]) := by kernel_rfl
theorem zhz : szO Try.prog 120 = (some 1) := by kernel_rfl
theorem zh0 : agO Try.prog 120 = (some false) := by kernel_rfl
theorem zc_123 : zcO Try.prog 123 = (some [(.val (.pointer none)), (.val (.slice none 0 0)), (.val (.slice none 0 0)), (.val (.slice none 0 0))]) := by kernel_rfl
theorem pa_123 : zlb Try.prog 123 = true := by kernel_rfl
theorem zgs : foO Try.prog 123 0 = (some 0) := by kernel_rfl
theorem pl_123_0 : plO Try.prog 123 0 = (some (0, 1)) := by kernel_rfl
theorem fo_123_1 : foO Try.prog 123 1 = (some 1) := by kernel_rfl
theorem zmg : foO Try.prog 123 2 = (some 2) := by kernel_rfl
theorem pl_123_2 : plO Try.prog 123 2 = (some (2, 1)) := by kernel_rfl
theorem zih : foO Try.prog 123 3 = (some 3) := by kernel_rfl
theorem pl_123_3 : plO Try.prog 123 3 = (some (3, 1)) := by kernel_rfl
theorem zjp : szO Try.prog 132 = (some 1) := by kernel_rfl
theorem zk4 : agO Try.prog 132 = (some false) := by kernel_rfl
theorem za_132 : zaO Try.prog 132 = (some [(.val (.map none))]) := by kernel_rfl
theorem sz_133 : szO Try.prog 133 = (some 1) := by kernel_rfl
theorem ag_133 : agO Try.prog 133 = (some false) := by kernel_rfl
theorem za_133 : zaO Try.prog 133 = (some [(.val .nilFunc)]) := by kernel_rfl
theorem sz_137 : szO Try.prog 137 = (some 1) := by kernel_rfl
theorem ag_137 : agO Try.prog 137 = (some false) := by kernel_rfl
theorem zts : szO Try.prog 138 = (some 1) := by kernel_rfl
theorem ztt : agO Try.prog 138 = (some false) := by kernel_rfl
theorem zc_140 : zcO Try.prog 140 = (some [(.val (.slice none 0 0)), (.val (.map none)), (.val (.map none))]) := by kernel_rfl
theorem pa_140 : zlb Try.prog 140 = true := by kernel_rfl
theorem zmh : foO Try.prog 140 0 = (some 0) := by kernel_rfl
theorem pl_140_0 : plO Try.prog 140 0 = (some (0, 1)) := by kernel_rfl
theorem zsa : foO Try.prog 140 1 = (some 1) := by kernel_rfl
theorem pl_140_1 : plO Try.prog 140 1 = (some (1, 1)) := by kernel_rfl
theorem zom : foO Try.prog 140 2 = (some 2) := by kernel_rfl
theorem pl_140_2 : plO Try.prog 140 2 = (some (2, 1)) := by kernel_rfl
theorem sz_141 : szO Try.prog 141 = (some 1) := by kernel_rfl
theorem ag_141 : agO Try.prog 141 = (some false) := by kernel_rfl
theorem za_141 : zaO Try.prog 141 = (some [(.val .nilFunc)]) := by kernel_rfl
theorem zqu : szO Try.prog 154 = (some 3) := by kernel_rfl
theorem ztu : agO Try.prog 154 = (some true) := by kernel_rfl
theorem zc_154 : zcO Try.prog 154 = (some [(.val (.int .i64 0)), (.val (.int .i64 0)), (.val (.int .i64 0))]) := by kernel_rfl
theorem za_154 : zaO Try.prog 154 = (some [(.val (.int .i64 0)), (.val (.int .i64 0)), (.val (.int .i64 0))]) := by kernel_rfl
theorem pa_154 : zlb Try.prog 154 = true := by kernel_rfl
theorem pl_154_0 : plO Try.prog 154 0 = (some (0, 1)) := by kernel_rfl
theorem pl_154_1 : plO Try.prog 154 1 = (some (1, 1)) := by kernel_rfl
theorem pl_154_2 : plO Try.prog 154 2 = (some (2, 1)) := by kernel_rfl
theorem zg3 : laidOutB Try.prog = true := by kernel_rfl
theorem key3 : Maps.Keyed Try.prog 3 := Maps.int_keyed (q := .i64) (by kernel_rfl)
theorem key83 : Maps.Keyed Try.prog 83 := .of_law (deep_law_laid zg3 (m := 3) (by omega) (of_decide_eq_true (by kernel_rfl)) (by kernel_rfl) (by kernel_rfl))
theorem key154 : Maps.Keyed Try.prog 154 := .of_law (deep_law_laid zg3 (m := 3) (by omega) (of_decide_eq_true (by kernel_rfl)) (by kernel_rfl) (by kernel_rfl))
def KT (k : TypeId) : Bool := k == 3 || k == 83 || k == 154
theorem zao (k : TypeId) (h : KT k = true) : Maps.Keyed Try.prog k := by
  simp only [KT, Bool.or_eq_true, beq_iff_eq, or_assoc] at h
  rcases h with rfl | rfl | rfl
  · exact key3
  · exact key83
  · exact key154
end Go.Proofs.Ytgfnpfchdlcoeaa
