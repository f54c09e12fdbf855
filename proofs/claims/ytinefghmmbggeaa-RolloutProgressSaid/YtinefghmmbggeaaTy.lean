/- Facts of types, and of the settings. -/
import Derived.Test.YtinefghmmbggeaaAR
import Derived.Test.YtinefghmmbggeaaProg
import Derived.DeepKeys4
set_option linter.unusedVariables false
set_option linter.unusedSimpArgs false
namespace Go.Proofs.Ytinefghmmbggeaa
open Go Go.RowKit
theorem mixed : Try.prog.follows .mixedOrders = true := by kernel_rfl
theorem sz_0 : szO Try.prog 0 = (some 1) := by kernel_rfl
theorem ag_0 : agO Try.prog 0 = (some false) := by kernel_rfl
theorem zc_0 : zcO Try.prog 0 = (some [(.val (.tuple #[]))]) := by kernel_rfl
theorem zv_0 : zvO Try.prog 0 = (some (.d (.val (.tuple #[])))) := by kernel_rfl
theorem sz_1 : szO Try.prog 1 = (some 1) := by kernel_rfl
theorem ag_1 : agO Try.prog 1 = (some false) := by kernel_rfl
theorem zc_1 : zcO Try.prog 1 = (some [(.val .nilFunc)]) := by kernel_rfl
theorem zv_1 : zvO Try.prog 1 = (some (.d (.val .nilFunc))) := by kernel_rfl
theorem za_1 : zaO Try.prog 1 = (some [(.val .nilFunc)]) := by kernel_rfl
theorem sz_2 : szO Try.prog 2 = (some 1) := by kernel_rfl
theorem ag_2 : agO Try.prog 2 = (some false) := by kernel_rfl
theorem zc_2 : zcO Try.prog 2 = (some [(.val (.int .i64 0))]) := by kernel_rfl
theorem zv_2 : zvO Try.prog 2 = (some (.d (.val (.int .i64 0)))) := by kernel_rfl
theorem za_2 : zaO Try.prog 2 = (some [(.val (.int .i64 0))]) := by kernel_rfl
theorem ik_2 : intKO Try.prog 2 = (some .i64) := by kernel_rfl
theorem sz_3 : szO Try.prog 3 = (some 1) := by kernel_rfl
theorem ag_3 : agO Try.prog 3 = (some false) := by kernel_rfl
theorem zc_3 : zcO Try.prog 3 = (some [(.val (.int .i64 0))]) := by kernel_rfl
theorem zv_3 : zvO Try.prog 3 = (some (.d (.val (.int .i64 0)))) := by kernel_rfl
theorem za_3 : zaO Try.prog 3 = (some [(.val (.int .i64 0))]) := by kernel_rfl
theorem ik_3 : intKO Try.prog 3 = (some .i64) := by kernel_rfl
theorem sz_4 : szO Try.prog 4 = (some 1) := by kernel_rfl
theorem ag_4 : agO Try.prog 4 = (some false) := by kernel_rfl
theorem zc_4 : zcO Try.prog 4 = (some [(.val (.bool false))]) := by kernel_rfl
theorem zv_4 : zvO Try.prog 4 = (some (.d (.val (.bool false)))) := by kernel_rfl
theorem za_4 : zaO Try.prog 4 = (some [(.val (.bool false))]) := by kernel_rfl
theorem bt_4 : isBoolT Try.prog 4 = true := by kernel_rfl
theorem sz_5 : szO Try.prog 5 = (some 1) := by kernel_rfl
theorem ag_5 : agO Try.prog 5 = (some false) := by kernel_rfl
theorem zc_5 : zcO Try.prog 5 = (some [(.val (.int .u8 0))]) := by kernel_rfl
theorem zv_5 : zvO Try.prog 5 = (some (.d (.val (.int .u8 0)))) := by kernel_rfl
theorem za_5 : zaO Try.prog 5 = (some [(.val (.int .u8 0))]) := by kernel_rfl
theorem ik_5 : intKO Try.prog 5 = (some .u8) := by kernel_rfl
theorem sz_6 : szO Try.prog 6 = (some 1) := by kernel_rfl
theorem ag_6 : agO Try.prog 6 = (some false) := by kernel_rfl
theorem zc_6 : zcO Try.prog 6 = (some [(.val (.int .u8 0))]) := by kernel_rfl
theorem zv_6 : zvO Try.prog 6 = (some (.d (.val (.int .u8 0)))) := by kernel_rfl
theorem za_6 : zaO Try.prog 6 = (some [(.val (.int .u8 0))]) := by kernel_rfl
theorem ik_6 : intKO Try.prog 6 = (some .u8) := by kernel_rfl
theorem sz_9 : szO Try.prog 9 = (some 1) := by kernel_rfl
theorem ag_9 : agO Try.prog 9 = (some false) := by kernel_rfl
theorem zc_9 : zcO Try.prog 9 = (some [(.val (.string ⟨#[]⟩))]) := by kernel_rfl
theorem zv_9 : zvO Try.prog 9 = (some (.d (.val (.string ⟨#[]⟩)))) := by kernel_rfl
theorem za_9 : zaO Try.prog 9 = (some [(.val (.string ⟨#[]⟩))]) := by kernel_rfl
theorem sz_22 : szO Try.prog 22 = (some 1) := by kernel_rfl
theorem ag_22 : agO Try.prog 22 = (some false) := by kernel_rfl
theorem el_22 : elS Try.prog 22 = (some 1) := by kernel_rfl
theorem eo_22 : elO Try.prog 22 = (some (none, (5, 1))) := by kernel_rfl
theorem zc_22 : zcO Try.prog 22 = (some [(.val (.slice none 0 0))]) := by kernel_rfl
theorem zv_22 : zvO Try.prog 22 = (some (.d (.val (.slice none 0 0)))) := by kernel_rfl
theorem mk_22 : mkO Try.prog 22 = (some (1, ([(.val (.int .u8 0))], 1))) := by kernel_rfl
theorem za_22 : zaO Try.prog 22 = (some [(.val (.slice none 0 0))]) := by kernel_rfl
theorem sz_23 : szO Try.prog 23 = (some 1) := by kernel_rfl
theorem ag_23 : agO Try.prog 23 = (some false) := by kernel_rfl
theorem el_23 : elS Try.prog 23 = (some 6) := by kernel_rfl
theorem eo_23 : elO Try.prog 23 = (some (none, (45, 6))) := by kernel_rfl
theorem zc_23 : zcO Try.prog 23 = (some [(.val (.slice none 0 0))]) := by kernel_rfl
theorem zv_23 : zvO Try.prog 23 = (some (.d (.val (.slice none 0 0)))) := by kernel_rfl
theorem mk_23 : mkO Try.prog 23 = (some (6, ([(.val (.int .u8 0)), (.val (.int .u8 0)), (.val (.int .u8 0)), (.val (.bool false)), (.val (.bool false)), (.val (.bool false))], 6))) := by kernel_rfl
theorem za_23 : zaO Try.prog 23 = (some [(.val (.slice none 0 0))]) := by kernel_rfl
theorem sz_25 : szO Try.prog 25 = (some 3) := by kernel_rfl
theorem ag_25 : agO Try.prog 25 = (some true) := by kernel_rfl
theorem zc_25 : zcO Try.prog 25 = (some [(.val (.slice none 0 0)), (.val (.int .u8 0)), (.val (.slice none 0 0))]) := by kernel_rfl
theorem zv_25 : zvO Try.prog 25 = (some (.agg [(.d (.val (.slice none 0 0))), (.d (.val (.int .u8 0))), (.d (.val (.slice none 0 0)))])) := by kernel_rfl
theorem za_25 : zaO Try.prog 25 = (some [(.val (.slice none 0 0)), (.val (.int .u8 0)), (.val (.slice none 0 0))]) := by kernel_rfl
theorem pa_25 : plAll Try.prog 25 = true := by kernel_rfl
theorem fo_25_0 : foO Try.prog 25 0 = (some 0) := by kernel_rfl
theorem ft_25_0 : ftO Try.prog 25 0 = (some (0, (1, false))) := by kernel_rfl
theorem pl_25_0 : plO Try.prog 25 0 = (some (0, 1)) := by kernel_rfl
theorem fo_25_1 : foO Try.prog 25 1 = (some 1) := by kernel_rfl
theorem ft_25_1 : ftO Try.prog 25 1 = (some (1, (1, false))) := by kernel_rfl
theorem pl_25_1 : plO Try.prog 25 1 = (some (1, 1)) := by kernel_rfl
theorem fo_25_2 : foO Try.prog 25 2 = (some 2) := by kernel_rfl
theorem ft_25_2 : ftO Try.prog 25 2 = (some (2, (1, false))) := by kernel_rfl
theorem pl_25_2 : plO Try.prog 25 2 = (some (2, 1)) := by kernel_rfl
theorem sz_26 : szO Try.prog 26 = (some 1) := by kernel_rfl
theorem ag_26 : agO Try.prog 26 = (some false) := by kernel_rfl
theorem el_26 : elS Try.prog 26 = (some 1) := by kernel_rfl
theorem eo_26 : elO Try.prog 26 = (some (none, (27, 1))) := by kernel_rfl
theorem zc_26 : zcO Try.prog 26 = (some [(.val (.slice none 0 0))]) := by kernel_rfl
theorem zv_26 : zvO Try.prog 26 = (some (.d (.val (.slice none 0 0)))) := by kernel_rfl
theorem mk_26 : mkO Try.prog 26 = (some (1, ([(.val (.slice none 0 0))], 24))) := by kernel_rfl
theorem za_26 : zaO Try.prog 26 = (some [(.val (.slice none 0 0))]) := by kernel_rfl
theorem sz_27 : szO Try.prog 27 = (some 1) := by kernel_rfl
theorem ag_27 : agO Try.prog 27 = (some false) := by kernel_rfl
theorem el_27 : elS Try.prog 27 = (some 1) := by kernel_rfl
theorem eo_27 : elO Try.prog 27 = (some (none, (3, 1))) := by kernel_rfl
theorem zc_27 : zcO Try.prog 27 = (some [(.val (.slice none 0 0))]) := by kernel_rfl
theorem zv_27 : zvO Try.prog 27 = (some (.d (.val (.slice none 0 0)))) := by kernel_rfl
theorem mk_27 : mkO Try.prog 27 = (some (1, ([(.val (.int .i64 0))], 8))) := by kernel_rfl
theorem za_27 : zaO Try.prog 27 = (some [(.val (.slice none 0 0))]) := by kernel_rfl
theorem sz_29 : szO Try.prog 29 = (some 7) := by kernel_rfl
theorem ag_29 : agO Try.prog 29 = (some true) := by kernel_rfl
theorem zc_29 : zcO Try.prog 29 = (some [(.val (.int .i64 0)), (.val (.int .i64 0)), (.val (.slice none 0 0)), (.val (.int .i64 0)), (.val (.int .i64 0)), (.val (.slice none 0 0)), (.val (.int .i64 0))]) := by kernel_rfl
theorem zv_29 : zvO Try.prog 29 = (some (.agg [(.d (.val (.int .i64 0))), (.d (.val (.int .i64 0))), (.d (.val (.slice none 0 0))), (.d (.val (.int .i64 0))), (.d (.val (.int .i64 0))), (.d (.val (.slice none 0 0))), (.d (.val (.int .i64 0)))])) := by kernel_rfl
theorem za_29 : zaO Try.prog 29 = (some [(.val (.int .i64 0)), (.val (.int .i64 0)), (.val (.slice none 0 0)), (.val (.int .i64 0)), (.val (.int .i64 0)), (.val (.slice none 0 0)), (.val (.int .i64 0))]) := by kernel_rfl
theorem pa_29 : plAll Try.prog 29 = true := by kernel_rfl
theorem fo_29_0 : foO Try.prog 29 0 = (some 0) := by kernel_rfl
theorem ft_29_0 : ftO Try.prog 29 0 = (some (0, (1, false))) := by kernel_rfl
theorem pl_29_0 : plO Try.prog 29 0 = (some (0, 1)) := by kernel_rfl
theorem fo_29_1 : foO Try.prog 29 1 = (some 1) := by kernel_rfl
theorem ft_29_1 : ftO Try.prog 29 1 = (some (1, (1, false))) := by kernel_rfl
theorem pl_29_1 : plO Try.prog 29 1 = (some (1, 1)) := by kernel_rfl
theorem fo_29_2 : foO Try.prog 29 2 = (some 2) := by kernel_rfl
theorem ft_29_2 : ftO Try.prog 29 2 = (some (2, (1, false))) := by kernel_rfl
theorem pl_29_2 : plO Try.prog 29 2 = (some (2, 1)) := by kernel_rfl
theorem fo_29_3 : foO Try.prog 29 3 = (some 3) := by kernel_rfl
theorem ft_29_3 : ftO Try.prog 29 3 = (some (3, (1, false))) := by kernel_rfl
theorem pl_29_3 : plO Try.prog 29 3 = (some (3, 1)) := by kernel_rfl
theorem fo_29_4 : foO Try.prog 29 4 = (some 4) := by kernel_rfl
theorem ft_29_4 : ftO Try.prog 29 4 = (some (4, (1, false))) := by kernel_rfl
theorem pl_29_4 : plO Try.prog 29 4 = (some (4, 1)) := by kernel_rfl
theorem fo_29_5 : foO Try.prog 29 5 = (some 5) := by kernel_rfl
theorem ft_29_5 : ftO Try.prog 29 5 = (some (5, (1, false))) := by kernel_rfl
theorem pl_29_5 : plO Try.prog 29 5 = (some (5, 1)) := by kernel_rfl
theorem fo_29_6 : foO Try.prog 29 6 = (some 6) := by kernel_rfl
theorem ft_29_6 : ftO Try.prog 29 6 = (some (6, (1, false))) := by kernel_rfl
theorem pl_29_6 : plO Try.prog 29 6 = (some (6, 1)) := by kernel_rfl
theorem sz_31 : szO Try.prog 31 = (some 5) := by kernel_rfl
theorem ag_31 : agO Try.prog 31 = (some true) := by kernel_rfl
theorem zc_31 : zcO Try.prog 31 = (some [(.val (.int .i64 0)), (.val (.int .i64 0)), (.val (.int .i64 0)), (.val (.bool false)), (.val (.bool false))]) := by kernel_rfl
theorem zv_31 : zvO Try.prog 31 = (some (.agg [(.d (.val (.int .i64 0))), (.d (.val (.int .i64 0))), (.d (.val (.int .i64 0))), (.d (.val (.bool false))), (.d (.val (.bool false)))])) := by kernel_rfl
theorem za_31 : zaO Try.prog 31 = (some [(.val (.int .i64 0)), (.val (.int .i64 0)), (.val (.int .i64 0)), (.val (.bool false)), (.val (.bool false))]) := by kernel_rfl
theorem pa_31 : plAll Try.prog 31 = true := by kernel_rfl
theorem fo_31_0 : foO Try.prog 31 0 = (some 0) := by kernel_rfl
theorem ft_31_0 : ftO Try.prog 31 0 = (some (0, (1, false))) := by kernel_rfl
theorem pl_31_0 : plO Try.prog 31 0 = (some (0, 1)) := by kernel_rfl
theorem fo_31_1 : foO Try.prog 31 1 = (some 1) := by kernel_rfl
theorem ft_31_1 : ftO Try.prog 31 1 = (some (1, (1, false))) := by kernel_rfl
theorem pl_31_1 : plO Try.prog 31 1 = (some (1, 1)) := by kernel_rfl
theorem fo_31_2 : foO Try.prog 31 2 = (some 2) := by kernel_rfl
theorem ft_31_2 : ftO Try.prog 31 2 = (some (2, (1, false))) := by kernel_rfl
theorem pl_31_2 : plO Try.prog 31 2 = (some (2, 1)) := by kernel_rfl
theorem fo_31_3 : foO Try.prog 31 3 = (some 3) := by kernel_rfl
theorem ft_31_3 : ftO Try.prog 31 3 = (some (3, (1, false))) := by kernel_rfl
theorem pl_31_3 : plO Try.prog 31 3 = (some (3, 1)) := by kernel_rfl
theorem fo_31_4 : foO Try.prog 31 4 = (some 4) := by kernel_rfl
theorem ft_31_4 : ftO Try.prog 31 4 = (some (4, (1, false))) := by kernel_rfl
theorem pl_31_4 : plO Try.prog 31 4 = (some (4, 1)) := by kernel_rfl
theorem sz_35 : szO Try.prog 35 = (some 4) := by kernel_rfl
theorem ag_35 : agO Try.prog 35 = (some true) := by kernel_rfl
theorem zc_35 : zcO Try.prog 35 = (some [(.val (.int .i64 0)), (.val (.int .i64 0)), (.val (.slice none 0 0)), (.val (.int .i64 0))]) := by kernel_rfl
theorem zv_35 : zvO Try.prog 35 = (some (.agg [(.d (.val (.int .i64 0))), (.d (.val (.int .i64 0))), (.d (.val (.slice none 0 0))), (.d (.val (.int .i64 0)))])) := by kernel_rfl
theorem za_35 : zaO Try.prog 35 = (some [(.val (.int .i64 0)), (.val (.int .i64 0)), (.val (.slice none 0 0)), (.val (.int .i64 0))]) := by kernel_rfl
theorem pa_35 : plAll Try.prog 35 = true := by kernel_rfl
theorem fo_35_0 : foO Try.prog 35 0 = (some 0) := by kernel_rfl
theorem ft_35_0 : ftO Try.prog 35 0 = (some (0, (1, false))) := by kernel_rfl
theorem pl_35_0 : plO Try.prog 35 0 = (some (0, 1)) := by kernel_rfl
theorem fo_35_1 : foO Try.prog 35 1 = (some 1) := by kernel_rfl
theorem ft_35_1 : ftO Try.prog 35 1 = (some (1, (1, false))) := by kernel_rfl
theorem pl_35_1 : plO Try.prog 35 1 = (some (1, 1)) := by kernel_rfl
theorem fo_35_2 : foO Try.prog 35 2 = (some 2) := by kernel_rfl
theorem ft_35_2 : ftO Try.prog 35 2 = (some (2, (1, false))) := by kernel_rfl
theorem pl_35_2 : plO Try.prog 35 2 = (some (2, 1)) := by kernel_rfl
theorem fo_35_3 : foO Try.prog 35 3 = (some 3) := by kernel_rfl
theorem ft_35_3 : ftO Try.prog 35 3 = (some (3, (1, false))) := by kernel_rfl
theorem pl_35_3 : plO Try.prog 35 3 = (some (3, 1)) := by kernel_rfl
theorem sz_38 : szO Try.prog 38 = (some 1) := by kernel_rfl
theorem ag_38 : agO Try.prog 38 = (some false) := by kernel_rfl
theorem zc_38 : zcO Try.prog 38 = (some [(.val (.int .i64 0))]) := by kernel_rfl
theorem zv_38 : zvO Try.prog 38 = (some (.d (.val (.int .i64 0)))) := by kernel_rfl
theorem za_38 : zaO Try.prog 38 = (some [(.val (.int .i64 0))]) := by kernel_rfl
theorem ik_38 : intKO Try.prog 38 = (some .i64) := by kernel_rfl
theorem sz_40 : szO Try.prog 40 = (some 8) := by kernel_rfl
theorem ag_40 : agO Try.prog 40 = (some true) := by kernel_rfl
theorem zc_40 : zcO Try.prog 40 = (some [(.val (.int .i64 0)), (.val (.int .i64 0)), (.val (.slice none 0 0)), (.val (.int .i64 0)), (.val (.int .i64 0)), (.val (.slice none 0 0)), (.val (.int .i64 0)), (.val (.int .i64 0))]) := by kernel_rfl
theorem zv_40 : zvO Try.prog 40 = (some (.agg [(.d (.val (.int .i64 0))), (.d (.val (.int .i64 0))), (.d (.val (.slice none 0 0))), (.d (.val (.int .i64 0))), (.d (.val (.int .i64 0))), (.d (.val (.slice none 0 0))), (.d (.val (.int .i64 0))), (.d (.val (.int .i64 0)))])) := by kernel_rfl
theorem za_40 : zaO Try.prog 40 = (some [(.val (.int .i64 0)), (.val (.int .i64 0)), (.val (.slice none 0 0)), (.val (.int .i64 0)), (.val (.int .i64 0)), (.val (.slice none 0 0)), (.val (.int .i64 0)), (.val (.int .i64 0))]) := by kernel_rfl
theorem pa_40 : plAll Try.prog 40 = true := by kernel_rfl
theorem fo_40_0 : foO Try.prog 40 0 = (some 0) := by kernel_rfl
theorem ft_40_0 : ftO Try.prog 40 0 = (some (0, (7, true))) := by kernel_rfl
theorem pl_40_0 : plO Try.prog 40 0 = (some (0, 7)) := by kernel_rfl
theorem fo_40_1 : foO Try.prog 40 1 = (some 7) := by kernel_rfl
theorem ft_40_1 : ftO Try.prog 40 1 = (some (7, (1, false))) := by kernel_rfl
theorem pl_40_1 : plO Try.prog 40 1 = (some (7, 1)) := by kernel_rfl
theorem sz_42 : szO Try.prog 42 = (some 1) := by kernel_rfl
theorem ag_42 : agO Try.prog 42 = (some false) := by kernel_rfl
theorem el_42 : elS Try.prog 42 = (some 7) := by kernel_rfl
theorem eo_42 : elO Try.prog 42 = (some (none, (29, 7))) := by kernel_rfl
theorem zc_42 : zcO Try.prog 42 = (some [(.val (.slice none 0 0))]) := by kernel_rfl
theorem zv_42 : zvO Try.prog 42 = (some (.d (.val (.slice none 0 0)))) := by kernel_rfl
theorem mk_42 : mkO Try.prog 42 = (some (7, ([(.val (.int .i64 0)), (.val (.int .i64 0)), (.val (.slice none 0 0)), (.val (.int .i64 0)), (.val (.int .i64 0)), (.val (.slice none 0 0)), (.val (.int .i64 0))], 88))) := by kernel_rfl
theorem za_42 : zaO Try.prog 42 = (some [(.val (.slice none 0 0))]) := by kernel_rfl
theorem sz_45 : szO Try.prog 45 = (some 6) := by kernel_rfl
theorem ag_45 : agO Try.prog 45 = (some true) := by kernel_rfl
theorem zc_45 : zcO Try.prog 45 = (some [(.val (.int .u8 0)), (.val (.int .u8 0)), (.val (.int .u8 0)), (.val (.bool false)), (.val (.bool false)), (.val (.bool false))]) := by kernel_rfl
theorem zv_45 : zvO Try.prog 45 = (some (.agg [(.d (.val (.int .u8 0))), (.d (.val (.int .u8 0))), (.d (.val (.int .u8 0))), (.d (.val (.bool false))), (.d (.val (.bool false))), (.d (.val (.bool false)))])) := by kernel_rfl
theorem za_45 : zaO Try.prog 45 = (some [(.val (.int .u8 0)), (.val (.int .u8 0)), (.val (.int .u8 0)), (.val (.bool false)), (.val (.bool false)), (.val (.bool false))]) := by kernel_rfl
theorem pa_45 : plAll Try.prog 45 = true := by kernel_rfl
theorem fo_45_0 : foO Try.prog 45 0 = (some 0) := by kernel_rfl
theorem ft_45_0 : ftO Try.prog 45 0 = (some (0, (1, false))) := by kernel_rfl
theorem pl_45_0 : plO Try.prog 45 0 = (some (0, 1)) := by kernel_rfl
theorem fo_45_1 : foO Try.prog 45 1 = (some 1) := by kernel_rfl
theorem ft_45_1 : ftO Try.prog 45 1 = (some (1, (1, false))) := by kernel_rfl
theorem pl_45_1 : plO Try.prog 45 1 = (some (1, 1)) := by kernel_rfl
theorem fo_45_2 : foO Try.prog 45 2 = (some 2) := by kernel_rfl
theorem ft_45_2 : ftO Try.prog 45 2 = (some (2, (1, false))) := by kernel_rfl
theorem pl_45_2 : plO Try.prog 45 2 = (some (2, 1)) := by kernel_rfl
theorem fo_45_3 : foO Try.prog 45 3 = (some 3) := by kernel_rfl
theorem ft_45_3 : ftO Try.prog 45 3 = (some (3, (1, false))) := by kernel_rfl
theorem pl_45_3 : plO Try.prog 45 3 = (some (3, 1)) := by kernel_rfl
theorem fo_45_4 : foO Try.prog 45 4 = (some 4) := by kernel_rfl
theorem ft_45_4 : ftO Try.prog 45 4 = (some (4, (1, false))) := by kernel_rfl
theorem pl_45_4 : plO Try.prog 45 4 = (some (4, 1)) := by kernel_rfl
theorem fo_45_5 : foO Try.prog 45 5 = (some 5) := by kernel_rfl
theorem ft_45_5 : ftO Try.prog 45 5 = (some (5, (1, false))) := by kernel_rfl
theorem pl_45_5 : plO Try.prog 45 5 = (some (5, 1)) := by kernel_rfl
theorem sz_55 : szO Try.prog 55 = (some 12) := by kernel_rfl
theorem ag_55 : agO Try.prog 55 = (some true) := by kernel_rfl
theorem eo_55 : elO Try.prog 55 = (some ((some 2), (45, 6))) := by kernel_rfl
theorem zc_55 : zcO Try.prog 55 = (some [(.val (.int .u8 0)), (.val (.int .u8 0)), (.val (.int .u8 0)), (.val (.bool false)), (.val (.bool false)), (.val (.bool false)), (.val (.int .u8 0)), (.val (.int .u8 0)), (.val (.int .u8 0)), (.val (.bool false)), (.val (.bool false)), (.val (.bool false))]) := by kernel_rfl
theorem zv_55 : zvO Try.prog 55 = (some (.agg [(.d (.val (.int .u8 0))), (.d (.val (.int .u8 0))), (.d (.val (.int .u8 0))), (.d (.val (.bool false))), (.d (.val (.bool false))), (.d (.val (.bool false))), (.d (.val (.int .u8 0))), (.d (.val (.int .u8 0))), (.d (.val (.int .u8 0))), (.d (.val (.bool false))), (.d (.val (.bool false))), (.d (.val (.bool false)))])) := by kernel_rfl
theorem ea_55 : elA Try.prog 55 = (some (2, 6)) := by kernel_rfl
theorem eg_55 : elG Try.prog 55 = (some (2, (6, true))) := by kernel_rfl
theorem za_55 : zaO Try.prog 55 = (some [(.val (.int .u8 0)), (.val (.int .u8 0)), (.val (.int .u8 0)), (.val (.bool false)), (.val (.bool false)), (.val (.bool false)), (.val (.int .u8 0)), (.val (.int .u8 0)), (.val (.int .u8 0)), (.val (.bool false)), (.val (.bool false)), (.val (.bool false))]) := by kernel_rfl
theorem pa_55 : plAll Try.prog 55 = true := by kernel_rfl
theorem pl_55_0 : plO Try.prog 55 0 = (some (0, 6)) := by kernel_rfl
theorem pl_55_1 : plO Try.prog 55 1 = (some (6, 6)) := by kernel_rfl
theorem pl_55_2 : plO Try.prog 55 2 = (some (12, 6)) := by kernel_rfl
theorem pl_55_3 : plO Try.prog 55 3 = (some (18, 6)) := by kernel_rfl
theorem pl_55_4 : plO Try.prog 55 4 = (some (24, 6)) := by kernel_rfl
theorem pl_55_5 : plO Try.prog 55 5 = (some (30, 6)) := by kernel_rfl
theorem pl_55_6 : plO Try.prog 55 6 = (some (36, 6)) := by kernel_rfl
theorem pl_55_7 : plO Try.prog 55 7 = (some (42, 6)) := by kernel_rfl
theorem pl_55_8 : plO Try.prog 55 8 = (some (48, 6)) := by kernel_rfl
theorem pl_55_9 : plO Try.prog 55 9 = (some (54, 6)) := by kernel_rfl
theorem pl_55_10 : plO Try.prog 55 10 = (some (60, 6)) := by kernel_rfl
theorem pl_55_11 : plO Try.prog 55 11 = (some (66, 6)) := by kernel_rfl
theorem pl_55_12 : plO Try.prog 55 12 = (some (72, 6)) := by kernel_rfl
theorem pl_55_13 : plO Try.prog 55 13 = (some (78, 6)) := by kernel_rfl
theorem pl_55_14 : plO Try.prog 55 14 = (some (84, 6)) := by kernel_rfl
theorem pl_55_15 : plO Try.prog 55 15 = (some (90, 6)) := by kernel_rfl
theorem pl_55_16 : plO Try.prog 55 16 = (some (96, 6)) := by kernel_rfl
theorem pl_55_17 : plO Try.prog 55 17 = (some (102, 6)) := by kernel_rfl
theorem pl_55_18 : plO Try.prog 55 18 = (some (108, 6)) := by kernel_rfl
theorem pl_55_19 : plO Try.prog 55 19 = (some (114, 6)) := by kernel_rfl
theorem pl_55_20 : plO Try.prog 55 20 = (some (120, 6)) := by kernel_rfl
theorem pl_55_21 : plO Try.prog 55 21 = (some (126, 6)) := by kernel_rfl
theorem pl_55_22 : plO Try.prog 55 22 = (some (132, 6)) := by kernel_rfl
theorem pl_55_23 : plO Try.prog 55 23 = (some (138, 6)) := by kernel_rfl
theorem pl_55_24 : plO Try.prog 55 24 = (some (144, 6)) := by kernel_rfl
theorem pl_55_25 : plO Try.prog 55 25 = (some (150, 6)) := by kernel_rfl
theorem pl_55_26 : plO Try.prog 55 26 = (some (156, 6)) := by kernel_rfl
theorem pl_55_27 : plO Try.prog 55 27 = (some (162, 6)) := by kernel_rfl
theorem pl_55_28 : plO Try.prog 55 28 = (some (168, 6)) := by kernel_rfl
theorem pl_55_29 : plO Try.prog 55 29 = (some (174, 6)) := by kernel_rfl
theorem pl_55_30 : plO Try.prog 55 30 = (some (180, 6)) := by kernel_rfl
theorem pl_55_31 : plO Try.prog 55 31 = (some (186, 6)) := by kernel_rfl
theorem pl_55_32 : plO Try.prog 55 32 = (some (192, 6)) := by kernel_rfl
theorem pl_55_33 : plO Try.prog 55 33 = (some (198, 6)) := by kernel_rfl
theorem pl_55_34 : plO Try.prog 55 34 = (some (204, 6)) := by kernel_rfl
theorem pl_55_35 : plO Try.prog 55 35 = (some (210, 6)) := by kernel_rfl
theorem pl_55_36 : plO Try.prog 55 36 = (some (216, 6)) := by kernel_rfl
theorem pl_55_37 : plO Try.prog 55 37 = (some (222, 6)) := by kernel_rfl
theorem pl_55_38 : plO Try.prog 55 38 = (some (228, 6)) := by kernel_rfl
theorem pl_55_39 : plO Try.prog 55 39 = (some (234, 6)) := by kernel_rfl
theorem sz_61 : szO Try.prog 61 = (some 2) := by kernel_rfl
theorem ag_61 : agO Try.prog 61 = (some true) := by kernel_rfl
theorem eo_61 : elO Try.prog 61 = (some ((some 2), (5, 1))) := by kernel_rfl
theorem zc_61 : zcO Try.prog 61 = (some [(.val (.int .u8 0)), (.val (.int .u8 0))]) := by kernel_rfl
theorem zv_61 : zvO Try.prog 61 = (some (.agg [(.d (.val (.int .u8 0))), (.d (.val (.int .u8 0)))])) := by kernel_rfl
theorem ea_61 : elA Try.prog 61 = (some (2, 1)) := by kernel_rfl
theorem eg_61 : elG Try.prog 61 = (some (2, (1, false))) := by kernel_rfl
theorem za_61 : zaO Try.prog 61 = (some [(.val (.int .u8 0)), (.val (.int .u8 0))]) := by kernel_rfl
theorem pa_61 : plAll Try.prog 61 = true := by kernel_rfl
theorem pl_61_0 : plO Try.prog 61 0 = (some (0, 1)) := by kernel_rfl
theorem pl_61_1 : plO Try.prog 61 1 = (some (1, 1)) := by kernel_rfl
theorem pl_61_2 : plO Try.prog 61 2 = (some (2, 1)) := by kernel_rfl
theorem pl_61_3 : plO Try.prog 61 3 = (some (3, 1)) := by kernel_rfl
theorem pl_61_4 : plO Try.prog 61 4 = (some (4, 1)) := by kernel_rfl
theorem pl_61_5 : plO Try.prog 61 5 = (some (5, 1)) := by kernel_rfl
theorem pl_61_6 : plO Try.prog 61 6 = (some (6, 1)) := by kernel_rfl
theorem pl_61_7 : plO Try.prog 61 7 = (some (7, 1)) := by kernel_rfl
theorem pl_61_8 : plO Try.prog 61 8 = (some (8, 1)) := by kernel_rfl
theorem pl_61_9 : plO Try.prog 61 9 = (some (9, 1)) := by kernel_rfl
theorem pl_61_10 : plO Try.prog 61 10 = (some (10, 1)) := by kernel_rfl
theorem pl_61_11 : plO Try.prog 61 11 = (some (11, 1)) := by kernel_rfl
theorem pl_61_12 : plO Try.prog 61 12 = (some (12, 1)) := by kernel_rfl
theorem pl_61_13 : plO Try.prog 61 13 = (some (13, 1)) := by kernel_rfl
theorem pl_61_14 : plO Try.prog 61 14 = (some (14, 1)) := by kernel_rfl
theorem pl_61_15 : plO Try.prog 61 15 = (some (15, 1)) := by kernel_rfl
theorem pl_61_16 : plO Try.prog 61 16 = (some (16, 1)) := by kernel_rfl
theorem pl_61_17 : plO Try.prog 61 17 = (some (17, 1)) := by kernel_rfl
theorem pl_61_18 : plO Try.prog 61 18 = (some (18, 1)) := by kernel_rfl
theorem pl_61_19 : plO Try.prog 61 19 = (some (19, 1)) := by kernel_rfl
theorem pl_61_20 : plO Try.prog 61 20 = (some (20, 1)) := by kernel_rfl
theorem pl_61_21 : plO Try.prog 61 21 = (some (21, 1)) := by kernel_rfl
theorem pl_61_22 : plO Try.prog 61 22 = (some (22, 1)) := by kernel_rfl
theorem pl_61_23 : plO Try.prog 61 23 = (some (23, 1)) := by kernel_rfl
theorem pl_61_24 : plO Try.prog 61 24 = (some (24, 1)) := by kernel_rfl
theorem pl_61_25 : plO Try.prog 61 25 = (some (25, 1)) := by kernel_rfl
theorem pl_61_26 : plO Try.prog 61 26 = (some (26, 1)) := by kernel_rfl
theorem pl_61_27 : plO Try.prog 61 27 = (some (27, 1)) := by kernel_rfl
theorem pl_61_28 : plO Try.prog 61 28 = (some (28, 1)) := by kernel_rfl
theorem pl_61_29 : plO Try.prog 61 29 = (some (29, 1)) := by kernel_rfl
theorem pl_61_30 : plO Try.prog 61 30 = (some (30, 1)) := by kernel_rfl
theorem pl_61_31 : plO Try.prog 61 31 = (some (31, 1)) := by kernel_rfl
theorem pl_61_32 : plO Try.prog 61 32 = (some (32, 1)) := by kernel_rfl
theorem pl_61_33 : plO Try.prog 61 33 = (some (33, 1)) := by kernel_rfl
theorem pl_61_34 : plO Try.prog 61 34 = (some (34, 1)) := by kernel_rfl
theorem pl_61_35 : plO Try.prog 61 35 = (some (35, 1)) := by kernel_rfl
theorem pl_61_36 : plO Try.prog 61 36 = (some (36, 1)) := by kernel_rfl
theorem pl_61_37 : plO Try.prog 61 37 = (some (37, 1)) := by kernel_rfl
theorem pl_61_38 : plO Try.prog 61 38 = (some (38, 1)) := by kernel_rfl
theorem pl_61_39 : plO Try.prog 61 39 = (some (39, 1)) := by kernel_rfl
theorem sz_66 : szO Try.prog 66 = (some 1) := by kernel_rfl
theorem ag_66 : agO Try.prog 66 = (some false) := by kernel_rfl
theorem zc_66 : zcO Try.prog 66 = (some [(.val (.map none))]) := by kernel_rfl
theorem mo_66 : mapO Try.prog 66 = (some (3, 4)) := by kernel_rfl
theorem zv_66 : zvO Try.prog 66 = (some (.d (.val (.map none)))) := by kernel_rfl
theorem za_66 : zaO Try.prog 66 = (some [(.val (.map none))]) := by kernel_rfl
theorem sz_68 : szO Try.prog 68 = (some 1) := by kernel_rfl
theorem ag_68 : agO Try.prog 68 = (some false) := by kernel_rfl
theorem zc_68 : zcO Try.prog 68 = (some [(.val .nilFunc)]) := by kernel_rfl
theorem zv_68 : zvO Try.prog 68 = (some (.d (.val .nilFunc))) := by kernel_rfl
theorem za_68 : zaO Try.prog 68 = (some [(.val .nilFunc)]) := by kernel_rfl
theorem sz_74 : szO Try.prog 74 = (some 1) := by kernel_rfl
theorem ag_74 : agO Try.prog 74 = (some false) := by kernel_rfl
theorem zc_74 : zcO Try.prog 74 = (some [(.val .nilFunc)]) := by kernel_rfl
theorem zv_74 : zvO Try.prog 74 = (some (.d (.val .nilFunc))) := by kernel_rfl
theorem za_74 : zaO Try.prog 74 = (some [(.val .nilFunc)]) := by kernel_rfl
theorem sz_78 : szO Try.prog 78 = (some 1) := by kernel_rfl
theorem ag_78 : agO Try.prog 78 = (some false) := by kernel_rfl
theorem zc_78 : zcO Try.prog 78 = (some [(.val .nilFunc)]) := by kernel_rfl
theorem zv_78 : zvO Try.prog 78 = (some (.d (.val .nilFunc))) := by kernel_rfl
theorem za_78 : zaO Try.prog 78 = (some [(.val .nilFunc)]) := by kernel_rfl
theorem sz_82 : szO Try.prog 82 = (some 1) := by kernel_rfl
theorem ag_82 : agO Try.prog 82 = (some true) := by kernel_rfl
theorem zc_82 : zcO Try.prog 82 = (some [(.val .nilFunc)]) := by kernel_rfl
theorem zv_82 : zvO Try.prog 82 = (some (.agg [(.d (.val .nilFunc))])) := by kernel_rfl
theorem za_82 : zaO Try.prog 82 = (some [(.val .nilFunc)]) := by kernel_rfl
theorem pa_82 : plAll Try.prog 82 = true := by kernel_rfl
theorem fo_82_0 : foO Try.prog 82 0 = (some 0) := by kernel_rfl
theorem ft_82_0 : ftO Try.prog 82 0 = (some (0, (1, false))) := by kernel_rfl
theorem pl_82_0 : plO Try.prog 82 0 = (some (0, 1)) := by kernel_rfl
theorem sz_83 : szO Try.prog 83 = (some 5) := by kernel_rfl
theorem ag_83 : agO Try.prog 83 = (some true) := by kernel_rfl
theorem eo_83 : elO Try.prog 83 = (some ((some 5), (82, 1))) := by kernel_rfl
theorem zc_83 : zcO Try.prog 83 = (some [(.val .nilFunc), (.val .nilFunc), (.val .nilFunc), (.val .nilFunc), (.val .nilFunc)]) := by kernel_rfl
theorem zv_83 : zvO Try.prog 83 = (some (.agg [(.d (.val .nilFunc)), (.d (.val .nilFunc)), (.d (.val .nilFunc)), (.d (.val .nilFunc)), (.d (.val .nilFunc))])) := by kernel_rfl
theorem ea_83 : elA Try.prog 83 = (some (5, 1)) := by kernel_rfl
theorem eg_83 : elG Try.prog 83 = (some (5, (1, true))) := by kernel_rfl
theorem za_83 : zaO Try.prog 83 = (some [(.val .nilFunc), (.val .nilFunc), (.val .nilFunc), (.val .nilFunc), (.val .nilFunc)]) := by kernel_rfl
theorem pa_83 : plAll Try.prog 83 = true := by kernel_rfl
theorem pl_83_0 : plO Try.prog 83 0 = (some (0, 1)) := by kernel_rfl
theorem pl_83_1 : plO Try.prog 83 1 = (some (1, 1)) := by kernel_rfl
theorem pl_83_2 : plO Try.prog 83 2 = (some (2, 1)) := by kernel_rfl
theorem pl_83_3 : plO Try.prog 83 3 = (some (3, 1)) := by kernel_rfl
theorem pl_83_4 : plO Try.prog 83 4 = (some (4, 1)) := by kernel_rfl
theorem pl_83_5 : plO Try.prog 83 5 = (some (5, 1)) := by kernel_rfl
theorem pl_83_6 : plO Try.prog 83 6 = (some (6, 1)) := by kernel_rfl
theorem pl_83_7 : plO Try.prog 83 7 = (some (7, 1)) := by kernel_rfl
theorem pl_83_8 : plO Try.prog 83 8 = (some (8, 1)) := by kernel_rfl
theorem pl_83_9 : plO Try.prog 83 9 = (some (9, 1)) := by kernel_rfl
theorem pl_83_10 : plO Try.prog 83 10 = (some (10, 1)) := by kernel_rfl
theorem pl_83_11 : plO Try.prog 83 11 = (some (11, 1)) := by kernel_rfl
theorem pl_83_12 : plO Try.prog 83 12 = (some (12, 1)) := by kernel_rfl
theorem pl_83_13 : plO Try.prog 83 13 = (some (13, 1)) := by kernel_rfl
theorem pl_83_14 : plO Try.prog 83 14 = (some (14, 1)) := by kernel_rfl
theorem pl_83_15 : plO Try.prog 83 15 = (some (15, 1)) := by kernel_rfl
theorem pl_83_16 : plO Try.prog 83 16 = (some (16, 1)) := by kernel_rfl
theorem pl_83_17 : plO Try.prog 83 17 = (some (17, 1)) := by kernel_rfl
theorem pl_83_18 : plO Try.prog 83 18 = (some (18, 1)) := by kernel_rfl
theorem pl_83_19 : plO Try.prog 83 19 = (some (19, 1)) := by kernel_rfl
theorem pl_83_20 : plO Try.prog 83 20 = (some (20, 1)) := by kernel_rfl
theorem pl_83_21 : plO Try.prog 83 21 = (some (21, 1)) := by kernel_rfl
theorem pl_83_22 : plO Try.prog 83 22 = (some (22, 1)) := by kernel_rfl
theorem pl_83_23 : plO Try.prog 83 23 = (some (23, 1)) := by kernel_rfl
theorem pl_83_24 : plO Try.prog 83 24 = (some (24, 1)) := by kernel_rfl
theorem pl_83_25 : plO Try.prog 83 25 = (some (25, 1)) := by kernel_rfl
theorem pl_83_26 : plO Try.prog 83 26 = (some (26, 1)) := by kernel_rfl
theorem pl_83_27 : plO Try.prog 83 27 = (some (27, 1)) := by kernel_rfl
theorem pl_83_28 : plO Try.prog 83 28 = (some (28, 1)) := by kernel_rfl
theorem pl_83_29 : plO Try.prog 83 29 = (some (29, 1)) := by kernel_rfl
theorem pl_83_30 : plO Try.prog 83 30 = (some (30, 1)) := by kernel_rfl
theorem pl_83_31 : plO Try.prog 83 31 = (some (31, 1)) := by kernel_rfl
theorem pl_83_32 : plO Try.prog 83 32 = (some (32, 1)) := by kernel_rfl
theorem pl_83_33 : plO Try.prog 83 33 = (some (33, 1)) := by kernel_rfl
theorem pl_83_34 : plO Try.prog 83 34 = (some (34, 1)) := by kernel_rfl
theorem pl_83_35 : plO Try.prog 83 35 = (some (35, 1)) := by kernel_rfl
theorem pl_83_36 : plO Try.prog 83 36 = (some (36, 1)) := by kernel_rfl
theorem pl_83_37 : plO Try.prog 83 37 = (some (37, 1)) := by kernel_rfl
theorem pl_83_38 : plO Try.prog 83 38 = (some (38, 1)) := by kernel_rfl
theorem pl_83_39 : plO Try.prog 83 39 = (some (39, 1)) := by kernel_rfl
theorem sz_88 : szO Try.prog 88 = (some 1) := by kernel_rfl
theorem ag_88 : agO Try.prog 88 = (some false) := by kernel_rfl
theorem zc_88 : zcO Try.prog 88 = (some [(.val (.int .u64 0))]) := by kernel_rfl
theorem zv_88 : zvO Try.prog 88 = (some (.d (.val (.int .u64 0)))) := by kernel_rfl
theorem za_88 : zaO Try.prog 88 = (some [(.val (.int .u64 0))]) := by kernel_rfl
theorem ik_88 : intKO Try.prog 88 = (some .u64) := by kernel_rfl
theorem sz_91 : szO Try.prog 91 = (some 1) := by kernel_rfl
theorem ag_91 : agO Try.prog 91 = (some false) := by kernel_rfl
theorem zc_91 : zcO Try.prog 91 = (some [(.val (.int .i64 0))]) := by kernel_rfl
theorem zv_91 : zvO Try.prog 91 = (some (.d (.val (.int .i64 0)))) := by kernel_rfl
theorem za_91 : zaO Try.prog 91 = (some [(.val (.int .i64 0))]) := by kernel_rfl
theorem ik_91 : intKO Try.prog 91 = (some .i64) := by kernel_rfl
theorem sz_100 : szO Try.prog 100 = (some 1) := by kernel_rfl
theorem ag_100 : agO Try.prog 100 = (some false) := by kernel_rfl
theorem zc_100 : zcO Try.prog 100 = (some [(.val (.int .u32 0))]) := by kernel_rfl
theorem zv_100 : zvO Try.prog 100 = (some (.d (.val (.int .u32 0)))) := by kernel_rfl
theorem za_100 : zaO Try.prog 100 = (some [(.val (.int .u32 0))]) := by kernel_rfl
theorem ik_100 : intKO Try.prog 100 = (some .u32) := by kernel_rfl
theorem sz_102 : szO Try.prog 102 = (some 1) := by kernel_rfl
theorem ag_102 : agO Try.prog 102 = (some false) := by kernel_rfl
theorem zc_102 : zcO Try.prog 102 = (some [(.val (.int .u64 0))]) := by kernel_rfl
theorem zv_102 : zvO Try.prog 102 = (some (.d (.val (.int .u64 0)))) := by kernel_rfl
theorem za_102 : zaO Try.prog 102 = (some [(.val (.int .u64 0))]) := by kernel_rfl
theorem ik_102 : intKO Try.prog 102 = (some .u64) := by kernel_rfl
theorem sz_104 : szO Try.prog 104 = (some 1) := by kernel_rfl
theorem ag_104 : agO Try.prog 104 = (some false) := by kernel_rfl
theorem zc_104 : zcO Try.prog 104 = (some [(.val (.int .u64 0))]) := by kernel_rfl
theorem zv_104 : zvO Try.prog 104 = (some (.d (.val (.int .u64 0)))) := by kernel_rfl
theorem za_104 : zaO Try.prog 104 = (some [(.val (.int .u64 0))]) := by kernel_rfl
theorem ik_104 : intKO Try.prog 104 = (some .u64) := by kernel_rfl
theorem sz_108 : szO Try.prog 108 = (some 1) := by kernel_rfl
theorem ag_108 : agO Try.prog 108 = (some false) := by kernel_rfl
theorem zc_108 : zcO Try.prog 108 = (some [(.val (.pointer none))]) := by kernel_rfl
theorem zv_108 : zvO Try.prog 108 = (some (.d (.val (.pointer none)))) := by kernel_rfl
theorem za_108 : zaO Try.prog 108 = (some [(.val (.pointer none))]) := by kernel_rfl
theorem laidOut : laidOutB Try.prog = true := by kernel_rfl
theorem key3 : Maps.Keyed Try.prog 3 := Maps.int_keyed (q := .i64) (by kernel_rfl)
def KT (k : TypeId) : Bool := k == 3
theorem KT_ok (k : TypeId) (h : KT k = true) : Maps.Keyed Try.prog k := by
  simp only [KT, Bool.or_eq_true, beq_iff_eq] at h
  subst h
  · exact key3
end Go.Proofs.Ytinefghmmbggeaa
