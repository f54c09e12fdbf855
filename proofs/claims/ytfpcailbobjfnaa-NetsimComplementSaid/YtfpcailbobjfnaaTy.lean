/- Facts of types, and of the settings. -/
import Derived.Test.YtfpcailbobjfnaaAR
import Derived.Test.YtfpcailbobjfnaaProg
import Derived.DeepKeys4
set_option linter.unusedVariables false
set_option linter.unusedSimpArgs false
namespace Go.Proofs.Ytfpcailbobjfnaa
open Go Go.RowKit
theorem mixed : Try.prog.follows .mixedOrders = true := by kernel_rfl
theorem sz_0 : szO Try.prog 0 = (some 1) := by kernel_rfl
theorem ag_0 : agO Try.prog 0 = (some false) := by kernel_rfl
theorem zc_0 : zcO Try.prog 0 = (some [(.val (.tuple #[]))]) := by kernel_rfl
theorem zv_0 : zvO Try.prog 0 = (some (.d (.val (.tuple #[])))) := by kernel_rfl
theorem sz_1 : szO Try.prog 1 = (some 1) := by kernel_rfl
theorem ag_1 : agO Try.prog 1 = (some false) := by kernel_rfl
theorem zc_1 : zcO Try.prog 1 = (some [(.val .nilFunc)]) := by kernel_rfl
theorem zv_1 : zvO Try.prog 1 = (some (.d (.val .nilFunc))) := by kernel_rfl
theorem za_1 : zaO Try.prog 1 = (some [(.val .nilFunc)]) := by kernel_rfl
theorem sz_2 : szO Try.prog 2 = (some 1) := by kernel_rfl
theorem ag_2 : agO Try.prog 2 = (some false) := by kernel_rfl
theorem zc_2 : zcO Try.prog 2 = (some [(.val (.int .i64 0))]) := by kernel_rfl
theorem zv_2 : zvO Try.prog 2 = (some (.d (.val (.int .i64 0)))) := by kernel_rfl
theorem za_2 : zaO Try.prog 2 = (some [(.val (.int .i64 0))]) := by kernel_rfl
theorem ik_2 : intKO Try.prog 2 = (some .i64) := by kernel_rfl
theorem sz_3 : szO Try.prog 3 = (some 1) := by kernel_rfl
theorem ag_3 : agO Try.prog 3 = (some false) := by kernel_rfl
theorem zc_3 : zcO Try.prog 3 = (some [(.val (.int .i64 0))]) := by kernel_rfl
theorem zv_3 : zvO Try.prog 3 = (some (.d (.val (.int .i64 0)))) := by kernel_rfl
theorem za_3 : zaO Try.prog 3 = (some [(.val (.int .i64 0))]) := by kernel_rfl
theorem ik_3 : intKO Try.prog 3 = (some .i64) := by kernel_rfl
theorem sz_4 : szO Try.prog 4 = (some 1) := by kernel_rfl
theorem ag_4 : agO Try.prog 4 = (some false) := by kernel_rfl
theorem zc_4 : zcO Try.prog 4 = (some [(.val (.bool false))]) := by kernel_rfl
theorem zv_4 : zvO Try.prog 4 = (some (.d (.val (.bool false)))) := by kernel_rfl
theorem za_4 : zaO Try.prog 4 = (some [(.val (.bool false))]) := by kernel_rfl
theorem bt_4 : isBoolT Try.prog 4 = true := by kernel_rfl
theorem sz_5 : szO Try.prog 5 = (some 1) := by kernel_rfl
theorem ag_5 : agO Try.prog 5 = (some false) := by kernel_rfl
theorem zc_5 : zcO Try.prog 5 = (some [(.val (.int .u8 0))]) := by kernel_rfl
theorem zv_5 : zvO Try.prog 5 = (some (.d (.val (.int .u8 0)))) := by kernel_rfl
theorem za_5 : zaO Try.prog 5 = (some [(.val (.int .u8 0))]) := by kernel_rfl
theorem ik_5 : intKO Try.prog 5 = (some .u8) := by kernel_rfl
theorem sz_7 : szO Try.prog 7 = (some 4) := by kernel_rfl
theorem ag_7 : agO Try.prog 7 = (some true) := by kernel_rfl
theorem zc_7 : zcO Try.prog 7 = (some [(.val (.int .i64 0)), (.val (.int .i64 0)), (.val (.bool false)), (.val (.int .u8 0))]) := by kernel_rfl
theorem zv_7 : zvO Try.prog 7 = (some (.agg [(.d (.val (.int .i64 0))), (.d (.val (.int .i64 0))), (.d (.val (.bool false))), (.d (.val (.int .u8 0)))])) := by kernel_rfl
theorem za_7 : zaO Try.prog 7 = (some [(.val (.int .i64 0)), (.val (.int .i64 0)), (.val (.bool false)), (.val (.int .u8 0))]) := by kernel_rfl
theorem pa_7 : plAll Try.prog 7 = true := by kernel_rfl
theorem fo_7_0 : foO Try.prog 7 0 = (some 0) := by kernel_rfl
theorem ft_7_0 : ftO Try.prog 7 0 = (some (0, (1, false))) := by kernel_rfl
theorem pl_7_0 : plO Try.prog 7 0 = (some (0, 1)) := by kernel_rfl
theorem fo_7_1 : foO Try.prog 7 1 = (some 1) := by kernel_rfl
theorem ft_7_1 : ftO Try.prog 7 1 = (some (1, (1, false))) := by kernel_rfl
theorem pl_7_1 : plO Try.prog 7 1 = (some (1, 1)) := by kernel_rfl
theorem fo_7_2 : foO Try.prog 7 2 = (some 2) := by kernel_rfl
theorem ft_7_2 : ftO Try.prog 7 2 = (some (2, (1, false))) := by kernel_rfl
theorem pl_7_2 : plO Try.prog 7 2 = (some (2, 1)) := by kernel_rfl
theorem fo_7_3 : foO Try.prog 7 3 = (some 3) := by kernel_rfl
theorem ft_7_3 : ftO Try.prog 7 3 = (some (3, (1, false))) := by kernel_rfl
theorem pl_7_3 : plO Try.prog 7 3 = (some (3, 1)) := by kernel_rfl
theorem sz_8 : szO Try.prog 8 = (some 4) := by kernel_rfl
theorem ag_8 : agO Try.prog 8 = (some true) := by kernel_rfl
theorem zc_8 : zcO Try.prog 8 = (some [(.val (.int .i64 0)), (.val (.int .i64 0)), (.val (.bool false)), (.val (.int .u8 0))]) := by kernel_rfl
theorem zv_8 : zvO Try.prog 8 = (some (.agg [(.d (.val (.int .i64 0))), (.d (.val (.int .i64 0))), (.d (.val (.bool false))), (.d (.val (.int .u8 0)))])) := by kernel_rfl
theorem za_8 : zaO Try.prog 8 = (some [(.val (.int .i64 0)), (.val (.int .i64 0)), (.val (.bool false)), (.val (.int .u8 0))]) := by kernel_rfl
theorem pa_8 : plAll Try.prog 8 = true := by kernel_rfl
theorem fo_8_0 : foO Try.prog 8 0 = (some 0) := by kernel_rfl
theorem ft_8_0 : ftO Try.prog 8 0 = (some (0, (1, false))) := by kernel_rfl
theorem pl_8_0 : plO Try.prog 8 0 = (some (0, 1)) := by kernel_rfl
theorem fo_8_1 : foO Try.prog 8 1 = (some 1) := by kernel_rfl
theorem ft_8_1 : ftO Try.prog 8 1 = (some (1, (1, false))) := by kernel_rfl
theorem pl_8_1 : plO Try.prog 8 1 = (some (1, 1)) := by kernel_rfl
theorem fo_8_2 : foO Try.prog 8 2 = (some 2) := by kernel_rfl
theorem ft_8_2 : ftO Try.prog 8 2 = (some (2, (1, false))) := by kernel_rfl
theorem pl_8_2 : plO Try.prog 8 2 = (some (2, 1)) := by kernel_rfl
theorem fo_8_3 : foO Try.prog 8 3 = (some 3) := by kernel_rfl
theorem ft_8_3 : ftO Try.prog 8 3 = (some (3, (1, false))) := by kernel_rfl
theorem pl_8_3 : plO Try.prog 8 3 = (some (3, 1)) := by kernel_rfl
theorem sz_9 : szO Try.prog 9 = (some 1) := by kernel_rfl
theorem ag_9 : agO Try.prog 9 = (some false) := by kernel_rfl
theorem zc_9 : zcO Try.prog 9 = (some [(.val (.string ⟨#[]⟩))]) := by kernel_rfl
theorem zv_9 : zvO Try.prog 9 = (some (.d (.val (.string ⟨#[]⟩)))) := by kernel_rfl
theorem za_9 : zaO Try.prog 9 = (some [(.val (.string ⟨#[]⟩))]) := by kernel_rfl
theorem sz_10 : szO Try.prog 10 = (some 1) := by kernel_rfl
theorem ag_10 : agO Try.prog 10 = (some false) := by kernel_rfl
theorem zc_10 : zcO Try.prog 10 = (some [(.val (.string ⟨#[]⟩))]) := by kernel_rfl
theorem zv_10 : zvO Try.prog 10 = (some (.d (.val (.string ⟨#[]⟩)))) := by kernel_rfl
theorem za_10 : zaO Try.prog 10 = (some [(.val (.string ⟨#[]⟩))]) := by kernel_rfl
theorem sz_22 : szO Try.prog 22 = (some 1) := by kernel_rfl
theorem ag_22 : agO Try.prog 22 = (some false) := by kernel_rfl
theorem el_22 : elS Try.prog 22 = (some 1) := by kernel_rfl
theorem eo_22 : elO Try.prog 22 = (some (none, (5, 1))) := by kernel_rfl
theorem zc_22 : zcO Try.prog 22 = (some [(.val (.slice none 0 0))]) := by kernel_rfl
theorem zv_22 : zvO Try.prog 22 = (some (.d (.val (.slice none 0 0)))) := by kernel_rfl
theorem mk_22 : mkO Try.prog 22 = (some (1, ([(.val (.int .u8 0))], 1))) := by kernel_rfl
theorem za_22 : zaO Try.prog 22 = (some [(.val (.slice none 0 0))]) := by kernel_rfl
theorem sz_24 : szO Try.prog 24 = (some 1) := by kernel_rfl
theorem ag_24 : agO Try.prog 24 = (some true) := by kernel_rfl
theorem zc_24 : zcO Try.prog 24 = (some [(.val (.slice none 0 0))]) := by kernel_rfl
theorem zv_24 : zvO Try.prog 24 = (some (.agg [(.d (.val (.slice none 0 0)))])) := by kernel_rfl
theorem za_24 : zaO Try.prog 24 = (some [(.val (.slice none 0 0))]) := by kernel_rfl
theorem pa_24 : plAll Try.prog 24 = true := by kernel_rfl
theorem fo_24_0 : foO Try.prog 24 0 = (some 0) := by kernel_rfl
theorem ft_24_0 : ftO Try.prog 24 0 = (some (0, (1, false))) := by kernel_rfl
theorem pl_24_0 : plO Try.prog 24 0 = (some (0, 1)) := by kernel_rfl
theorem sz_25 : szO Try.prog 25 = (some 1) := by kernel_rfl
theorem ag_25 : agO Try.prog 25 = (some false) := by kernel_rfl
theorem el_25 : elS Try.prog 25 = (some 5) := by kernel_rfl
theorem eo_25 : elO Try.prog 25 = (some (none, (92, 5))) := by kernel_rfl
theorem zc_25 : zcO Try.prog 25 = (some [(.val (.slice none 0 0))]) := by kernel_rfl
theorem zv_25 : zvO Try.prog 25 = (some (.d (.val (.slice none 0 0)))) := by kernel_rfl
theorem mk_25 : mkO Try.prog 25 = (some (5, ([(.val (.int .u8 0)), (.val (.int .u8 0)), (.val (.int .u8 0)), (.val (.int .u8 0)), (.val (.int .u8 0))], 5))) := by kernel_rfl
theorem za_25 : zaO Try.prog 25 = (some [(.val (.slice none 0 0))]) := by kernel_rfl
theorem sz_26 : szO Try.prog 26 = (some 1) := by kernel_rfl
theorem ag_26 : agO Try.prog 26 = (some false) := by kernel_rfl
theorem el_26 : elS Try.prog 26 = (some 4) := by kernel_rfl
theorem eo_26 : elO Try.prog 26 = (some (none, (93, 4))) := by kernel_rfl
theorem zc_26 : zcO Try.prog 26 = (some [(.val (.slice none 0 0))]) := by kernel_rfl
theorem zv_26 : zvO Try.prog 26 = (some (.d (.val (.slice none 0 0)))) := by kernel_rfl
theorem mk_26 : mkO Try.prog 26 = (some (4, ([(.val (.int .u8 0)), (.val (.int .u8 0)), (.val (.int .u8 0)), (.val (.int .u8 0))], 4))) := by kernel_rfl
theorem za_26 : zaO Try.prog 26 = (some [(.val (.slice none 0 0))]) := by kernel_rfl
theorem sz_28 : szO Try.prog 28 = (some 3) := by kernel_rfl
theorem ag_28 : agO Try.prog 28 = (some true) := by kernel_rfl
theorem zc_28 : zcO Try.prog 28 = (some [(.val (.slice none 0 0)), (.val (.slice none 0 0)), (.val (.slice none 0 0))]) := by kernel_rfl
theorem zv_28 : zvO Try.prog 28 = (some (.agg [(.d (.val (.slice none 0 0))), (.d (.val (.slice none 0 0))), (.d (.val (.slice none 0 0)))])) := by kernel_rfl
theorem za_28 : zaO Try.prog 28 = (some [(.val (.slice none 0 0)), (.val (.slice none 0 0)), (.val (.slice none 0 0))]) := by kernel_rfl
theorem pa_28 : plAll Try.prog 28 = true := by kernel_rfl
theorem fo_28_0 : foO Try.prog 28 0 = (some 0) := by kernel_rfl
theorem ft_28_0 : ftO Try.prog 28 0 = (some (0, (1, false))) := by kernel_rfl
theorem pl_28_0 : plO Try.prog 28 0 = (some (0, 1)) := by kernel_rfl
theorem fo_28_1 : foO Try.prog 28 1 = (some 1) := by kernel_rfl
theorem ft_28_1 : ftO Try.prog 28 1 = (some (1, (1, false))) := by kernel_rfl
theorem pl_28_1 : plO Try.prog 28 1 = (some (1, 1)) := by kernel_rfl
theorem fo_28_2 : foO Try.prog 28 2 = (some 2) := by kernel_rfl
theorem ft_28_2 : ftO Try.prog 28 2 = (some (2, (1, false))) := by kernel_rfl
theorem pl_28_2 : plO Try.prog 28 2 = (some (2, 1)) := by kernel_rfl
theorem sz_29 : szO Try.prog 29 = (some 1) := by kernel_rfl
theorem ag_29 : agO Try.prog 29 = (some false) := by kernel_rfl
theorem el_29 : elS Try.prog 29 = (some 1) := by kernel_rfl
theorem eo_29 : elO Try.prog 29 = (some (none, (3, 1))) := by kernel_rfl
theorem zc_29 : zcO Try.prog 29 = (some [(.val (.slice none 0 0))]) := by kernel_rfl
theorem zv_29 : zvO Try.prog 29 = (some (.d (.val (.slice none 0 0)))) := by kernel_rfl
theorem mk_29 : mkO Try.prog 29 = (some (1, ([(.val (.int .i64 0))], 8))) := by kernel_rfl
theorem za_29 : zaO Try.prog 29 = (some [(.val (.slice none 0 0))]) := by kernel_rfl
theorem sz_30 : szO Try.prog 30 = (some 1) := by kernel_rfl
theorem ag_30 : agO Try.prog 30 = (some false) := by kernel_rfl
theorem el_30 : elS Try.prog 30 = (some 1) := by kernel_rfl
theorem eo_30 : elO Try.prog 30 = (some (none, (29, 1))) := by kernel_rfl
theorem zc_30 : zcO Try.prog 30 = (some [(.val (.slice none 0 0))]) := by kernel_rfl
theorem zv_30 : zvO Try.prog 30 = (some (.d (.val (.slice none 0 0)))) := by kernel_rfl
theorem mk_30 : mkO Try.prog 30 = (some (1, ([(.val (.slice none 0 0))], 24))) := by kernel_rfl
theorem za_30 : zaO Try.prog 30 = (some [(.val (.slice none 0 0))]) := by kernel_rfl
theorem sz_32 : szO Try.prog 32 = (some 2) := by kernel_rfl
theorem ag_32 : agO Try.prog 32 = (some true) := by kernel_rfl
theorem zc_32 : zcO Try.prog 32 = (some [(.val (.slice none 0 0)), (.val (.slice none 0 0))]) := by kernel_rfl
theorem zv_32 : zvO Try.prog 32 = (some (.agg [(.d (.val (.slice none 0 0))), (.d (.val (.slice none 0 0)))])) := by kernel_rfl
theorem za_32 : zaO Try.prog 32 = (some [(.val (.slice none 0 0)), (.val (.slice none 0 0))]) := by kernel_rfl
theorem pa_32 : plAll Try.prog 32 = true := by kernel_rfl
theorem fo_32_0 : foO Try.prog 32 0 = (some 0) := by kernel_rfl
theorem ft_32_0 : ftO Try.prog 32 0 = (some (0, (1, false))) := by kernel_rfl
theorem pl_32_0 : plO Try.prog 32 0 = (some (0, 1)) := by kernel_rfl
theorem fo_32_1 : foO Try.prog 32 1 = (some 1) := by kernel_rfl
theorem ft_32_1 : ftO Try.prog 32 1 = (some (1, (1, false))) := by kernel_rfl
theorem pl_32_1 : plO Try.prog 32 1 = (some (1, 1)) := by kernel_rfl
theorem sz_33 : szO Try.prog 33 = (some 1) := by kernel_rfl
theorem ag_33 : agO Try.prog 33 = (some false) := by kernel_rfl
theorem el_33 : elS Try.prog 33 = (some 2) := by kernel_rfl
theorem eo_33 : elO Try.prog 33 = (some (none, (79, 2))) := by kernel_rfl
theorem zc_33 : zcO Try.prog 33 = (some [(.val (.slice none 0 0))]) := by kernel_rfl
theorem zv_33 : zvO Try.prog 33 = (some (.d (.val (.slice none 0 0)))) := by kernel_rfl
theorem mk_33 : mkO Try.prog 33 = (some (2, ([(.val (.bool false)), (.val (.int .i64 0))], 16))) := by kernel_rfl
theorem za_33 : zaO Try.prog 33 = (some [(.val (.slice none 0 0))]) := by kernel_rfl
theorem sz_34 : szO Try.prog 34 = (some 1) := by kernel_rfl
theorem ag_34 : agO Try.prog 34 = (some false) := by kernel_rfl
theorem el_34 : elS Try.prog 34 = (some 1) := by kernel_rfl
theorem eo_34 : elO Try.prog 34 = (some (none, (4, 1))) := by kernel_rfl
theorem zc_34 : zcO Try.prog 34 = (some [(.val (.slice none 0 0))]) := by kernel_rfl
theorem zv_34 : zvO Try.prog 34 = (some (.d (.val (.slice none 0 0)))) := by kernel_rfl
theorem mk_34 : mkO Try.prog 34 = (some (1, ([(.val (.bool false))], 1))) := by kernel_rfl
theorem za_34 : zaO Try.prog 34 = (some [(.val (.slice none 0 0))]) := by kernel_rfl
theorem sz_36 : szO Try.prog 36 = (some 2) := by kernel_rfl
theorem ag_36 : agO Try.prog 36 = (some true) := by kernel_rfl
theorem zc_36 : zcO Try.prog 36 = (some [(.val (.slice none 0 0)), (.val (.slice none 0 0))]) := by kernel_rfl
theorem zv_36 : zvO Try.prog 36 = (some (.agg [(.d (.val (.slice none 0 0))), (.d (.val (.slice none 0 0)))])) := by kernel_rfl
theorem za_36 : zaO Try.prog 36 = (some [(.val (.slice none 0 0)), (.val (.slice none 0 0))]) := by kernel_rfl
theorem pa_36 : plAll Try.prog 36 = true := by kernel_rfl
theorem fo_36_0 : foO Try.prog 36 0 = (some 0) := by kernel_rfl
theorem ft_36_0 : ftO Try.prog 36 0 = (some (0, (1, false))) := by kernel_rfl
theorem pl_36_0 : plO Try.prog 36 0 = (some (0, 1)) := by kernel_rfl
theorem fo_36_1 : foO Try.prog 36 1 = (some 1) := by kernel_rfl
theorem ft_36_1 : ftO Try.prog 36 1 = (some (1, (1, false))) := by kernel_rfl
theorem pl_36_1 : plO Try.prog 36 1 = (some (1, 1)) := by kernel_rfl
theorem sz_37 : szO Try.prog 37 = (some 1) := by kernel_rfl
theorem ag_37 : agO Try.prog 37 = (some false) := by kernel_rfl
theorem zc_37 : zcO Try.prog 37 = (some [(.val (.int .i8 0))]) := by kernel_rfl
theorem zv_37 : zvO Try.prog 37 = (some (.d (.val (.int .i8 0)))) := by kernel_rfl
theorem za_37 : zaO Try.prog 37 = (some [(.val (.int .i8 0))]) := by kernel_rfl
theorem ik_37 : intKO Try.prog 37 = (some .i8) := by kernel_rfl
theorem sz_38 : szO Try.prog 38 = (some 2) := by kernel_rfl
theorem ag_38 : agO Try.prog 38 = (some true) := by kernel_rfl
theorem eo_38 : elO Try.prog 38 = (some ((some 2), (37, 1))) := by kernel_rfl
theorem zc_38 : zcO Try.prog 38 = (some [(.val (.int .i8 0)), (.val (.int .i8 0))]) := by kernel_rfl
theorem zv_38 : zvO Try.prog 38 = (some (.agg [(.d (.val (.int .i8 0))), (.d (.val (.int .i8 0)))])) := by kernel_rfl
theorem ea_38 : elA Try.prog 38 = (some (2, 1)) := by kernel_rfl
theorem eg_38 : elG Try.prog 38 = (some (2, (1, false))) := by kernel_rfl
theorem za_38 : zaO Try.prog 38 = (some [(.val (.int .i8 0)), (.val (.int .i8 0))]) := by kernel_rfl
theorem pa_38 : plAll Try.prog 38 = true := by kernel_rfl
theorem pl_38_0 : plO Try.prog 38 0 = (some (0, 1)) := by kernel_rfl
theorem pl_38_1 : plO Try.prog 38 1 = (some (1, 1)) := by kernel_rfl
theorem pl_38_2 : plO Try.prog 38 2 = (some (2, 1)) := by kernel_rfl
theorem pl_38_3 : plO Try.prog 38 3 = (some (3, 1)) := by kernel_rfl
theorem pl_38_4 : plO Try.prog 38 4 = (some (4, 1)) := by kernel_rfl
theorem pl_38_5 : plO Try.prog 38 5 = (some (5, 1)) := by kernel_rfl
theorem pl_38_6 : plO Try.prog 38 6 = (some (6, 1)) := by kernel_rfl
theorem pl_38_7 : plO Try.prog 38 7 = (some (7, 1)) := by kernel_rfl
theorem pl_38_8 : plO Try.prog 38 8 = (some (8, 1)) := by kernel_rfl
theorem pl_38_9 : plO Try.prog 38 9 = (some (9, 1)) := by kernel_rfl
theorem pl_38_10 : plO Try.prog 38 10 = (some (10, 1)) := by kernel_rfl
theorem pl_38_11 : plO Try.prog 38 11 = (some (11, 1)) := by kernel_rfl
theorem pl_38_12 : plO Try.prog 38 12 = (some (12, 1)) := by kernel_rfl
theorem pl_38_13 : plO Try.prog 38 13 = (some (13, 1)) := by kernel_rfl
theorem pl_38_14 : plO Try.prog 38 14 = (some (14, 1)) := by kernel_rfl
theorem pl_38_15 : plO Try.prog 38 15 = (some (15, 1)) := by kernel_rfl
theorem pl_38_16 : plO Try.prog 38 16 = (some (16, 1)) := by kernel_rfl
theorem pl_38_17 : plO Try.prog 38 17 = (some (17, 1)) := by kernel_rfl
theorem pl_38_18 : plO Try.prog 38 18 = (some (18, 1)) := by kernel_rfl
theorem pl_38_19 : plO Try.prog 38 19 = (some (19, 1)) := by kernel_rfl
theorem pl_38_20 : plO Try.prog 38 20 = (some (20, 1)) := by kernel_rfl
theorem pl_38_21 : plO Try.prog 38 21 = (some (21, 1)) := by kernel_rfl
theorem pl_38_22 : plO Try.prog 38 22 = (some (22, 1)) := by kernel_rfl
theorem pl_38_23 : plO Try.prog 38 23 = (some (23, 1)) := by kernel_rfl
theorem pl_38_24 : plO Try.prog 38 24 = (some (24, 1)) := by kernel_rfl
theorem pl_38_25 : plO Try.prog 38 25 = (some (25, 1)) := by kernel_rfl
theorem pl_38_26 : plO Try.prog 38 26 = (some (26, 1)) := by kernel_rfl
theorem pl_38_27 : plO Try.prog 38 27 = (some (27, 1)) := by kernel_rfl
theorem pl_38_28 : plO Try.prog 38 28 = (some (28, 1)) := by kernel_rfl
theorem pl_38_29 : plO Try.prog 38 29 = (some (29, 1)) := by kernel_rfl
theorem pl_38_30 : plO Try.prog 38 30 = (some (30, 1)) := by kernel_rfl
theorem pl_38_31 : plO Try.prog 38 31 = (some (31, 1)) := by kernel_rfl
theorem pl_38_32 : plO Try.prog 38 32 = (some (32, 1)) := by kernel_rfl
theorem pl_38_33 : plO Try.prog 38 33 = (some (33, 1)) := by kernel_rfl
theorem pl_38_34 : plO Try.prog 38 34 = (some (34, 1)) := by kernel_rfl
theorem pl_38_35 : plO Try.prog 38 35 = (some (35, 1)) := by kernel_rfl
theorem pl_38_36 : plO Try.prog 38 36 = (some (36, 1)) := by kernel_rfl
theorem pl_38_37 : plO Try.prog 38 37 = (some (37, 1)) := by kernel_rfl
theorem pl_38_38 : plO Try.prog 38 38 = (some (38, 1)) := by kernel_rfl
theorem pl_38_39 : plO Try.prog 38 39 = (some (39, 1)) := by kernel_rfl
theorem sz_40 : szO Try.prog 40 = (some 8) := by kernel_rfl
theorem ag_40 : agO Try.prog 40 = (some true) := by kernel_rfl
theorem zc_40 : zcO Try.prog 40 = (some [(.val (.slice none 0 0)), (.val (.slice none 0 0)), (.val (.slice none 0 0)), (.val (.slice none 0 0)), (.val (.slice none 0 0)), (.val (.int .i64 0)), (.val (.int .i8 0)), (.val (.int .i8 0))]) := by kernel_rfl
theorem zv_40 : zvO Try.prog 40 = (some (.agg [(.d (.val (.slice none 0 0))), (.d (.val (.slice none 0 0))), (.d (.val (.slice none 0 0))), (.d (.val (.slice none 0 0))), (.d (.val (.slice none 0 0))), (.d (.val (.int .i64 0))), (.d (.val (.int .i8 0))), (.d (.val (.int .i8 0)))])) := by kernel_rfl
theorem za_40 : zaO Try.prog 40 = (some [(.val (.slice none 0 0)), (.val (.slice none 0 0)), (.val (.slice none 0 0)), (.val (.slice none 0 0)), (.val (.slice none 0 0)), (.val (.int .i64 0)), (.val (.int .i8 0)), (.val (.int .i8 0))]) := by kernel_rfl
theorem pa_40 : plAll Try.prog 40 = true := by kernel_rfl
theorem fo_40_0 : foO Try.prog 40 0 = (some 0) := by kernel_rfl
theorem ft_40_0 : ftO Try.prog 40 0 = (some (0, (2, true))) := by kernel_rfl
theorem pl_40_0 : plO Try.prog 40 0 = (some (0, 2)) := by kernel_rfl
theorem fo_40_1 : foO Try.prog 40 1 = (some 2) := by kernel_rfl
theorem ft_40_1 : ftO Try.prog 40 1 = (some (2, (2, true))) := by kernel_rfl
theorem pl_40_1 : plO Try.prog 40 1 = (some (2, 2)) := by kernel_rfl
theorem fo_40_2 : foO Try.prog 40 2 = (some 4) := by kernel_rfl
theorem ft_40_2 : ftO Try.prog 40 2 = (some (4, (1, false))) := by kernel_rfl
theorem pl_40_2 : plO Try.prog 40 2 = (some (4, 1)) := by kernel_rfl
theorem fo_40_3 : foO Try.prog 40 3 = (some 5) := by kernel_rfl
theorem ft_40_3 : ftO Try.prog 40 3 = (some (5, (1, false))) := by kernel_rfl
theorem pl_40_3 : plO Try.prog 40 3 = (some (5, 1)) := by kernel_rfl
theorem fo_40_4 : foO Try.prog 40 4 = (some 6) := by kernel_rfl
theorem ft_40_4 : ftO Try.prog 40 4 = (some (6, (2, true))) := by kernel_rfl
theorem pl_40_4 : plO Try.prog 40 4 = (some (6, 2)) := by kernel_rfl
theorem sz_43 : szO Try.prog 43 = (some 1) := by kernel_rfl
theorem ag_43 : agO Try.prog 43 = (some false) := by kernel_rfl
theorem el_43 : elS Try.prog 43 = (some 3) := by kernel_rfl
theorem eo_43 : elO Try.prog 43 = (some (none, (77, 3))) := by kernel_rfl
theorem zc_43 : zcO Try.prog 43 = (some [(.val (.slice none 0 0))]) := by kernel_rfl
theorem zv_43 : zvO Try.prog 43 = (some (.d (.val (.slice none 0 0)))) := by kernel_rfl
theorem mk_43 : mkO Try.prog 43 = (some (3, ([(.val (.int .i64 0)), (.val (.int .i64 0)), (.val (.int .i64 0))], 24))) := by kernel_rfl
theorem za_43 : zaO Try.prog 43 = (some [(.val (.slice none 0 0))]) := by kernel_rfl
theorem sz_44 : szO Try.prog 44 = (some 1) := by kernel_rfl
theorem ag_44 : agO Try.prog 44 = (some false) := by kernel_rfl
theorem el_44 : elS Try.prog 44 = (some 5) := by kernel_rfl
theorem eo_44 : elO Try.prog 44 = (some (none, (72, 5))) := by kernel_rfl
theorem zc_44 : zcO Try.prog 44 = (some [(.val (.slice none 0 0))]) := by kernel_rfl
theorem zv_44 : zvO Try.prog 44 = (some (.d (.val (.slice none 0 0)))) := by kernel_rfl
theorem mk_44 : mkO Try.prog 44 = (some (5, ([(.val (.int .i64 0)), (.val (.int .i64 0)), (.val (.int .i64 0)), (.val (.int .i64 0)), (.val (.int .i64 0))], 40))) := by kernel_rfl
theorem za_44 : zaO Try.prog 44 = (some [(.val (.slice none 0 0))]) := by kernel_rfl
theorem sz_46 : szO Try.prog 46 = (some 4) := by kernel_rfl
theorem ag_46 : agO Try.prog 46 = (some true) := by kernel_rfl
theorem zc_46 : zcO Try.prog 46 = (some [(.val (.slice none 0 0)), (.val (.slice none 0 0)), (.val (.slice none 0 0)), (.val (.slice none 0 0))]) := by kernel_rfl
theorem zv_46 : zvO Try.prog 46 = (some (.agg [(.d (.val (.slice none 0 0))), (.d (.val (.slice none 0 0))), (.d (.val (.slice none 0 0))), (.d (.val (.slice none 0 0)))])) := by kernel_rfl
theorem za_46 : zaO Try.prog 46 = (some [(.val (.slice none 0 0)), (.val (.slice none 0 0)), (.val (.slice none 0 0)), (.val (.slice none 0 0))]) := by kernel_rfl
theorem pa_46 : plAll Try.prog 46 = true := by kernel_rfl
theorem fo_46_0 : foO Try.prog 46 0 = (some 0) := by kernel_rfl
theorem ft_46_0 : ftO Try.prog 46 0 = (some (0, (1, false))) := by kernel_rfl
theorem pl_46_0 : plO Try.prog 46 0 = (some (0, 1)) := by kernel_rfl
theorem fo_46_1 : foO Try.prog 46 1 = (some 1) := by kernel_rfl
theorem ft_46_1 : ftO Try.prog 46 1 = (some (1, (1, false))) := by kernel_rfl
theorem pl_46_1 : plO Try.prog 46 1 = (some (1, 1)) := by kernel_rfl
theorem fo_46_2 : foO Try.prog 46 2 = (some 2) := by kernel_rfl
theorem ft_46_2 : ftO Try.prog 46 2 = (some (2, (1, false))) := by kernel_rfl
theorem pl_46_2 : plO Try.prog 46 2 = (some (2, 1)) := by kernel_rfl
theorem fo_46_3 : foO Try.prog 46 3 = (some 3) := by kernel_rfl
theorem ft_46_3 : ftO Try.prog 46 3 = (some (3, (1, false))) := by kernel_rfl
theorem pl_46_3 : plO Try.prog 46 3 = (some (3, 1)) := by kernel_rfl
theorem sz_49 : szO Try.prog 49 = (some 1) := by kernel_rfl
theorem ag_49 : agO Try.prog 49 = (some false) := by kernel_rfl
theorem el_49 : elS Try.prog 49 = (some 4) := by kernel_rfl
theorem eo_49 : elO Try.prog 49 = (some (none, (46, 4))) := by kernel_rfl
theorem zc_49 : zcO Try.prog 49 = (some [(.val (.slice none 0 0))]) := by kernel_rfl
theorem zv_49 : zvO Try.prog 49 = (some (.d (.val (.slice none 0 0)))) := by kernel_rfl
theorem mk_49 : mkO Try.prog 49 = (some (4, ([(.val (.slice none 0 0)), (.val (.slice none 0 0)), (.val (.slice none 0 0)), (.val (.slice none 0 0))], 96))) := by kernel_rfl
theorem za_49 : zaO Try.prog 49 = (some [(.val (.slice none 0 0))]) := by kernel_rfl
theorem sz_51 : szO Try.prog 51 = (some 2) := by kernel_rfl
theorem ag_51 : agO Try.prog 51 = (some true) := by kernel_rfl
theorem eo_51 : elO Try.prog 51 = (some ((some 2), (3, 1))) := by kernel_rfl
theorem zc_51 : zcO Try.prog 51 = (some [(.val (.int .i64 0)), (.val (.int .i64 0))]) := by kernel_rfl
theorem zv_51 : zvO Try.prog 51 = (some (.agg [(.d (.val (.int .i64 0))), (.d (.val (.int .i64 0)))])) := by kernel_rfl
theorem ea_51 : elA Try.prog 51 = (some (2, 1)) := by kernel_rfl
theorem eg_51 : elG Try.prog 51 = (some (2, (1, false))) := by kernel_rfl
theorem za_51 : zaO Try.prog 51 = (some [(.val (.int .i64 0)), (.val (.int .i64 0))]) := by kernel_rfl
theorem pa_51 : plAll Try.prog 51 = true := by kernel_rfl
theorem pl_51_0 : plO Try.prog 51 0 = (some (0, 1)) := by kernel_rfl
theorem pl_51_1 : plO Try.prog 51 1 = (some (1, 1)) := by kernel_rfl
theorem pl_51_2 : plO Try.prog 51 2 = (some (2, 1)) := by kernel_rfl
theorem pl_51_3 : plO Try.prog 51 3 = (some (3, 1)) := by kernel_rfl
theorem pl_51_4 : plO Try.prog 51 4 = (some (4, 1)) := by kernel_rfl
theorem pl_51_5 : plO Try.prog 51 5 = (some (5, 1)) := by kernel_rfl
theorem pl_51_6 : plO Try.prog 51 6 = (some (6, 1)) := by kernel_rfl
theorem pl_51_7 : plO Try.prog 51 7 = (some (7, 1)) := by kernel_rfl
theorem pl_51_8 : plO Try.prog 51 8 = (some (8, 1)) := by kernel_rfl
theorem pl_51_9 : plO Try.prog 51 9 = (some (9, 1)) := by kernel_rfl
theorem pl_51_10 : plO Try.prog 51 10 = (some (10, 1)) := by kernel_rfl
theorem pl_51_11 : plO Try.prog 51 11 = (some (11, 1)) := by kernel_rfl
theorem pl_51_12 : plO Try.prog 51 12 = (some (12, 1)) := by kernel_rfl
theorem pl_51_13 : plO Try.prog 51 13 = (some (13, 1)) := by kernel_rfl
theorem pl_51_14 : plO Try.prog 51 14 = (some (14, 1)) := by kernel_rfl
theorem pl_51_15 : plO Try.prog 51 15 = (some (15, 1)) := by kernel_rfl
theorem pl_51_16 : plO Try.prog 51 16 = (some (16, 1)) := by kernel_rfl
theorem pl_51_17 : plO Try.prog 51 17 = (some (17, 1)) := by kernel_rfl
theorem pl_51_18 : plO Try.prog 51 18 = (some (18, 1)) := by kernel_rfl
theorem pl_51_19 : plO Try.prog 51 19 = (some (19, 1)) := by kernel_rfl
theorem pl_51_20 : plO Try.prog 51 20 = (some (20, 1)) := by kernel_rfl
theorem pl_51_21 : plO Try.prog 51 21 = (some (21, 1)) := by kernel_rfl
theorem pl_51_22 : plO Try.prog 51 22 = (some (22, 1)) := by kernel_rfl
theorem pl_51_23 : plO Try.prog 51 23 = (some (23, 1)) := by kernel_rfl
theorem pl_51_24 : plO Try.prog 51 24 = (some (24, 1)) := by kernel_rfl
theorem pl_51_25 : plO Try.prog 51 25 = (some (25, 1)) := by kernel_rfl
theorem pl_51_26 : plO Try.prog 51 26 = (some (26, 1)) := by kernel_rfl
theorem pl_51_27 : plO Try.prog 51 27 = (some (27, 1)) := by kernel_rfl
theorem pl_51_28 : plO Try.prog 51 28 = (some (28, 1)) := by kernel_rfl
theorem pl_51_29 : plO Try.prog 51 29 = (some (29, 1)) := by kernel_rfl
theorem pl_51_30 : plO Try.prog 51 30 = (some (30, 1)) := by kernel_rfl
theorem pl_51_31 : plO Try.prog 51 31 = (some (31, 1)) := by kernel_rfl
theorem pl_51_32 : plO Try.prog 51 32 = (some (32, 1)) := by kernel_rfl
theorem pl_51_33 : plO Try.prog 51 33 = (some (33, 1)) := by kernel_rfl
theorem pl_51_34 : plO Try.prog 51 34 = (some (34, 1)) := by kernel_rfl
theorem pl_51_35 : plO Try.prog 51 35 = (some (35, 1)) := by kernel_rfl
theorem pl_51_36 : plO Try.prog 51 36 = (some (36, 1)) := by kernel_rfl
theorem pl_51_37 : plO Try.prog 51 37 = (some (37, 1)) := by kernel_rfl
theorem pl_51_38 : plO Try.prog 51 38 = (some (38, 1)) := by kernel_rfl
theorem pl_51_39 : plO Try.prog 51 39 = (some (39, 1)) := by kernel_rfl
theorem sz_53 : szO Try.prog 53 = (some 3) := by kernel_rfl
theorem ag_53 : agO Try.prog 53 = (some true) := by kernel_rfl
theorem zc_53 : zcO Try.prog 53 = (some [(.val (.slice none 0 0)), (.val (.int .i64 0)), (.val (.int .i64 0))]) := by kernel_rfl
theorem zv_53 : zvO Try.prog 53 = (some (.agg [(.d (.val (.slice none 0 0))), (.d (.val (.int .i64 0))), (.d (.val (.int .i64 0)))])) := by kernel_rfl
theorem za_53 : zaO Try.prog 53 = (some [(.val (.slice none 0 0)), (.val (.int .i64 0)), (.val (.int .i64 0))]) := by kernel_rfl
theorem pa_53 : plAll Try.prog 53 = true := by kernel_rfl
theorem fo_53_0 : foO Try.prog 53 0 = (some 0) := by kernel_rfl
theorem ft_53_0 : ftO Try.prog 53 0 = (some (0, (1, false))) := by kernel_rfl
theorem pl_53_0 : plO Try.prog 53 0 = (some (0, 1)) := by kernel_rfl
theorem fo_53_1 : foO Try.prog 53 1 = (some 1) := by kernel_rfl
theorem ft_53_1 : ftO Try.prog 53 1 = (some (1, (2, true))) := by kernel_rfl
theorem pl_53_1 : plO Try.prog 53 1 = (some (1, 2)) := by kernel_rfl
theorem sz_60 : szO Try.prog 60 = (some 5) := by kernel_rfl
theorem ag_60 : agO Try.prog 60 = (some true) := by kernel_rfl
theorem zc_60 : zcO Try.prog 60 = (some [(.val (.bool false)), (.val (.slice none 0 0)), (.val (.slice none 0 0)), (.val (.slice none 0 0)), (.val (.slice none 0 0))]) := by kernel_rfl
theorem zv_60 : zvO Try.prog 60 = (some (.agg [(.d (.val (.bool false))), (.d (.val (.slice none 0 0))), (.d (.val (.slice none 0 0))), (.d (.val (.slice none 0 0))), (.d (.val (.slice none 0 0)))])) := by kernel_rfl
theorem za_60 : zaO Try.prog 60 = (some [(.val (.bool false)), (.val (.slice none 0 0)), (.val (.slice none 0 0)), (.val (.slice none 0 0)), (.val (.slice none 0 0))]) := by kernel_rfl
theorem pa_60 : plAll Try.prog 60 = true := by kernel_rfl
theorem fo_60_0 : foO Try.prog 60 0 = (some 0) := by kernel_rfl
theorem ft_60_0 : ftO Try.prog 60 0 = (some (0, (1, false))) := by kernel_rfl
theorem pl_60_0 : plO Try.prog 60 0 = (some (0, 1)) := by kernel_rfl
theorem fo_60_1 : foO Try.prog 60 1 = (some 1) := by kernel_rfl
theorem ft_60_1 : ftO Try.prog 60 1 = (some (1, (2, true))) := by kernel_rfl
theorem pl_60_1 : plO Try.prog 60 1 = (some (1, 2)) := by kernel_rfl
theorem fo_60_2 : foO Try.prog 60 2 = (some 3) := by kernel_rfl
theorem ft_60_2 : ftO Try.prog 60 2 = (some (3, (1, false))) := by kernel_rfl
theorem pl_60_2 : plO Try.prog 60 2 = (some (3, 1)) := by kernel_rfl
theorem fo_60_3 : foO Try.prog 60 3 = (some 4) := by kernel_rfl
theorem ft_60_3 : ftO Try.prog 60 3 = (some (4, (1, false))) := by kernel_rfl
theorem pl_60_3 : plO Try.prog 60 3 = (some (4, 1)) := by kernel_rfl
theorem sz_68 : szO Try.prog 68 = (some 2) := by kernel_rfl
theorem ag_68 : agO Try.prog 68 = (some true) := by kernel_rfl
theorem zc_68 : zcO Try.prog 68 = (some [(.val (.slice none 0 0)), (.val (.slice none 0 0))]) := by kernel_rfl
theorem zv_68 : zvO Try.prog 68 = (some (.agg [(.d (.val (.slice none 0 0))), (.d (.val (.slice none 0 0)))])) := by kernel_rfl
theorem za_68 : zaO Try.prog 68 = (some [(.val (.slice none 0 0)), (.val (.slice none 0 0))]) := by kernel_rfl
theorem pa_68 : plAll Try.prog 68 = true := by kernel_rfl
theorem fo_68_0 : foO Try.prog 68 0 = (some 0) := by kernel_rfl
theorem ft_68_0 : ftO Try.prog 68 0 = (some (0, (1, false))) := by kernel_rfl
theorem pl_68_0 : plO Try.prog 68 0 = (some (0, 1)) := by kernel_rfl
theorem fo_68_1 : foO Try.prog 68 1 = (some 1) := by kernel_rfl
theorem ft_68_1 : ftO Try.prog 68 1 = (some (1, (1, false))) := by kernel_rfl
theorem pl_68_1 : plO Try.prog 68 1 = (some (1, 1)) := by kernel_rfl
theorem sz_72 : szO Try.prog 72 = (some 5) := by kernel_rfl
theorem ag_72 : agO Try.prog 72 = (some true) := by kernel_rfl
theorem zc_72 : zcO Try.prog 72 = (some [(.val (.int .i64 0)), (.val (.int .i64 0)), (.val (.int .i64 0)), (.val (.int .i64 0)), (.val (.int .i64 0))]) := by kernel_rfl
theorem zv_72 : zvO Try.prog 72 = (some (.agg [(.d (.val (.int .i64 0))), (.d (.val (.int .i64 0))), (.d (.val (.int .i64 0))), (.d (.val (.int .i64 0))), (.d (.val (.int .i64 0)))])) := by kernel_rfl
theorem za_72 : zaO Try.prog 72 = (some [(.val (.int .i64 0)), (.val (.int .i64 0)), (.val (.int .i64 0)), (.val (.int .i64 0)), (.val (.int .i64 0))]) := by kernel_rfl
theorem pa_72 : plAll Try.prog 72 = true := by kernel_rfl
theorem fo_72_0 : foO Try.prog 72 0 = (some 0) := by kernel_rfl
theorem ft_72_0 : ftO Try.prog 72 0 = (some (0, (1, false))) := by kernel_rfl
theorem pl_72_0 : plO Try.prog 72 0 = (some (0, 1)) := by kernel_rfl
theorem fo_72_1 : foO Try.prog 72 1 = (some 1) := by kernel_rfl
theorem ft_72_1 : ftO Try.prog 72 1 = (some (1, (1, false))) := by kernel_rfl
theorem pl_72_1 : plO Try.prog 72 1 = (some (1, 1)) := by kernel_rfl
theorem fo_72_2 : foO Try.prog 72 2 = (some 2) := by kernel_rfl
theorem ft_72_2 : ftO Try.prog 72 2 = (some (2, (1, false))) := by kernel_rfl
theorem pl_72_2 : plO Try.prog 72 2 = (some (2, 1)) := by kernel_rfl
theorem fo_72_3 : foO Try.prog 72 3 = (some 3) := by kernel_rfl
theorem ft_72_3 : ftO Try.prog 72 3 = (some (3, (1, false))) := by kernel_rfl
theorem pl_72_3 : plO Try.prog 72 3 = (some (3, 1)) := by kernel_rfl
theorem fo_72_4 : foO Try.prog 72 4 = (some 4) := by kernel_rfl
theorem ft_72_4 : ftO Try.prog 72 4 = (some (4, (1, false))) := by kernel_rfl
theorem pl_72_4 : plO Try.prog 72 4 = (some (4, 1)) := by kernel_rfl
theorem sz_77 : szO Try.prog 77 = (some 3) := by kernel_rfl
theorem ag_77 : agO Try.prog 77 = (some true) := by kernel_rfl
theorem zc_77 : zcO Try.prog 77 = (some [(.val (.int .i64 0)), (.val (.int .i64 0)), (.val (.int .i64 0))]) := by kernel_rfl
theorem zv_77 : zvO Try.prog 77 = (some (.agg [(.d (.val (.int .i64 0))), (.d (.val (.int .i64 0))), (.d (.val (.int .i64 0)))])) := by kernel_rfl
theorem za_77 : zaO Try.prog 77 = (some [(.val (.int .i64 0)), (.val (.int .i64 0)), (.val (.int .i64 0))]) := by kernel_rfl
theorem pa_77 : plAll Try.prog 77 = true := by kernel_rfl
theorem fo_77_0 : foO Try.prog 77 0 = (some 0) := by kernel_rfl
theorem ft_77_0 : ftO Try.prog 77 0 = (some (0, (1, false))) := by kernel_rfl
theorem pl_77_0 : plO Try.prog 77 0 = (some (0, 1)) := by kernel_rfl
theorem fo_77_1 : foO Try.prog 77 1 = (some 1) := by kernel_rfl
theorem ft_77_1 : ftO Try.prog 77 1 = (some (1, (1, false))) := by kernel_rfl
theorem pl_77_1 : plO Try.prog 77 1 = (some (1, 1)) := by kernel_rfl
theorem fo_77_2 : foO Try.prog 77 2 = (some 2) := by kernel_rfl
theorem ft_77_2 : ftO Try.prog 77 2 = (some (2, (1, false))) := by kernel_rfl
theorem pl_77_2 : plO Try.prog 77 2 = (some (2, 1)) := by kernel_rfl
theorem sz_79 : szO Try.prog 79 = (some 2) := by kernel_rfl
theorem ag_79 : agO Try.prog 79 = (some true) := by kernel_rfl
theorem zc_79 : zcO Try.prog 79 = (some [(.val (.bool false)), (.val (.int .i64 0))]) := by kernel_rfl
theorem zv_79 : zvO Try.prog 79 = (some (.agg [(.d (.val (.bool false))), (.d (.val (.int .i64 0)))])) := by kernel_rfl
theorem za_79 : zaO Try.prog 79 = (some [(.val (.bool false)), (.val (.int .i64 0))]) := by kernel_rfl
theorem pa_79 : plAll Try.prog 79 = true := by kernel_rfl
theorem fo_79_0 : foO Try.prog 79 0 = (some 0) := by kernel_rfl
theorem ft_79_0 : ftO Try.prog 79 0 = (some (0, (1, false))) := by kernel_rfl
theorem pl_79_0 : plO Try.prog 79 0 = (some (0, 1)) := by kernel_rfl
theorem fo_79_1 : foO Try.prog 79 1 = (some 1) := by kernel_rfl
theorem ft_79_1 : ftO Try.prog 79 1 = (some (1, (1, false))) := by kernel_rfl
theorem pl_79_1 : plO Try.prog 79 1 = (some (1, 1)) := by kernel_rfl
theorem sz_83 : szO Try.prog 83 = (some 5) := by kernel_rfl
theorem ag_83 : agO Try.prog 83 = (some true) := by kernel_rfl
theorem zc_83 : zcO Try.prog 83 = (some [(.val (.slice none 0 0)), (.val (.slice none 0 0)), (.val (.slice none 0 0)), (.val (.slice none 0 0)), (.val (.int .i64 0))]) := by kernel_rfl
theorem zv_83 : zvO Try.prog 83 = (some (.agg [(.d (.val (.slice none 0 0))), (.d (.val (.slice none 0 0))), (.d (.val (.slice none 0 0))), (.d (.val (.slice none 0 0))), (.d (.val (.int .i64 0)))])) := by kernel_rfl
theorem za_83 : zaO Try.prog 83 = (some [(.val (.slice none 0 0)), (.val (.slice none 0 0)), (.val (.slice none 0 0)), (.val (.slice none 0 0)), (.val (.int .i64 0))]) := by kernel_rfl
theorem pa_83 : plAll Try.prog 83 = true := by kernel_rfl
theorem fo_83_0 : foO Try.prog 83 0 = (some 0) := by kernel_rfl
theorem ft_83_0 : ftO Try.prog 83 0 = (some (0, (4, true))) := by kernel_rfl
theorem pl_83_0 : plO Try.prog 83 0 = (some (0, 4)) := by kernel_rfl
theorem fo_83_1 : foO Try.prog 83 1 = (some 4) := by kernel_rfl
theorem ft_83_1 : ftO Try.prog 83 1 = (some (4, (1, false))) := by kernel_rfl
theorem pl_83_1 : plO Try.prog 83 1 = (some (4, 1)) := by kernel_rfl
theorem sz_85 : szO Try.prog 85 = (some 1) := by kernel_rfl
theorem ag_85 : agO Try.prog 85 = (some false) := by kernel_rfl
theorem el_85 : elS Try.prog 85 = (some 13) := by kernel_rfl
theorem eo_85 : elO Try.prog 85 = (some (none, (162, 13))) := by kernel_rfl
theorem zc_85 : zcO Try.prog 85 = (some [(.val (.slice none 0 0))]) := by kernel_rfl
theorem zv_85 : zvO Try.prog 85 = (some (.d (.val (.slice none 0 0)))) := by kernel_rfl
theorem mk_85 : mkO Try.prog 85 = (some (13, ([(.val (.string ⟨#[]⟩)), (.val (.int .i64 0)), (.val (.int .i64 0)), (.val (.int .i64 0)), (.val (.string ⟨#[]⟩)), (.val (.int .i64 0)), (.val (.string ⟨#[]⟩)), (.val (.int .i64 0)), (.val (.string ⟨#[]⟩)), (.val (.slice none 0 0)), (.val (.int .i64 0)), (.val (.string ⟨#[]⟩)), (.val (.int .i64 0))], 160))) := by kernel_rfl
theorem za_85 : zaO Try.prog 85 = (some [(.val (.slice none 0 0))]) := by kernel_rfl
theorem sz_86 : szO Try.prog 86 = (some 1) := by kernel_rfl
theorem ag_86 : agO Try.prog 86 = (some false) := by kernel_rfl
theorem el_86 : elS Try.prog 86 = (some 27) := by kernel_rfl
theorem eo_86 : elO Try.prog 86 = (some (none, (146, 27))) := by kernel_rfl
theorem zc_86 : zcO Try.prog 86 = (some [(.val (.slice none 0 0))]) := by kernel_rfl
theorem zv_86 : zvO Try.prog 86 = (some (.d (.val (.slice none 0 0)))) := by kernel_rfl
theorem mk_86 : mkO Try.prog 86 = (some (27, ([(.val (.string ⟨#[]⟩)), (.val (.int .i64 0)), (.val (.int .i64 0)), (.val (.int .i64 0)), (.val (.string ⟨#[]⟩)), (.val (.int .i64 0)), (.val (.string ⟨#[]⟩)), (.val (.int .i64 0)), (.val (.string ⟨#[]⟩)), (.val (.slice none 0 0)), (.val (.int .i64 0)), (.val (.string ⟨#[]⟩)), (.val (.int .i64 0)), (.val (.string ⟨#[]⟩)), (.val (.int .i64 0)), (.val (.string ⟨#[]⟩)), (.val (.slice none 0 0)), (.val (.int .i64 0)), (.val (.string ⟨#[]⟩)), (.val (.int .i64 0)), (.val (.string ⟨#[]⟩)), (.val (.int .i64 0)), (.val (.string ⟨#[]⟩)), (.val (.slice none 0 0)), (.val (.int .i64 0)), (.val (.string ⟨#[]⟩)), (.val (.int .i64 0))], 352))) := by kernel_rfl
theorem za_86 : zaO Try.prog 86 = (some [(.val (.slice none 0 0))]) := by kernel_rfl
theorem sz_87 : szO Try.prog 87 = (some 1) := by kernel_rfl
theorem ag_87 : agO Try.prog 87 = (some false) := by kernel_rfl
theorem el_87 : elS Try.prog 87 = (some 9) := by kernel_rfl
theorem eo_87 : elO Try.prog 87 = (some (none, (159, 9))) := by kernel_rfl
theorem zc_87 : zcO Try.prog 87 = (some [(.val (.slice none 0 0))]) := by kernel_rfl
theorem zv_87 : zvO Try.prog 87 = (some (.d (.val (.slice none 0 0)))) := by kernel_rfl
theorem mk_87 : mkO Try.prog 87 = (some (9, ([(.val (.int .i64 0)), (.val (.int .i64 0)), (.val (.int .i64 0)), (.val (.string ⟨#[]⟩)), (.val (.int .i64 0)), (.val (.string ⟨#[]⟩)), (.val (.int .i64 0)), (.val (.string ⟨#[]⟩)), (.val (.slice none 0 0))], 112))) := by kernel_rfl
theorem za_87 : zaO Try.prog 87 = (some [(.val (.slice none 0 0))]) := by kernel_rfl
theorem sz_88 : szO Try.prog 88 = (some 1) := by kernel_rfl
theorem ag_88 : agO Try.prog 88 = (some false) := by kernel_rfl
theorem el_88 : elS Try.prog 88 = (some 16) := by kernel_rfl
theorem eo_88 : elO Try.prog 88 = (some (none, (142, 16))) := by kernel_rfl
theorem zc_88 : zcO Try.prog 88 = (some [(.val (.slice none 0 0))]) := by kernel_rfl
theorem zv_88 : zvO Try.prog 88 = (some (.d (.val (.slice none 0 0)))) := by kernel_rfl
theorem mk_88 : mkO Try.prog 88 = (some (16, ([(.val (.int .i64 0)), (.val (.int .i64 0)), (.val (.int .i64 0)), (.val (.string ⟨#[]⟩)), (.val (.int .i64 0)), (.val (.string ⟨#[]⟩)), (.val (.int .i64 0)), (.val (.string ⟨#[]⟩)), (.val (.slice none 0 0)), (.val (.int .i64 0)), (.val (.string ⟨#[]⟩)), (.val (.int .i64 0)), (.val (.string ⟨#[]⟩)), (.val (.int .i64 0)), (.val (.string ⟨#[]⟩)), (.val (.slice none 0 0))], 208))) := by kernel_rfl
theorem za_88 : zaO Try.prog 88 = (some [(.val (.slice none 0 0))]) := by kernel_rfl
theorem sz_90 : szO Try.prog 90 = (some 6) := by kernel_rfl
theorem ag_90 : agO Try.prog 90 = (some true) := by kernel_rfl
theorem zc_90 : zcO Try.prog 90 = (some [(.val (.string ⟨#[]⟩)), (.val (.string ⟨#[]⟩)), (.val (.slice none 0 0)), (.val (.slice none 0 0)), (.val (.slice none 0 0)), (.val (.slice none 0 0))]) := by kernel_rfl
theorem zv_90 : zvO Try.prog 90 = (some (.agg [(.d (.val (.string ⟨#[]⟩))), (.d (.val (.string ⟨#[]⟩))), (.d (.val (.slice none 0 0))), (.d (.val (.slice none 0 0))), (.d (.val (.slice none 0 0))), (.d (.val (.slice none 0 0)))])) := by kernel_rfl
theorem za_90 : zaO Try.prog 90 = (some [(.val (.string ⟨#[]⟩)), (.val (.string ⟨#[]⟩)), (.val (.slice none 0 0)), (.val (.slice none 0 0)), (.val (.slice none 0 0)), (.val (.slice none 0 0))]) := by kernel_rfl
theorem pa_90 : plAll Try.prog 90 = true := by kernel_rfl
theorem fo_90_0 : foO Try.prog 90 0 = (some 0) := by kernel_rfl
theorem ft_90_0 : ftO Try.prog 90 0 = (some (0, (1, false))) := by kernel_rfl
theorem pl_90_0 : plO Try.prog 90 0 = (some (0, 1)) := by kernel_rfl
theorem fo_90_1 : foO Try.prog 90 1 = (some 1) := by kernel_rfl
theorem ft_90_1 : ftO Try.prog 90 1 = (some (1, (1, false))) := by kernel_rfl
theorem pl_90_1 : plO Try.prog 90 1 = (some (1, 1)) := by kernel_rfl
theorem fo_90_2 : foO Try.prog 90 2 = (some 2) := by kernel_rfl
theorem ft_90_2 : ftO Try.prog 90 2 = (some (2, (1, false))) := by kernel_rfl
theorem pl_90_2 : plO Try.prog 90 2 = (some (2, 1)) := by kernel_rfl
theorem fo_90_3 : foO Try.prog 90 3 = (some 3) := by kernel_rfl
theorem ft_90_3 : ftO Try.prog 90 3 = (some (3, (1, false))) := by kernel_rfl
theorem pl_90_3 : plO Try.prog 90 3 = (some (3, 1)) := by kernel_rfl
theorem fo_90_4 : foO Try.prog 90 4 = (some 4) := by kernel_rfl
theorem ft_90_4 : ftO Try.prog 90 4 = (some (4, (1, false))) := by kernel_rfl
theorem pl_90_4 : plO Try.prog 90 4 = (some (4, 1)) := by kernel_rfl
theorem fo_90_5 : foO Try.prog 90 5 = (some 5) := by kernel_rfl
theorem ft_90_5 : ftO Try.prog 90 5 = (some (5, (1, false))) := by kernel_rfl
theorem pl_90_5 : plO Try.prog 90 5 = (some (5, 1)) := by kernel_rfl
theorem sz_92 : szO Try.prog 92 = (some 5) := by kernel_rfl
theorem ag_92 : agO Try.prog 92 = (some true) := by kernel_rfl
theorem eo_92 : elO Try.prog 92 = (some ((some 5), (5, 1))) := by kernel_rfl
theorem zc_92 : zcO Try.prog 92 = (some [(.val (.int .u8 0)), (.val (.int .u8 0)), (.val (.int .u8 0)), (.val (.int .u8 0)), (.val (.int .u8 0))]) := by kernel_rfl
theorem zv_92 : zvO Try.prog 92 = (some (.agg [(.d (.val (.int .u8 0))), (.d (.val (.int .u8 0))), (.d (.val (.int .u8 0))), (.d (.val (.int .u8 0))), (.d (.val (.int .u8 0)))])) := by kernel_rfl
theorem ea_92 : elA Try.prog 92 = (some (5, 1)) := by kernel_rfl
theorem eg_92 : elG Try.prog 92 = (some (5, (1, false))) := by kernel_rfl
theorem za_92 : zaO Try.prog 92 = (some [(.val (.int .u8 0)), (.val (.int .u8 0)), (.val (.int .u8 0)), (.val (.int .u8 0)), (.val (.int .u8 0))]) := by kernel_rfl
theorem pa_92 : plAll Try.prog 92 = true := by kernel_rfl
theorem pl_92_0 : plO Try.prog 92 0 = (some (0, 1)) := by kernel_rfl
theorem pl_92_1 : plO Try.prog 92 1 = (some (1, 1)) := by kernel_rfl
theorem pl_92_2 : plO Try.prog 92 2 = (some (2, 1)) := by kernel_rfl
theorem pl_92_3 : plO Try.prog 92 3 = (some (3, 1)) := by kernel_rfl
theorem pl_92_4 : plO Try.prog 92 4 = (some (4, 1)) := by kernel_rfl
theorem pl_92_5 : plO Try.prog 92 5 = (some (5, 1)) := by kernel_rfl
theorem pl_92_6 : plO Try.prog 92 6 = (some (6, 1)) := by kernel_rfl
theorem pl_92_7 : plO Try.prog 92 7 = (some (7, 1)) := by kernel_rfl
theorem pl_92_8 : plO Try.prog 92 8 = (some (8, 1)) := by kernel_rfl
theorem pl_92_9 : plO Try.prog 92 9 = (some (9, 1)) := by kernel_rfl
theorem pl_92_10 : plO Try.prog 92 10 = (some (10, 1)) := by kernel_rfl
theorem pl_92_11 : plO Try.prog 92 11 = (some (11, 1)) := by kernel_rfl
theorem pl_92_12 : plO Try.prog 92 12 = (some (12, 1)) := by kernel_rfl
theorem pl_92_13 : plO Try.prog 92 13 = (some (13, 1)) := by kernel_rfl
theorem pl_92_14 : plO Try.prog 92 14 = (some (14, 1)) := by kernel_rfl
theorem pl_92_15 : plO Try.prog 92 15 = (some (15, 1)) := by kernel_rfl
theorem pl_92_16 : plO Try.prog 92 16 = (some (16, 1)) := by kernel_rfl
theorem pl_92_17 : plO Try.prog 92 17 = (some (17, 1)) := by kernel_rfl
theorem pl_92_18 : plO Try.prog 92 18 = (some (18, 1)) := by kernel_rfl
theorem pl_92_19 : plO Try.prog 92 19 = (some (19, 1)) := by kernel_rfl
theorem pl_92_20 : plO Try.prog 92 20 = (some (20, 1)) := by kernel_rfl
theorem pl_92_21 : plO Try.prog 92 21 = (some (21, 1)) := by kernel_rfl
theorem pl_92_22 : plO Try.prog 92 22 = (some (22, 1)) := by kernel_rfl
theorem pl_92_23 : plO Try.prog 92 23 = (some (23, 1)) := by kernel_rfl
theorem pl_92_24 : plO Try.prog 92 24 = (some (24, 1)) := by kernel_rfl
theorem pl_92_25 : plO Try.prog 92 25 = (some (25, 1)) := by kernel_rfl
theorem pl_92_26 : plO Try.prog 92 26 = (some (26, 1)) := by kernel_rfl
theorem pl_92_27 : plO Try.prog 92 27 = (some (27, 1)) := by kernel_rfl
theorem pl_92_28 : plO Try.prog 92 28 = (some (28, 1)) := by kernel_rfl
theorem pl_92_29 : plO Try.prog 92 29 = (some (29, 1)) := by kernel_rfl
theorem pl_92_30 : plO Try.prog 92 30 = (some (30, 1)) := by kernel_rfl
theorem pl_92_31 : plO Try.prog 92 31 = (some (31, 1)) := by kernel_rfl
theorem pl_92_32 : plO Try.prog 92 32 = (some (32, 1)) := by kernel_rfl
theorem pl_92_33 : plO Try.prog 92 33 = (some (33, 1)) := by kernel_rfl
theorem pl_92_34 : plO Try.prog 92 34 = (some (34, 1)) := by kernel_rfl
theorem pl_92_35 : plO Try.prog 92 35 = (some (35, 1)) := by kernel_rfl
theorem pl_92_36 : plO Try.prog 92 36 = (some (36, 1)) := by kernel_rfl
theorem pl_92_37 : plO Try.prog 92 37 = (some (37, 1)) := by kernel_rfl
theorem pl_92_38 : plO Try.prog 92 38 = (some (38, 1)) := by kernel_rfl
theorem pl_92_39 : plO Try.prog 92 39 = (some (39, 1)) := by kernel_rfl
theorem sz_93 : szO Try.prog 93 = (some 4) := by kernel_rfl
theorem ag_93 : agO Try.prog 93 = (some true) := by kernel_rfl
theorem eo_93 : elO Try.prog 93 = (some ((some 4), (5, 1))) := by kernel_rfl
theorem zc_93 : zcO Try.prog 93 = (some [(.val (.int .u8 0)), (.val (.int .u8 0)), (.val (.int .u8 0)), (.val (.int .u8 0))]) := by kernel_rfl
theorem zv_93 : zvO Try.prog 93 = (some (.agg [(.d (.val (.int .u8 0))), (.d (.val (.int .u8 0))), (.d (.val (.int .u8 0))), (.d (.val (.int .u8 0)))])) := by kernel_rfl
theorem ea_93 : elA Try.prog 93 = (some (4, 1)) := by kernel_rfl
theorem eg_93 : elG Try.prog 93 = (some (4, (1, false))) := by kernel_rfl
theorem za_93 : zaO Try.prog 93 = (some [(.val (.int .u8 0)), (.val (.int .u8 0)), (.val (.int .u8 0)), (.val (.int .u8 0))]) := by kernel_rfl
theorem pa_93 : plAll Try.prog 93 = true := by kernel_rfl
theorem pl_93_0 : plO Try.prog 93 0 = (some (0, 1)) := by kernel_rfl
theorem pl_93_1 : plO Try.prog 93 1 = (some (1, 1)) := by kernel_rfl
theorem pl_93_2 : plO Try.prog 93 2 = (some (2, 1)) := by kernel_rfl
theorem pl_93_3 : plO Try.prog 93 3 = (some (3, 1)) := by kernel_rfl
theorem pl_93_4 : plO Try.prog 93 4 = (some (4, 1)) := by kernel_rfl
theorem pl_93_5 : plO Try.prog 93 5 = (some (5, 1)) := by kernel_rfl
theorem pl_93_6 : plO Try.prog 93 6 = (some (6, 1)) := by kernel_rfl
theorem pl_93_7 : plO Try.prog 93 7 = (some (7, 1)) := by kernel_rfl
theorem pl_93_8 : plO Try.prog 93 8 = (some (8, 1)) := by kernel_rfl
theorem pl_93_9 : plO Try.prog 93 9 = (some (9, 1)) := by kernel_rfl
theorem pl_93_10 : plO Try.prog 93 10 = (some (10, 1)) := by kernel_rfl
theorem pl_93_11 : plO Try.prog 93 11 = (some (11, 1)) := by kernel_rfl
theorem pl_93_12 : plO Try.prog 93 12 = (some (12, 1)) := by kernel_rfl
theorem pl_93_13 : plO Try.prog 93 13 = (some (13, 1)) := by kernel_rfl
theorem pl_93_14 : plO Try.prog 93 14 = (some (14, 1)) := by kernel_rfl
theorem pl_93_15 : plO Try.prog 93 15 = (some (15, 1)) := by kernel_rfl
theorem pl_93_16 : plO Try.prog 93 16 = (some (16, 1)) := by kernel_rfl
theorem pl_93_17 : plO Try.prog 93 17 = (some (17, 1)) := by kernel_rfl
theorem pl_93_18 : plO Try.prog 93 18 = (some (18, 1)) := by kernel_rfl
theorem pl_93_19 : plO Try.prog 93 19 = (some (19, 1)) := by kernel_rfl
theorem pl_93_20 : plO Try.prog 93 20 = (some (20, 1)) := by kernel_rfl
theorem pl_93_21 : plO Try.prog 93 21 = (some (21, 1)) := by kernel_rfl
theorem pl_93_22 : plO Try.prog 93 22 = (some (22, 1)) := by kernel_rfl
theorem pl_93_23 : plO Try.prog 93 23 = (some (23, 1)) := by kernel_rfl
theorem pl_93_24 : plO Try.prog 93 24 = (some (24, 1)) := by kernel_rfl
theorem pl_93_25 : plO Try.prog 93 25 = (some (25, 1)) := by kernel_rfl
theorem pl_93_26 : plO Try.prog 93 26 = (some (26, 1)) := by kernel_rfl
theorem pl_93_27 : plO Try.prog 93 27 = (some (27, 1)) := by kernel_rfl
theorem pl_93_28 : plO Try.prog 93 28 = (some (28, 1)) := by kernel_rfl
theorem pl_93_29 : plO Try.prog 93 29 = (some (29, 1)) := by kernel_rfl
theorem pl_93_30 : plO Try.prog 93 30 = (some (30, 1)) := by kernel_rfl
theorem pl_93_31 : plO Try.prog 93 31 = (some (31, 1)) := by kernel_rfl
theorem pl_93_32 : plO Try.prog 93 32 = (some (32, 1)) := by kernel_rfl
theorem pl_93_33 : plO Try.prog 93 33 = (some (33, 1)) := by kernel_rfl
theorem pl_93_34 : plO Try.prog 93 34 = (some (34, 1)) := by kernel_rfl
theorem pl_93_35 : plO Try.prog 93 35 = (some (35, 1)) := by kernel_rfl
theorem pl_93_36 : plO Try.prog 93 36 = (some (36, 1)) := by kernel_rfl
theorem pl_93_37 : plO Try.prog 93 37 = (some (37, 1)) := by kernel_rfl
theorem pl_93_38 : plO Try.prog 93 38 = (some (38, 1)) := by kernel_rfl
theorem pl_93_39 : plO Try.prog 93 39 = (some (39, 1)) := by kernel_rfl
theorem sz_94 : szO Try.prog 94 = (some 1) := by kernel_rfl
theorem ag_94 : agO Try.prog 94 = (some false) := by kernel_rfl
theorem zc_94 : zcO Try.prog 94 = (some [(.val .nilFunc)]) := by kernel_rfl
theorem zv_94 : zvO Try.prog 94 = (some (.d (.val .nilFunc))) := by kernel_rfl
theorem za_94 : zaO Try.prog 94 = (some [(.val .nilFunc)]) := by kernel_rfl
theorem sz_96 : szO Try.prog 96 = (some 2) := by kernel_rfl
theorem ag_96 : agO Try.prog 96 = (some true) := by kernel_rfl
theorem zc_96 : zcO Try.prog 96 = (some [(.val (.int .i64 0)), (.val .nilFunc)]) := by kernel_rfl
theorem zv_96 : zvO Try.prog 96 = (some (.agg [(.d (.val (.int .i64 0))), (.d (.val .nilFunc))])) := by kernel_rfl
theorem za_96 : zaO Try.prog 96 = (some [(.val (.int .i64 0)), (.val .nilFunc)]) := by kernel_rfl
theorem pa_96 : plAll Try.prog 96 = true := by kernel_rfl
theorem fo_96_0 : foO Try.prog 96 0 = (some 0) := by kernel_rfl
theorem ft_96_0 : ftO Try.prog 96 0 = (some (0, (1, false))) := by kernel_rfl
theorem pl_96_0 : plO Try.prog 96 0 = (some (0, 1)) := by kernel_rfl
theorem fo_96_1 : foO Try.prog 96 1 = (some 1) := by kernel_rfl
theorem ft_96_1 : ftO Try.prog 96 1 = (some (1, (1, false))) := by kernel_rfl
theorem pl_96_1 : plO Try.prog 96 1 = (some (1, 1)) := by kernel_rfl
theorem sz_97 : szO Try.prog 97 = (some 12) := by kernel_rfl
theorem ag_97 : agO Try.prog 97 = (some true) := by kernel_rfl
theorem eo_97 : elO Try.prog 97 = (some ((some 6), (96, 2))) := by kernel_rfl
theorem zc_97 : zcO Try.prog 97 = (some [(.val (.int .i64 0)), (.val .nilFunc), (.val (.int .i64 0)), (.val .nilFunc), (.val (.int .i64 0)), (.val .nilFunc), (.val (.int .i64 0)), (.val .nilFunc), (.val (.int .i64 0)), (.val .nilFunc), (.val (.int .i64 0)), (.val .nilFunc)]) := by kernel_rfl
theorem zv_97 : zvO Try.prog 97 = (some (.agg [(.d (.val (.int .i64 0))), (.d (.val .nilFunc)), (.d (.val (.int .i64 0))), (.d (.val .nilFunc)), (.d (.val (.int .i64 0))), (.d (.val .nilFunc)), (.d (.val (.int .i64 0))), (.d (.val .nilFunc)), (.d (.val (.int .i64 0))), (.d (.val .nilFunc)), (.d (.val (.int .i64 0))), (.d (.val .nilFunc))])) := by kernel_rfl
theorem ea_97 : elA Try.prog 97 = (some (6, 2)) := by kernel_rfl
theorem eg_97 : elG Try.prog 97 = (some (6, (2, true))) := by kernel_rfl
theorem za_97 : zaO Try.prog 97 = (some [(.val (.int .i64 0)), (.val .nilFunc), (.val (.int .i64 0)), (.val .nilFunc), (.val (.int .i64 0)), (.val .nilFunc), (.val (.int .i64 0)), (.val .nilFunc), (.val (.int .i64 0)), (.val .nilFunc), (.val (.int .i64 0)), (.val .nilFunc)]) := by kernel_rfl
theorem pa_97 : plAll Try.prog 97 = true := by kernel_rfl
theorem pl_97_0 : plO Try.prog 97 0 = (some (0, 2)) := by kernel_rfl
theorem pl_97_1 : plO Try.prog 97 1 = (some (2, 2)) := by kernel_rfl
theorem pl_97_2 : plO Try.prog 97 2 = (some (4, 2)) := by kernel_rfl
theorem pl_97_3 : plO Try.prog 97 3 = (some (6, 2)) := by kernel_rfl
theorem pl_97_4 : plO Try.prog 97 4 = (some (8, 2)) := by kernel_rfl
theorem pl_97_5 : plO Try.prog 97 5 = (some (10, 2)) := by kernel_rfl
theorem pl_97_6 : plO Try.prog 97 6 = (some (12, 2)) := by kernel_rfl
theorem pl_97_7 : plO Try.prog 97 7 = (some (14, 2)) := by kernel_rfl
theorem pl_97_8 : plO Try.prog 97 8 = (some (16, 2)) := by kernel_rfl
theorem pl_97_9 : plO Try.prog 97 9 = (some (18, 2)) := by kernel_rfl
theorem pl_97_10 : plO Try.prog 97 10 = (some (20, 2)) := by kernel_rfl
theorem pl_97_11 : plO Try.prog 97 11 = (some (22, 2)) := by kernel_rfl
theorem pl_97_12 : plO Try.prog 97 12 = (some (24, 2)) := by kernel_rfl
theorem pl_97_13 : plO Try.prog 97 13 = (some (26, 2)) := by kernel_rfl
theorem pl_97_14 : plO Try.prog 97 14 = (some (28, 2)) := by kernel_rfl
theorem pl_97_15 : plO Try.prog 97 15 = (some (30, 2)) := by kernel_rfl
theorem pl_97_16 : plO Try.prog 97 16 = (some (32, 2)) := by kernel_rfl
theorem pl_97_17 : plO Try.prog 97 17 = (some (34, 2)) := by kernel_rfl
theorem pl_97_18 : plO Try.prog 97 18 = (some (36, 2)) := by kernel_rfl
theorem pl_97_19 : plO Try.prog 97 19 = (some (38, 2)) := by kernel_rfl
theorem pl_97_20 : plO Try.prog 97 20 = (some (40, 2)) := by kernel_rfl
theorem pl_97_21 : plO Try.prog 97 21 = (some (42, 2)) := by kernel_rfl
theorem pl_97_22 : plO Try.prog 97 22 = (some (44, 2)) := by kernel_rfl
theorem pl_97_23 : plO Try.prog 97 23 = (some (46, 2)) := by kernel_rfl
theorem pl_97_24 : plO Try.prog 97 24 = (some (48, 2)) := by kernel_rfl
theorem pl_97_25 : plO Try.prog 97 25 = (some (50, 2)) := by kernel_rfl
theorem pl_97_26 : plO Try.prog 97 26 = (some (52, 2)) := by kernel_rfl
theorem pl_97_27 : plO Try.prog 97 27 = (some (54, 2)) := by kernel_rfl
theorem pl_97_28 : plO Try.prog 97 28 = (some (56, 2)) := by kernel_rfl
theorem pl_97_29 : plO Try.prog 97 29 = (some (58, 2)) := by kernel_rfl
theorem pl_97_30 : plO Try.prog 97 30 = (some (60, 2)) := by kernel_rfl
theorem pl_97_31 : plO Try.prog 97 31 = (some (62, 2)) := by kernel_rfl
theorem pl_97_32 : plO Try.prog 97 32 = (some (64, 2)) := by kernel_rfl
theorem pl_97_33 : plO Try.prog 97 33 = (some (66, 2)) := by kernel_rfl
theorem pl_97_34 : plO Try.prog 97 34 = (some (68, 2)) := by kernel_rfl
theorem pl_97_35 : plO Try.prog 97 35 = (some (70, 2)) := by kernel_rfl
theorem pl_97_36 : plO Try.prog 97 36 = (some (72, 2)) := by kernel_rfl
theorem pl_97_37 : plO Try.prog 97 37 = (some (74, 2)) := by kernel_rfl
theorem pl_97_38 : plO Try.prog 97 38 = (some (76, 2)) := by kernel_rfl
theorem pl_97_39 : plO Try.prog 97 39 = (some (78, 2)) := by kernel_rfl
theorem sz_102 : szO Try.prog 102 = (some 1) := by kernel_rfl
theorem ag_102 : agO Try.prog 102 = (some false) := by kernel_rfl
theorem el_102 : elS Try.prog 102 = (some 2) := by kernel_rfl
theorem eo_102 : elO Try.prog 102 = (some (none, (96, 2))) := by kernel_rfl
theorem zc_102 : zcO Try.prog 102 = (some [(.val (.slice none 0 0))]) := by kernel_rfl
theorem zv_102 : zvO Try.prog 102 = (some (.d (.val (.slice none 0 0)))) := by kernel_rfl
theorem mk_102 : mkO Try.prog 102 = (some (2, ([(.val (.int .i64 0)), (.val .nilFunc)], 16))) := by kernel_rfl
theorem za_102 : zaO Try.prog 102 = (some [(.val (.slice none 0 0))]) := by kernel_rfl
theorem sz_103 : szO Try.prog 103 = (some 1) := by kernel_rfl
theorem ag_103 : agO Try.prog 103 = (some false) := by kernel_rfl
theorem zc_103 : zcO Try.prog 103 = (some [(.val .nilFunc)]) := by kernel_rfl
theorem zv_103 : zvO Try.prog 103 = (some (.d (.val .nilFunc))) := by kernel_rfl
theorem za_103 : zaO Try.prog 103 = (some [(.val .nilFunc)]) := by kernel_rfl
theorem sz_106 : szO Try.prog 106 = (some 1) := by kernel_rfl
theorem ag_106 : agO Try.prog 106 = (some false) := by kernel_rfl
theorem zc_106 : zcO Try.prog 106 = (some [(.val (.map none))]) := by kernel_rfl
theorem mo_106 : mapO Try.prog 106 = (some (109, 4)) := by kernel_rfl
theorem zv_106 : zvO Try.prog 106 = (some (.d (.val (.map none)))) := by kernel_rfl
theorem za_106 : zaO Try.prog 106 = (some [(.val (.map none))]) := by kernel_rfl
theorem sz_107 : szO Try.prog 107 = (some 1) := by kernel_rfl
theorem ag_107 : agO Try.prog 107 = (some false) := by kernel_rfl
theorem zc_107 : zcO Try.prog 107 = (some [(.val (.map none))]) := by kernel_rfl
theorem mo_107 : mapO Try.prog 107 = (some (109, 3)) := by kernel_rfl
theorem zv_107 : zvO Try.prog 107 = (some (.d (.val (.map none)))) := by kernel_rfl
theorem za_107 : zaO Try.prog 107 = (some [(.val (.map none))]) := by kernel_rfl
theorem sz_109 : szO Try.prog 109 = (some 2) := by kernel_rfl
theorem ag_109 : agO Try.prog 109 = (some true) := by kernel_rfl
theorem zc_109 : zcO Try.prog 109 = (some [(.val (.int .i64 0)), (.val (.int .i64 0))]) := by kernel_rfl
theorem zv_109 : zvO Try.prog 109 = (some (.agg [(.d (.val (.int .i64 0))), (.d (.val (.int .i64 0)))])) := by kernel_rfl
theorem za_109 : zaO Try.prog 109 = (some [(.val (.int .i64 0)), (.val (.int .i64 0))]) := by kernel_rfl
theorem pa_109 : plAll Try.prog 109 = true := by kernel_rfl
theorem fo_109_0 : foO Try.prog 109 0 = (some 0) := by kernel_rfl
theorem ft_109_0 : ftO Try.prog 109 0 = (some (0, (1, false))) := by kernel_rfl
theorem pl_109_0 : plO Try.prog 109 0 = (some (0, 1)) := by kernel_rfl
theorem fo_109_1 : foO Try.prog 109 1 = (some 1) := by kernel_rfl
theorem ft_109_1 : ftO Try.prog 109 1 = (some (1, (1, false))) := by kernel_rfl
theorem pl_109_1 : plO Try.prog 109 1 = (some (1, 1)) := by kernel_rfl
theorem sz_116 : szO Try.prog 116 = (some 1) := by kernel_rfl
theorem ag_116 : agO Try.prog 116 = (some false) := by kernel_rfl
theorem zc_116 : zcO Try.prog 116 = (some [(.val (.int .u64 0))]) := by kernel_rfl
theorem zv_116 : zvO Try.prog 116 = (some (.d (.val (.int .u64 0)))) := by kernel_rfl
theorem za_116 : zaO Try.prog 116 = (some [(.val (.int .u64 0))]) := by kernel_rfl
theorem ik_116 : intKO Try.prog 116 = (some .u64) := by kernel_rfl
theorem sz_120 : szO Try.prog 120 = (some 2) := by kernel_rfl
theorem ag_120 : agO Try.prog 120 = (some true) := by kernel_rfl
theorem zc_120 : zcO Try.prog 120 = (some [(.val (.int .i64 0)), (.val (.slice none 0 0))]) := by kernel_rfl
theorem zv_120 : zvO Try.prog 120 = (some (.agg [(.d (.val (.int .i64 0))), (.d (.val (.slice none 0 0)))])) := by kernel_rfl
theorem za_120 : zaO Try.prog 120 = (some [(.val (.int .i64 0)), (.val (.slice none 0 0))]) := by kernel_rfl
theorem pa_120 : plAll Try.prog 120 = true := by kernel_rfl
theorem fo_120_0 : foO Try.prog 120 0 = (some 0) := by kernel_rfl
theorem ft_120_0 : ftO Try.prog 120 0 = (some (0, (1, false))) := by kernel_rfl
theorem pl_120_0 : plO Try.prog 120 0 = (some (0, 1)) := by kernel_rfl
theorem fo_120_1 : foO Try.prog 120 1 = (some 1) := by kernel_rfl
theorem ft_120_1 : ftO Try.prog 120 1 = (some (1, (1, false))) := by kernel_rfl
theorem pl_120_1 : plO Try.prog 120 1 = (some (1, 1)) := by kernel_rfl
theorem sz_122 : szO Try.prog 122 = (some 6) := by kernel_rfl
theorem ag_122 : agO Try.prog 122 = (some true) := by kernel_rfl
theorem zc_122 : zcO Try.prog 122 = (some [(.val (.int .i64 0)), (.val (.slice none 0 0)), (.val (.slice none 0 0)), (.val (.slice none 0 0)), (.val (.slice none 0 0)), (.val (.int .i64 0))]) := by kernel_rfl
theorem zv_122 : zvO Try.prog 122 = (some (.agg [(.d (.val (.int .i64 0))), (.d (.val (.slice none 0 0))), (.d (.val (.slice none 0 0))), (.d (.val (.slice none 0 0))), (.d (.val (.slice none 0 0))), (.d (.val (.int .i64 0)))])) := by kernel_rfl
theorem za_122 : zaO Try.prog 122 = (some [(.val (.int .i64 0)), (.val (.slice none 0 0)), (.val (.slice none 0 0)), (.val (.slice none 0 0)), (.val (.slice none 0 0)), (.val (.int .i64 0))]) := by kernel_rfl
theorem pa_122 : plAll Try.prog 122 = true := by kernel_rfl
theorem fo_122_0 : foO Try.prog 122 0 = (some 0) := by kernel_rfl
theorem ft_122_0 : ftO Try.prog 122 0 = (some (0, (2, true))) := by kernel_rfl
theorem pl_122_0 : plO Try.prog 122 0 = (some (0, 2)) := by kernel_rfl
theorem fo_122_1 : foO Try.prog 122 1 = (some 2) := by kernel_rfl
theorem ft_122_1 : ftO Try.prog 122 1 = (some (2, (1, false))) := by kernel_rfl
theorem pl_122_1 : plO Try.prog 122 1 = (some (2, 1)) := by kernel_rfl
theorem fo_122_2 : foO Try.prog 122 2 = (some 3) := by kernel_rfl
theorem ft_122_2 : ftO Try.prog 122 2 = (some (3, (1, false))) := by kernel_rfl
theorem pl_122_2 : plO Try.prog 122 2 = (some (3, 1)) := by kernel_rfl
theorem fo_122_3 : foO Try.prog 122 3 = (some 4) := by kernel_rfl
theorem ft_122_3 : ftO Try.prog 122 3 = (some (4, (1, false))) := by kernel_rfl
theorem pl_122_3 : plO Try.prog 122 3 = (some (4, 1)) := by kernel_rfl
theorem fo_122_4 : foO Try.prog 122 4 = (some 5) := by kernel_rfl
theorem ft_122_4 : ftO Try.prog 122 4 = (some (5, (1, false))) := by kernel_rfl
theorem pl_122_4 : plO Try.prog 122 4 = (some (5, 1)) := by kernel_rfl
theorem sz_125 : szO Try.prog 125 = (some 8) := by kernel_rfl
theorem ag_125 : agO Try.prog 125 = (some true) := by kernel_rfl
theorem zc_125 : zcO Try.prog 125 = (some [(.val (.string ⟨#[]⟩)), (.val (.string ⟨#[]⟩)), (.val (.slice none 0 0)), (.val (.slice none 0 0)), (.val (.slice none 0 0)), (.val (.slice none 0 0)), (.val (.slice none 0 0)), (.val (.slice none 0 0))]) := by kernel_rfl
theorem zv_125 : zvO Try.prog 125 = (some (.agg [(.d (.val (.string ⟨#[]⟩))), (.d (.val (.string ⟨#[]⟩))), (.d (.val (.slice none 0 0))), (.d (.val (.slice none 0 0))), (.d (.val (.slice none 0 0))), (.d (.val (.slice none 0 0))), (.d (.val (.slice none 0 0))), (.d (.val (.slice none 0 0)))])) := by kernel_rfl
theorem za_125 : zaO Try.prog 125 = (some [(.val (.string ⟨#[]⟩)), (.val (.string ⟨#[]⟩)), (.val (.slice none 0 0)), (.val (.slice none 0 0)), (.val (.slice none 0 0)), (.val (.slice none 0 0)), (.val (.slice none 0 0)), (.val (.slice none 0 0))]) := by kernel_rfl
theorem pa_125 : plAll Try.prog 125 = true := by kernel_rfl
theorem fo_125_0 : foO Try.prog 125 0 = (some 0) := by kernel_rfl
theorem ft_125_0 : ftO Try.prog 125 0 = (some (0, (6, true))) := by kernel_rfl
theorem pl_125_0 : plO Try.prog 125 0 = (some (0, 6)) := by kernel_rfl
theorem fo_125_1 : foO Try.prog 125 1 = (some 6) := by kernel_rfl
theorem ft_125_1 : ftO Try.prog 125 1 = (some (6, (1, false))) := by kernel_rfl
theorem pl_125_1 : plO Try.prog 125 1 = (some (6, 1)) := by kernel_rfl
theorem fo_125_2 : foO Try.prog 125 2 = (some 7) := by kernel_rfl
theorem ft_125_2 : ftO Try.prog 125 2 = (some (7, (1, false))) := by kernel_rfl
theorem pl_125_2 : plO Try.prog 125 2 = (some (7, 1)) := by kernel_rfl
theorem sz_127 : szO Try.prog 127 = (some 4) := by kernel_rfl
theorem ag_127 : agO Try.prog 127 = (some true) := by kernel_rfl
theorem zc_127 : zcO Try.prog 127 = (some [(.val (.int .i64 0)), (.val (.slice none 0 0)), (.val (.slice none 0 0)), (.val (.slice none 0 0))]) := by kernel_rfl
theorem zv_127 : zvO Try.prog 127 = (some (.agg [(.d (.val (.int .i64 0))), (.d (.val (.slice none 0 0))), (.d (.val (.slice none 0 0))), (.d (.val (.slice none 0 0)))])) := by kernel_rfl
theorem za_127 : zaO Try.prog 127 = (some [(.val (.int .i64 0)), (.val (.slice none 0 0)), (.val (.slice none 0 0)), (.val (.slice none 0 0))]) := by kernel_rfl
theorem pa_127 : plAll Try.prog 127 = true := by kernel_rfl
theorem fo_127_0 : foO Try.prog 127 0 = (some 0) := by kernel_rfl
theorem ft_127_0 : ftO Try.prog 127 0 = (some (0, (2, true))) := by kernel_rfl
theorem pl_127_0 : plO Try.prog 127 0 = (some (0, 2)) := by kernel_rfl
theorem fo_127_1 : foO Try.prog 127 1 = (some 2) := by kernel_rfl
theorem ft_127_1 : ftO Try.prog 127 1 = (some (2, (1, false))) := by kernel_rfl
theorem pl_127_1 : plO Try.prog 127 1 = (some (2, 1)) := by kernel_rfl
theorem fo_127_2 : foO Try.prog 127 2 = (some 3) := by kernel_rfl
theorem ft_127_2 : ftO Try.prog 127 2 = (some (3, (1, false))) := by kernel_rfl
theorem pl_127_2 : plO Try.prog 127 2 = (some (3, 1)) := by kernel_rfl
theorem sz_130 : szO Try.prog 130 = (some 3) := by kernel_rfl
theorem ag_130 : agO Try.prog 130 = (some true) := by kernel_rfl
theorem zc_130 : zcO Try.prog 130 = (some [(.val (.int .i64 0)), (.val (.slice none 0 0)), (.val (.int .i64 0))]) := by kernel_rfl
theorem zv_130 : zvO Try.prog 130 = (some (.agg [(.d (.val (.int .i64 0))), (.d (.val (.slice none 0 0))), (.d (.val (.int .i64 0)))])) := by kernel_rfl
theorem za_130 : zaO Try.prog 130 = (some [(.val (.int .i64 0)), (.val (.slice none 0 0)), (.val (.int .i64 0))]) := by kernel_rfl
theorem pa_130 : plAll Try.prog 130 = true := by kernel_rfl
theorem fo_130_0 : foO Try.prog 130 0 = (some 0) := by kernel_rfl
theorem ft_130_0 : ftO Try.prog 130 0 = (some (0, (2, true))) := by kernel_rfl
theorem pl_130_0 : plO Try.prog 130 0 = (some (0, 2)) := by kernel_rfl
theorem fo_130_1 : foO Try.prog 130 1 = (some 2) := by kernel_rfl
theorem ft_130_1 : ftO Try.prog 130 1 = (some (2, (1, false))) := by kernel_rfl
theorem pl_130_1 : plO Try.prog 130 1 = (some (2, 1)) := by kernel_rfl
theorem sz_134 : szO Try.prog 134 = (some 3) := by kernel_rfl
theorem ag_134 : agO Try.prog 134 = (some true) := by kernel_rfl
theorem zc_134 : zcO Try.prog 134 = (some [(.val (.int .i64 0)), (.val (.slice none 0 0)), (.val (.slice none 0 0))]) := by kernel_rfl
theorem zv_134 : zvO Try.prog 134 = (some (.agg [(.d (.val (.int .i64 0))), (.d (.val (.slice none 0 0))), (.d (.val (.slice none 0 0)))])) := by kernel_rfl
theorem za_134 : zaO Try.prog 134 = (some [(.val (.int .i64 0)), (.val (.slice none 0 0)), (.val (.slice none 0 0))]) := by kernel_rfl
theorem pa_134 : plAll Try.prog 134 = true := by kernel_rfl
theorem fo_134_0 : foO Try.prog 134 0 = (some 0) := by kernel_rfl
theorem ft_134_0 : ftO Try.prog 134 0 = (some (0, (2, true))) := by kernel_rfl
theorem pl_134_0 : plO Try.prog 134 0 = (some (0, 2)) := by kernel_rfl
theorem fo_134_1 : foO Try.prog 134 1 = (some 2) := by kernel_rfl
theorem ft_134_1 : ftO Try.prog 134 1 = (some (2, (1, false))) := by kernel_rfl
theorem pl_134_1 : plO Try.prog 134 1 = (some (2, 1)) := by kernel_rfl
theorem sz_137 : szO Try.prog 137 = (some 2) := by kernel_rfl
theorem ag_137 : agO Try.prog 137 = (some true) := by kernel_rfl
theorem zc_137 : zcO Try.prog 137 = (some [(.val (.int .i64 0)), (.val (.string ⟨#[]⟩))]) := by kernel_rfl
theorem zv_137 : zvO Try.prog 137 = (some (.agg [(.d (.val (.int .i64 0))), (.d (.val (.string ⟨#[]⟩)))])) := by kernel_rfl
theorem za_137 : zaO Try.prog 137 = (some [(.val (.int .i64 0)), (.val (.string ⟨#[]⟩))]) := by kernel_rfl
theorem pa_137 : plAll Try.prog 137 = true := by kernel_rfl
theorem fo_137_0 : foO Try.prog 137 0 = (some 0) := by kernel_rfl
theorem ft_137_0 : ftO Try.prog 137 0 = (some (0, (1, false))) := by kernel_rfl
theorem pl_137_0 : plO Try.prog 137 0 = (some (0, 1)) := by kernel_rfl
theorem fo_137_1 : foO Try.prog 137 1 = (some 1) := by kernel_rfl
theorem ft_137_1 : ftO Try.prog 137 1 = (some (1, (1, false))) := by kernel_rfl
theorem pl_137_1 : plO Try.prog 137 1 = (some (1, 1)) := by kernel_rfl
theorem sz_138 : szO Try.prog 138 = (some 1) := by kernel_rfl
theorem ag_138 : agO Try.prog 138 = (some false) := by kernel_rfl
theorem el_138 : elS Try.prog 138 = (some 7) := by kernel_rfl
theorem eo_138 : elO Try.prog 138 = (some (none, (140, 7))) := by kernel_rfl
theorem zc_138 : zcO Try.prog 138 = (some [(.val (.slice none 0 0))]) := by kernel_rfl
theorem zv_138 : zvO Try.prog 138 = (some (.d (.val (.slice none 0 0)))) := by kernel_rfl
theorem mk_138 : mkO Try.prog 138 = (some (7, ([(.val (.int .i64 0)), (.val (.string ⟨#[]⟩)), (.val (.int .i64 0)), (.val (.string ⟨#[]⟩)), (.val (.int .i64 0)), (.val (.string ⟨#[]⟩)), (.val (.slice none 0 0))], 96))) := by kernel_rfl
theorem za_138 : zaO Try.prog 138 = (some [(.val (.slice none 0 0))]) := by kernel_rfl
theorem sz_140 : szO Try.prog 140 = (some 7) := by kernel_rfl
theorem ag_140 : agO Try.prog 140 = (some true) := by kernel_rfl
theorem zc_140 : zcO Try.prog 140 = (some [(.val (.int .i64 0)), (.val (.string ⟨#[]⟩)), (.val (.int .i64 0)), (.val (.string ⟨#[]⟩)), (.val (.int .i64 0)), (.val (.string ⟨#[]⟩)), (.val (.slice none 0 0))]) := by kernel_rfl
theorem zv_140 : zvO Try.prog 140 = (some (.agg [(.d (.val (.int .i64 0))), (.d (.val (.string ⟨#[]⟩))), (.d (.val (.int .i64 0))), (.d (.val (.string ⟨#[]⟩))), (.d (.val (.int .i64 0))), (.d (.val (.string ⟨#[]⟩))), (.d (.val (.slice none 0 0)))])) := by kernel_rfl
theorem za_140 : zaO Try.prog 140 = (some [(.val (.int .i64 0)), (.val (.string ⟨#[]⟩)), (.val (.int .i64 0)), (.val (.string ⟨#[]⟩)), (.val (.int .i64 0)), (.val (.string ⟨#[]⟩)), (.val (.slice none 0 0))]) := by kernel_rfl
theorem pa_140 : plAll Try.prog 140 = true := by kernel_rfl
theorem fo_140_0 : foO Try.prog 140 0 = (some 0) := by kernel_rfl
theorem ft_140_0 : ftO Try.prog 140 0 = (some (0, (1, false))) := by kernel_rfl
theorem pl_140_0 : plO Try.prog 140 0 = (some (0, 1)) := by kernel_rfl
theorem fo_140_1 : foO Try.prog 140 1 = (some 1) := by kernel_rfl
theorem ft_140_1 : ftO Try.prog 140 1 = (some (1, (1, false))) := by kernel_rfl
theorem pl_140_1 : plO Try.prog 140 1 = (some (1, 1)) := by kernel_rfl
theorem fo_140_2 : foO Try.prog 140 2 = (some 2) := by kernel_rfl
theorem ft_140_2 : ftO Try.prog 140 2 = (some (2, (2, true))) := by kernel_rfl
theorem pl_140_2 : plO Try.prog 140 2 = (some (2, 2)) := by kernel_rfl
theorem fo_140_3 : foO Try.prog 140 3 = (some 4) := by kernel_rfl
theorem ft_140_3 : ftO Try.prog 140 3 = (some (4, (2, true))) := by kernel_rfl
theorem pl_140_3 : plO Try.prog 140 3 = (some (4, 2)) := by kernel_rfl
theorem fo_140_4 : foO Try.prog 140 4 = (some 6) := by kernel_rfl
theorem ft_140_4 : ftO Try.prog 140 4 = (some (6, (1, false))) := by kernel_rfl
theorem pl_140_4 : plO Try.prog 140 4 = (some (6, 1)) := by kernel_rfl
theorem sz_142 : szO Try.prog 142 = (some 16) := by kernel_rfl
theorem ag_142 : agO Try.prog 142 = (some true) := by kernel_rfl
theorem zc_142 : zcO Try.prog 142 = (some [(.val (.int .i64 0)), (.val (.int .i64 0)), (.val (.int .i64 0)), (.val (.string ⟨#[]⟩)), (.val (.int .i64 0)), (.val (.string ⟨#[]⟩)), (.val (.int .i64 0)), (.val (.string ⟨#[]⟩)), (.val (.slice none 0 0)), (.val (.int .i64 0)), (.val (.string ⟨#[]⟩)), (.val (.int .i64 0)), (.val (.string ⟨#[]⟩)), (.val (.int .i64 0)), (.val (.string ⟨#[]⟩)), (.val (.slice none 0 0))]) := by kernel_rfl
theorem zv_142 : zvO Try.prog 142 = (some (.agg [(.d (.val (.int .i64 0))), (.d (.val (.int .i64 0))), (.d (.val (.int .i64 0))), (.d (.val (.string ⟨#[]⟩))), (.d (.val (.int .i64 0))), (.d (.val (.string ⟨#[]⟩))), (.d (.val (.int .i64 0))), (.d (.val (.string ⟨#[]⟩))), (.d (.val (.slice none 0 0))), (.d (.val (.int .i64 0))), (.d (.val (.string ⟨#[]⟩))), (.d (.val (.int .i64 0))), (.d (.val (.string ⟨#[]⟩))), (.d (.val (.int .i64 0))), (.d (.val (.string ⟨#[]⟩))), (.d (.val (.slice none 0 0)))])) := by kernel_rfl
theorem za_142 : zaO Try.prog 142 = (some [(.val (.int .i64 0)), (.val (.int .i64 0)), (.val (.int .i64 0)), (.val (.string ⟨#[]⟩)), (.val (.int .i64 0)), (.val (.string ⟨#[]⟩)), (.val (.int .i64 0)), (.val (.string ⟨#[]⟩)), (.val (.slice none 0 0)), (.val (.int .i64 0)), (.val (.string ⟨#[]⟩)), (.val (.int .i64 0)), (.val (.string ⟨#[]⟩)), (.val (.int .i64 0)), (.val (.string ⟨#[]⟩)), (.val (.slice none 0 0))]) := by kernel_rfl
theorem pa_142 : plAll Try.prog 142 = true := by kernel_rfl
theorem fo_142_0 : foO Try.prog 142 0 = (some 0) := by kernel_rfl
theorem ft_142_0 : ftO Try.prog 142 0 = (some (0, (1, false))) := by kernel_rfl
theorem pl_142_0 : plO Try.prog 142 0 = (some (0, 1)) := by kernel_rfl
theorem fo_142_1 : foO Try.prog 142 1 = (some 1) := by kernel_rfl
theorem ft_142_1 : ftO Try.prog 142 1 = (some (1, (1, false))) := by kernel_rfl
theorem pl_142_1 : plO Try.prog 142 1 = (some (1, 1)) := by kernel_rfl
theorem fo_142_2 : foO Try.prog 142 2 = (some 2) := by kernel_rfl
theorem ft_142_2 : ftO Try.prog 142 2 = (some (2, (7, true))) := by kernel_rfl
theorem pl_142_2 : plO Try.prog 142 2 = (some (2, 7)) := by kernel_rfl
theorem fo_142_3 : foO Try.prog 142 3 = (some 9) := by kernel_rfl
theorem ft_142_3 : ftO Try.prog 142 3 = (some (9, (7, true))) := by kernel_rfl
theorem pl_142_3 : plO Try.prog 142 3 = (some (9, 7)) := by kernel_rfl
theorem sz_144 : szO Try.prog 144 = (some 3) := by kernel_rfl
theorem ag_144 : agO Try.prog 144 = (some true) := by kernel_rfl
theorem zc_144 : zcO Try.prog 144 = (some [(.val (.int .i64 0)), (.val (.string ⟨#[]⟩)), (.val (.int .i64 0))]) := by kernel_rfl
theorem zv_144 : zvO Try.prog 144 = (some (.agg [(.d (.val (.int .i64 0))), (.d (.val (.string ⟨#[]⟩))), (.d (.val (.int .i64 0)))])) := by kernel_rfl
theorem za_144 : zaO Try.prog 144 = (some [(.val (.int .i64 0)), (.val (.string ⟨#[]⟩)), (.val (.int .i64 0))]) := by kernel_rfl
theorem pa_144 : plAll Try.prog 144 = true := by kernel_rfl
theorem fo_144_0 : foO Try.prog 144 0 = (some 0) := by kernel_rfl
theorem ft_144_0 : ftO Try.prog 144 0 = (some (0, (1, false))) := by kernel_rfl
theorem pl_144_0 : plO Try.prog 144 0 = (some (0, 1)) := by kernel_rfl
theorem fo_144_1 : foO Try.prog 144 1 = (some 1) := by kernel_rfl
theorem ft_144_1 : ftO Try.prog 144 1 = (some (1, (1, false))) := by kernel_rfl
theorem pl_144_1 : plO Try.prog 144 1 = (some (1, 1)) := by kernel_rfl
theorem fo_144_2 : foO Try.prog 144 2 = (some 2) := by kernel_rfl
theorem ft_144_2 : ftO Try.prog 144 2 = (some (2, (1, false))) := by kernel_rfl
theorem pl_144_2 : plO Try.prog 144 2 = (some (2, 1)) := by kernel_rfl
theorem sz_146 : szO Try.prog 146 = (some 27) := by kernel_rfl
theorem ag_146 : agO Try.prog 146 = (some true) := by kernel_rfl
theorem zc_146 : zcO Try.prog 146 = (some [(.val (.string ⟨#[]⟩)), (.val (.int .i64 0)), (.val (.int .i64 0)), (.val (.int .i64 0)), (.val (.string ⟨#[]⟩)), (.val (.int .i64 0)), (.val (.string ⟨#[]⟩)), (.val (.int .i64 0)), (.val (.string ⟨#[]⟩)), (.val (.slice none 0 0)), (.val (.int .i64 0)), (.val (.string ⟨#[]⟩)), (.val (.int .i64 0)), (.val (.string ⟨#[]⟩)), (.val (.int .i64 0)), (.val (.string ⟨#[]⟩)), (.val (.slice none 0 0)), (.val (.int .i64 0)), (.val (.string ⟨#[]⟩)), (.val (.int .i64 0)), (.val (.string ⟨#[]⟩)), (.val (.int .i64 0)), (.val (.string ⟨#[]⟩)), (.val (.slice none 0 0)), (.val (.int .i64 0)), (.val (.string ⟨#[]⟩)), (.val (.int .i64 0))]) := by kernel_rfl
theorem zv_146 : zvO Try.prog 146 = (some (.agg [(.d (.val (.string ⟨#[]⟩))), (.d (.val (.int .i64 0))), (.d (.val (.int .i64 0))), (.d (.val (.int .i64 0))), (.d (.val (.string ⟨#[]⟩))), (.d (.val (.int .i64 0))), (.d (.val (.string ⟨#[]⟩))), (.d (.val (.int .i64 0))), (.d (.val (.string ⟨#[]⟩))), (.d (.val (.slice none 0 0))), (.d (.val (.int .i64 0))), (.d (.val (.string ⟨#[]⟩))), (.d (.val (.int .i64 0))), (.d (.val (.string ⟨#[]⟩))), (.d (.val (.int .i64 0))), (.d (.val (.string ⟨#[]⟩))), (.d (.val (.slice none 0 0))), (.d (.val (.int .i64 0))), (.d (.val (.string ⟨#[]⟩))), (.d (.val (.int .i64 0))), (.d (.val (.string ⟨#[]⟩))), (.d (.val (.int .i64 0))), (.d (.val (.string ⟨#[]⟩))), (.d (.val (.slice none 0 0))), (.d (.val (.int .i64 0))), (.d (.val (.string ⟨#[]⟩))), (.d (.val (.int .i64 0)))])) := by kernel_rfl
theorem za_146 : zaO Try.prog 146 = (some [(.val (.string ⟨#[]⟩)), (.val (.int .i64 0)), (.val (.int .i64 0)), (.val (.int .i64 0)), (.val (.string ⟨#[]⟩)), (.val (.int .i64 0)), (.val (.string ⟨#[]⟩)), (.val (.int .i64 0)), (.val (.string ⟨#[]⟩)), (.val (.slice none 0 0)), (.val (.int .i64 0)), (.val (.string ⟨#[]⟩)), (.val (.int .i64 0)), (.val (.string ⟨#[]⟩)), (.val (.int .i64 0)), (.val (.string ⟨#[]⟩)), (.val (.slice none 0 0)), (.val (.int .i64 0)), (.val (.string ⟨#[]⟩)), (.val (.int .i64 0)), (.val (.string ⟨#[]⟩)), (.val (.int .i64 0)), (.val (.string ⟨#[]⟩)), (.val (.slice none 0 0)), (.val (.int .i64 0)), (.val (.string ⟨#[]⟩)), (.val (.int .i64 0))]) := by kernel_rfl
theorem pa_146 : plAll Try.prog 146 = true := by kernel_rfl
theorem fo_146_0 : foO Try.prog 146 0 = (some 0) := by kernel_rfl
theorem ft_146_0 : ftO Try.prog 146 0 = (some (0, (1, false))) := by kernel_rfl
theorem pl_146_0 : plO Try.prog 146 0 = (some (0, 1)) := by kernel_rfl
theorem fo_146_1 : foO Try.prog 146 1 = (some 1) := by kernel_rfl
theorem ft_146_1 : ftO Try.prog 146 1 = (some (1, (1, false))) := by kernel_rfl
theorem pl_146_1 : plO Try.prog 146 1 = (some (1, 1)) := by kernel_rfl
theorem fo_146_2 : foO Try.prog 146 2 = (some 2) := by kernel_rfl
theorem ft_146_2 : ftO Try.prog 146 2 = (some (2, (1, false))) := by kernel_rfl
theorem pl_146_2 : plO Try.prog 146 2 = (some (2, 1)) := by kernel_rfl
theorem fo_146_3 : foO Try.prog 146 3 = (some 3) := by kernel_rfl
theorem ft_146_3 : ftO Try.prog 146 3 = (some (3, (7, true))) := by kernel_rfl
theorem pl_146_3 : plO Try.prog 146 3 = (some (3, 7)) := by kernel_rfl
theorem fo_146_4 : foO Try.prog 146 4 = (some 10) := by kernel_rfl
theorem ft_146_4 : ftO Try.prog 146 4 = (some (10, (7, true))) := by kernel_rfl
theorem pl_146_4 : plO Try.prog 146 4 = (some (10, 7)) := by kernel_rfl
theorem fo_146_5 : foO Try.prog 146 5 = (some 17) := by kernel_rfl
theorem ft_146_5 : ftO Try.prog 146 5 = (some (17, (7, true))) := by kernel_rfl
theorem pl_146_5 : plO Try.prog 146 5 = (some (17, 7)) := by kernel_rfl
theorem fo_146_6 : foO Try.prog 146 6 = (some 24) := by kernel_rfl
theorem ft_146_6 : ftO Try.prog 146 6 = (some (24, (3, true))) := by kernel_rfl
theorem pl_146_6 : plO Try.prog 146 6 = (some (24, 3)) := by kernel_rfl
theorem sz_150 : szO Try.prog 150 = (some 4) := by kernel_rfl
theorem ag_150 : agO Try.prog 150 = (some true) := by kernel_rfl
theorem zc_150 : zcO Try.prog 150 = (some [(.val (.slice none 0 0)), (.val (.slice none 0 0)), (.val (.slice none 0 0)), (.val (.bool false))]) := by kernel_rfl
theorem zv_150 : zvO Try.prog 150 = (some (.agg [(.d (.val (.slice none 0 0))), (.d (.val (.slice none 0 0))), (.d (.val (.slice none 0 0))), (.d (.val (.bool false)))])) := by kernel_rfl
theorem za_150 : zaO Try.prog 150 = (some [(.val (.slice none 0 0)), (.val (.slice none 0 0)), (.val (.slice none 0 0)), (.val (.bool false))]) := by kernel_rfl
theorem pa_150 : plAll Try.prog 150 = true := by kernel_rfl
theorem fo_150_0 : foO Try.prog 150 0 = (some 0) := by kernel_rfl
theorem ft_150_0 : ftO Try.prog 150 0 = (some (0, (1, false))) := by kernel_rfl
theorem pl_150_0 : plO Try.prog 150 0 = (some (0, 1)) := by kernel_rfl
theorem fo_150_1 : foO Try.prog 150 1 = (some 1) := by kernel_rfl
theorem ft_150_1 : ftO Try.prog 150 1 = (some (1, (1, false))) := by kernel_rfl
theorem pl_150_1 : plO Try.prog 150 1 = (some (1, 1)) := by kernel_rfl
theorem fo_150_2 : foO Try.prog 150 2 = (some 2) := by kernel_rfl
theorem ft_150_2 : ftO Try.prog 150 2 = (some (2, (1, false))) := by kernel_rfl
theorem pl_150_2 : plO Try.prog 150 2 = (some (2, 1)) := by kernel_rfl
theorem fo_150_3 : foO Try.prog 150 3 = (some 3) := by kernel_rfl
theorem ft_150_3 : ftO Try.prog 150 3 = (some (3, (1, false))) := by kernel_rfl
theorem pl_150_3 : plO Try.prog 150 3 = (some (3, 1)) := by kernel_rfl
theorem sz_152 : szO Try.prog 152 = (some 2) := by kernel_rfl
theorem ag_152 : agO Try.prog 152 = (some true) := by kernel_rfl
theorem zc_152 : zcO Try.prog 152 = (some [(.val (.slice none 0 0)), (.val (.int .i64 0))]) := by kernel_rfl
theorem zv_152 : zvO Try.prog 152 = (some (.agg [(.d (.val (.slice none 0 0))), (.d (.val (.int .i64 0)))])) := by kernel_rfl
theorem za_152 : zaO Try.prog 152 = (some [(.val (.slice none 0 0)), (.val (.int .i64 0))]) := by kernel_rfl
theorem pa_152 : plAll Try.prog 152 = true := by kernel_rfl
theorem fo_152_0 : foO Try.prog 152 0 = (some 0) := by kernel_rfl
theorem ft_152_0 : ftO Try.prog 152 0 = (some (0, (1, false))) := by kernel_rfl
theorem pl_152_0 : plO Try.prog 152 0 = (some (0, 1)) := by kernel_rfl
theorem fo_152_1 : foO Try.prog 152 1 = (some 1) := by kernel_rfl
theorem ft_152_1 : ftO Try.prog 152 1 = (some (1, (1, false))) := by kernel_rfl
theorem pl_152_1 : plO Try.prog 152 1 = (some (1, 1)) := by kernel_rfl
theorem sz_156 : szO Try.prog 156 = (some 9) := by kernel_rfl
theorem ag_156 : agO Try.prog 156 = (some true) := by kernel_rfl
theorem zc_156 : zcO Try.prog 156 = (some [(.val (.int .i64 0)), (.val (.string ⟨#[]⟩)), (.val (.int .i64 0)), (.val (.string ⟨#[]⟩)), (.val (.int .i64 0)), (.val (.string ⟨#[]⟩)), (.val (.slice none 0 0)), (.val (.slice none 0 0)), (.val (.int .i64 0))]) := by kernel_rfl
theorem zv_156 : zvO Try.prog 156 = (some (.agg [(.d (.val (.int .i64 0))), (.d (.val (.string ⟨#[]⟩))), (.d (.val (.int .i64 0))), (.d (.val (.string ⟨#[]⟩))), (.d (.val (.int .i64 0))), (.d (.val (.string ⟨#[]⟩))), (.d (.val (.slice none 0 0))), (.d (.val (.slice none 0 0))), (.d (.val (.int .i64 0)))])) := by kernel_rfl
theorem za_156 : zaO Try.prog 156 = (some [(.val (.int .i64 0)), (.val (.string ⟨#[]⟩)), (.val (.int .i64 0)), (.val (.string ⟨#[]⟩)), (.val (.int .i64 0)), (.val (.string ⟨#[]⟩)), (.val (.slice none 0 0)), (.val (.slice none 0 0)), (.val (.int .i64 0))]) := by kernel_rfl
theorem pa_156 : plAll Try.prog 156 = true := by kernel_rfl
theorem fo_156_0 : foO Try.prog 156 0 = (some 0) := by kernel_rfl
theorem ft_156_0 : ftO Try.prog 156 0 = (some (0, (7, true))) := by kernel_rfl
theorem pl_156_0 : plO Try.prog 156 0 = (some (0, 7)) := by kernel_rfl
theorem fo_156_1 : foO Try.prog 156 1 = (some 7) := by kernel_rfl
theorem ft_156_1 : ftO Try.prog 156 1 = (some (7, (2, true))) := by kernel_rfl
theorem pl_156_1 : plO Try.prog 156 1 = (some (7, 2)) := by kernel_rfl
theorem sz_159 : szO Try.prog 159 = (some 9) := by kernel_rfl
theorem ag_159 : agO Try.prog 159 = (some true) := by kernel_rfl
theorem zc_159 : zcO Try.prog 159 = (some [(.val (.int .i64 0)), (.val (.int .i64 0)), (.val (.int .i64 0)), (.val (.string ⟨#[]⟩)), (.val (.int .i64 0)), (.val (.string ⟨#[]⟩)), (.val (.int .i64 0)), (.val (.string ⟨#[]⟩)), (.val (.slice none 0 0))]) := by kernel_rfl
theorem zv_159 : zvO Try.prog 159 = (some (.agg [(.d (.val (.int .i64 0))), (.d (.val (.int .i64 0))), (.d (.val (.int .i64 0))), (.d (.val (.string ⟨#[]⟩))), (.d (.val (.int .i64 0))), (.d (.val (.string ⟨#[]⟩))), (.d (.val (.int .i64 0))), (.d (.val (.string ⟨#[]⟩))), (.d (.val (.slice none 0 0)))])) := by kernel_rfl
theorem za_159 : zaO Try.prog 159 = (some [(.val (.int .i64 0)), (.val (.int .i64 0)), (.val (.int .i64 0)), (.val (.string ⟨#[]⟩)), (.val (.int .i64 0)), (.val (.string ⟨#[]⟩)), (.val (.int .i64 0)), (.val (.string ⟨#[]⟩)), (.val (.slice none 0 0))]) := by kernel_rfl
theorem pa_159 : plAll Try.prog 159 = true := by kernel_rfl
theorem fo_159_0 : foO Try.prog 159 0 = (some 0) := by kernel_rfl
theorem ft_159_0 : ftO Try.prog 159 0 = (some (0, (1, false))) := by kernel_rfl
theorem pl_159_0 : plO Try.prog 159 0 = (some (0, 1)) := by kernel_rfl
theorem fo_159_1 : foO Try.prog 159 1 = (some 1) := by kernel_rfl
theorem ft_159_1 : ftO Try.prog 159 1 = (some (1, (1, false))) := by kernel_rfl
theorem pl_159_1 : plO Try.prog 159 1 = (some (1, 1)) := by kernel_rfl
theorem fo_159_2 : foO Try.prog 159 2 = (some 2) := by kernel_rfl
theorem ft_159_2 : ftO Try.prog 159 2 = (some (2, (7, true))) := by kernel_rfl
theorem pl_159_2 : plO Try.prog 159 2 = (some (2, 7)) := by kernel_rfl
theorem sz_162 : szO Try.prog 162 = (some 13) := by kernel_rfl
theorem ag_162 : agO Try.prog 162 = (some true) := by kernel_rfl
theorem zc_162 : zcO Try.prog 162 = (some [(.val (.string ⟨#[]⟩)), (.val (.int .i64 0)), (.val (.int .i64 0)), (.val (.int .i64 0)), (.val (.string ⟨#[]⟩)), (.val (.int .i64 0)), (.val (.string ⟨#[]⟩)), (.val (.int .i64 0)), (.val (.string ⟨#[]⟩)), (.val (.slice none 0 0)), (.val (.int .i64 0)), (.val (.string ⟨#[]⟩)), (.val (.int .i64 0))]) := by kernel_rfl
theorem zv_162 : zvO Try.prog 162 = (some (.agg [(.d (.val (.string ⟨#[]⟩))), (.d (.val (.int .i64 0))), (.d (.val (.int .i64 0))), (.d (.val (.int .i64 0))), (.d (.val (.string ⟨#[]⟩))), (.d (.val (.int .i64 0))), (.d (.val (.string ⟨#[]⟩))), (.d (.val (.int .i64 0))), (.d (.val (.string ⟨#[]⟩))), (.d (.val (.slice none 0 0))), (.d (.val (.int .i64 0))), (.d (.val (.string ⟨#[]⟩))), (.d (.val (.int .i64 0)))])) := by kernel_rfl
theorem za_162 : zaO Try.prog 162 = (some [(.val (.string ⟨#[]⟩)), (.val (.int .i64 0)), (.val (.int .i64 0)), (.val (.int .i64 0)), (.val (.string ⟨#[]⟩)), (.val (.int .i64 0)), (.val (.string ⟨#[]⟩)), (.val (.int .i64 0)), (.val (.string ⟨#[]⟩)), (.val (.slice none 0 0)), (.val (.int .i64 0)), (.val (.string ⟨#[]⟩)), (.val (.int .i64 0))]) := by kernel_rfl
theorem pa_162 : plAll Try.prog 162 = true := by kernel_rfl
theorem fo_162_0 : foO Try.prog 162 0 = (some 0) := by kernel_rfl
theorem ft_162_0 : ftO Try.prog 162 0 = (some (0, (1, false))) := by kernel_rfl
theorem pl_162_0 : plO Try.prog 162 0 = (some (0, 1)) := by kernel_rfl
theorem fo_162_1 : foO Try.prog 162 1 = (some 1) := by kernel_rfl
theorem ft_162_1 : ftO Try.prog 162 1 = (some (1, (1, false))) := by kernel_rfl
theorem pl_162_1 : plO Try.prog 162 1 = (some (1, 1)) := by kernel_rfl
theorem fo_162_2 : foO Try.prog 162 2 = (some 2) := by kernel_rfl
theorem ft_162_2 : ftO Try.prog 162 2 = (some (2, (1, false))) := by kernel_rfl
theorem pl_162_2 : plO Try.prog 162 2 = (some (2, 1)) := by kernel_rfl
theorem fo_162_3 : foO Try.prog 162 3 = (some 3) := by kernel_rfl
theorem ft_162_3 : ftO Try.prog 162 3 = (some (3, (7, true))) := by kernel_rfl
theorem pl_162_3 : plO Try.prog 162 3 = (some (3, 7)) := by kernel_rfl
theorem fo_162_4 : foO Try.prog 162 4 = (some 10) := by kernel_rfl
theorem ft_162_4 : ftO Try.prog 162 4 = (some (10, (3, true))) := by kernel_rfl
theorem pl_162_4 : plO Try.prog 162 4 = (some (10, 3)) := by kernel_rfl
theorem sz_167 : szO Try.prog 167 = (some 3) := by kernel_rfl
theorem ag_167 : agO Try.prog 167 = (some true) := by kernel_rfl
theorem eo_167 : elO Try.prog 167 = (some ((some 3), (3, 1))) := by kernel_rfl
theorem zc_167 : zcO Try.prog 167 = (some [(.val (.int .i64 0)), (.val (.int .i64 0)), (.val (.int .i64 0))]) := by kernel_rfl
theorem zv_167 : zvO Try.prog 167 = (some (.agg [(.d (.val (.int .i64 0))), (.d (.val (.int .i64 0))), (.d (.val (.int .i64 0)))])) := by kernel_rfl
theorem ea_167 : elA Try.prog 167 = (some (3, 1)) := by kernel_rfl
theorem eg_167 : elG Try.prog 167 = (some (3, (1, false))) := by kernel_rfl
theorem za_167 : zaO Try.prog 167 = (some [(.val (.int .i64 0)), (.val (.int .i64 0)), (.val (.int .i64 0))]) := by kernel_rfl
theorem pa_167 : plAll Try.prog 167 = true := by kernel_rfl
theorem pl_167_0 : plO Try.prog 167 0 = (some (0, 1)) := by kernel_rfl
theorem pl_167_1 : plO Try.prog 167 1 = (some (1, 1)) := by kernel_rfl
theorem pl_167_2 : plO Try.prog 167 2 = (some (2, 1)) := by kernel_rfl
theorem pl_167_3 : plO Try.prog 167 3 = (some (3, 1)) := by kernel_rfl
theorem pl_167_4 : plO Try.prog 167 4 = (some (4, 1)) := by kernel_rfl
theorem pl_167_5 : plO Try.prog 167 5 = (some (5, 1)) := by kernel_rfl
theorem pl_167_6 : plO Try.prog 167 6 = (some (6, 1)) := by kernel_rfl
theorem pl_167_7 : plO Try.prog 167 7 = (some (7, 1)) := by kernel_rfl
theorem pl_167_8 : plO Try.prog 167 8 = (some (8, 1)) := by kernel_rfl
theorem pl_167_9 : plO Try.prog 167 9 = (some (9, 1)) := by kernel_rfl
theorem pl_167_10 : plO Try.prog 167 10 = (some (10, 1)) := by kernel_rfl
theorem pl_167_11 : plO Try.prog 167 11 = (some (11, 1)) := by kernel_rfl
theorem pl_167_12 : plO Try.prog 167 12 = (some (12, 1)) := by kernel_rfl
theorem pl_167_13 : plO Try.prog 167 13 = (some (13, 1)) := by kernel_rfl
theorem pl_167_14 : plO Try.prog 167 14 = (some (14, 1)) := by kernel_rfl
theorem pl_167_15 : plO Try.prog 167 15 = (some (15, 1)) := by kernel_rfl
theorem pl_167_16 : plO Try.prog 167 16 = (some (16, 1)) := by kernel_rfl
theorem pl_167_17 : plO Try.prog 167 17 = (some (17, 1)) := by kernel_rfl
theorem pl_167_18 : plO Try.prog 167 18 = (some (18, 1)) := by kernel_rfl
theorem pl_167_19 : plO Try.prog 167 19 = (some (19, 1)) := by kernel_rfl
theorem pl_167_20 : plO Try.prog 167 20 = (some (20, 1)) := by kernel_rfl
theorem pl_167_21 : plO Try.prog 167 21 = (some (21, 1)) := by kernel_rfl
theorem pl_167_22 : plO Try.prog 167 22 = (some (22, 1)) := by kernel_rfl
theorem pl_167_23 : plO Try.prog 167 23 = (some (23, 1)) := by kernel_rfl
theorem pl_167_24 : plO Try.prog 167 24 = (some (24, 1)) := by kernel_rfl
theorem pl_167_25 : plO Try.prog 167 25 = (some (25, 1)) := by kernel_rfl
theorem pl_167_26 : plO Try.prog 167 26 = (some (26, 1)) := by kernel_rfl
theorem pl_167_27 : plO Try.prog 167 27 = (some (27, 1)) := by kernel_rfl
theorem pl_167_28 : plO Try.prog 167 28 = (some (28, 1)) := by kernel_rfl
theorem pl_167_29 : plO Try.prog 167 29 = (some (29, 1)) := by kernel_rfl
theorem pl_167_30 : plO Try.prog 167 30 = (some (30, 1)) := by kernel_rfl
theorem pl_167_31 : plO Try.prog 167 31 = (some (31, 1)) := by kernel_rfl
theorem pl_167_32 : plO Try.prog 167 32 = (some (32, 1)) := by kernel_rfl
theorem pl_167_33 : plO Try.prog 167 33 = (some (33, 1)) := by kernel_rfl
theorem pl_167_34 : plO Try.prog 167 34 = (some (34, 1)) := by kernel_rfl
theorem pl_167_35 : plO Try.prog 167 35 = (some (35, 1)) := by kernel_rfl
theorem pl_167_36 : plO Try.prog 167 36 = (some (36, 1)) := by kernel_rfl
theorem pl_167_37 : plO Try.prog 167 37 = (some (37, 1)) := by kernel_rfl
theorem pl_167_38 : plO Try.prog 167 38 = (some (38, 1)) := by kernel_rfl
theorem pl_167_39 : plO Try.prog 167 39 = (some (39, 1)) := by kernel_rfl
theorem sz_182 : szO Try.prog 182 = (some 1) := by kernel_rfl
theorem ag_182 : agO Try.prog 182 = (some false) := by kernel_rfl
theorem el_182 : elS Try.prog 182 = (some 1) := by kernel_rfl
theorem eo_182 : elO Try.prog 182 = (some (none, (9, 1))) := by kernel_rfl
theorem zc_182 : zcO Try.prog 182 = (some [(.val (.slice none 0 0))]) := by kernel_rfl
theorem zv_182 : zvO Try.prog 182 = (some (.d (.val (.slice none 0 0)))) := by kernel_rfl
theorem mk_182 : mkO Try.prog 182 = (some (1, ([(.val (.string ⟨#[]⟩))], 16))) := by kernel_rfl
theorem za_182 : zaO Try.prog 182 = (some [(.val (.slice none 0 0))]) := by kernel_rfl
theorem laidOut : laidOutB Try.prog = true := by kernel_rfl
theorem key109 : Maps.Keyed Try.prog 109 := .of_law (deep_law_laid laidOut (m := 3) (by omega) (of_decide_eq_true (by kernel_rfl)) (by kernel_rfl) (by kernel_rfl))
def KT (k : TypeId) : Bool := k == 109
theorem KT_ok (k : TypeId) (h : KT k = true) : Maps.Keyed Try.prog k := by
  simp only [KT, Bool.or_eq_true, beq_iff_eq] at h
  subst h
  · exact key109
end Go.Proofs.Ytfpcailbobjfnaa
