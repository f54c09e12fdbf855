/- What is built is valid. -/
import Derived.Test.YtgfnpfchdlcoeaaEb
set_option linter.unusedVariables false
set_option linter.unusedSimpArgs false
namespace Go.Proofs.Ytgfnpfchdlcoeaa
open Go Go.RowKit
def fewB (x : RawN) : Bool := decide ((x.gates.length : Int) ≤ 20) && (decide ((x.ins.length : Int) ≤ 5) && decide ((x.out.length : Int) ≤ 9))
set_option maxRecDepth 100000 in
set_option linter.unusedVariables false in
set_option maxHeartbeats 4000000 in
theorem few_p (x : RawN) : PCalls Try.prog 11 [.agg (rawC x)] (.d (oD (fewB x))) := by
  refine pcalls_of0 (fn := Try.f11) (by kernel_rfl) Try.func11 rfl (Nat.le_of_ble_eq_true rfl) fun c hc hp => ?_
  refine awp_less (τ' := frL [(0, .d (.agg (rawC x)))]) (less_cons (less_nil _) (by first | rfl | (simp [Fr.put, frL, gcV, fzV, posN, iD, bD, uD, oD, intsD, boolsD, bytesD, intssD, bytessD, r5s_len, r4s_len]; done) | simp [Fr.put, frL, gcV, fzV, posN, iD, bD, uD, oD, intsD, boolsD, bytesD, intssD, bytessD, r5s_len, r4s_len, *])) ?_
  refine awp_seq_s hp KT_ok hc rfl fun K1 hK1 => ?_
  simp -dsimp -implicitDefEqProofs (disch := first | assumption | omega | (simp only [maxLen, List.length_replicate, eq_self, true_and, and_true, and_self, avs_len, List.length_map, List.length_append, List.length_cons, List.length_nil, List.length_set, List.length_range, List.length_take, List.length_drop, r5s_len, r4s_len] <;> omega) | decide | fail) only [sT_move, sE_move, sT_assign, sE_assign, sT_pick, sE_pick, sT_load, sE_load, sT_fa, sE_fa, sT_field, sE_field, sT_ia, sE_ia, sT_index, sE_index, sT_slice, sE_slice, sT_bin, sE_bin, sT_un, sE_un, sT_conv, sE_conv, sT_build, sE_build, sT_extract, sE_extract, sT_nilc, sE_nilc, sT_lookup, sE_lookup, sT_mf, sE_mf, sT_len, sE_len, sT_max, sE_max, sT_min, sE_min, sT_call0, sE_call0, sT_callt, sE_callt, sT_box, sE_box, sT_alloc, sE_alloc, sT_make, sE_make, sT_bs, sE_bs, sT_app, sE_app, sT_mm, sE_mm, sT_store, sE_store, sT_mu, sE_mu, sT_ins, sE_ins, sT_me, sE_me, sT_es, sE_es, sT_del, sE_del, sT_clr, sE_clr, deadH, sT_nil, sE_nil, sT_g, oK_some, gK_t, gK_f, Option.map_some, Option.map_none, Option.bind_some, loadF, fieldAddrF, partF, fieldF, partsOf, ixO, indexAddrF, indexF, sliceF, binF_v, convF, buildF, lenF, builtinF, layF, layEF, srcF, storeF, nilOk, u_not, v_add, v_sub, v_mul, v_quo, v_rem, v_eql, v_neq, v_lss, v_leq, v_gtr, v_geq, v_beql, v_bneq, v_shl, v_shr, v_and, v_or, v_xor, sb_none, sb_some, ↓reduceIte, if_true, if_false, Bool.false_eq_true, eq_self, ifp, ifn, guardA_some, guardV_t, guardV_f, guardV_u, frL_get, frL_put, frL_none, evalA_tmp, evalA_const, evalA_func, startF, List.map_cons, List.map_nil, List.length_cons, List.length_nil, List.getElem?_cons_zero, List.getElem?_cons_succ, List.cons_append, List.nil_append, List.append_nil, List.set_cons_zero, List.set_cons_succ, List.replicate_zero, List.replicate_succ, List.all_cons, List.all_nil, reps_def, fill_nil, fill_cons, as_int, as_bool, as_fs, as_fp, as_os, as_op, as_om, as_nil, as_agg, as_dagg, many_nil, many_cons, AV.one, D.one, Value.oneCell', Bool.and_self, Bool.and_true, Bool.true_and, and_true, true_and, and_self, Int.toNat_natCast, Nat.mul_one, Nat.zero_add, Nat.add_zero, Nat.reduceEqDiff, shB, appB, baseOk_old, baseOk_dd, killAll, appSh, map_d, avs_nil, avs_cons, avs_len, avs_get, avs_app, avs_app1, avs_set, avs_drop, takeD_avs, takeD_zero, takeD_cs, takeD_cd, takeD_all, List.drop_zero, get_map, w_i64, w_u64, w_u8, v_quo8, iD, bD, uD, oD, intsD, boolsD, bytesD, intssD, bytessD, Nat.reduceAdd, List.nil_append, deadH, List.length_map, layEF, frzF, datas, D.fix, Int.sub_zero, Int.toNat_zero, Int.reduceToNat, Nat.zero_mul, Nat.reduceMul, replicate_d, List.map_replicate, map_set_o, map_set_i, map_set_b, Bool.not_false, Bool.not_true, List.flatten_cons, List.flatten_nil, fresh_le, fresh_no, Nat.reduceBNe, Nat.reduceBEq, killAll_nil, killAll_cons, List.filterMap_nil, sE_gg, ly_move, ly_assign, ly_pick, ly_load, ly_fa, ly_field, ly_ia, ly_index, ly_slice, ly_bin, ly_un, ly_conv, ly_build, ly_extract, ly_mf, ly_len, ly_max, ly_min, ly_call0, ly_callt, ly_box, ly_alloc, ly_make, ly_bs, ly_app, rawC, sz_26, ag_26]
  refine hK1 _ _ ?_
  refine awp_seq_s hp KT_ok hc rfl fun K2 hK2 => ?_
  rcases (show ¬ (x.gates.length : Int) ≤ 20 ∨ ((x.gates.length : Int) ≤ 20 ∧ ¬ (x.ins.length : Int) ≤ 5) ∨ ((x.gates.length : Int) ≤ 20 ∧ (x.ins.length : Int) ≤ 5) by omega) with q | ⟨q, q'⟩ | ⟨q, q'⟩
  · have q1 := decide_eq_false q
    have q2 := q1
    simp -dsimp -implicitDefEqProofs (disch := first | assumption | omega | (simp only [maxLen, List.length_replicate, eq_self, true_and, and_true, and_self, avs_len, List.length_map, List.length_append, List.length_cons, List.length_nil, List.length_set, List.length_range, List.length_take, List.length_drop, r5s_len, r4s_len] <;> omega) | decide | fail) only [sT_move, sE_move, sT_assign, sE_assign, sT_pick, sE_pick, sT_load, sE_load, sT_fa, sE_fa, sT_field, sE_field, sT_ia, sE_ia, sT_index, sE_index, sT_slice, sE_slice, sT_bin, sE_bin, sT_un, sE_un, sT_conv, sE_conv, sT_build, sE_build, sT_extract, sE_extract, sT_nilc, sE_nilc, sT_lookup, sE_lookup, sT_mf, sE_mf, sT_len, sE_len, sT_max, sE_max, sT_min, sE_min, sT_call0, sE_call0, sT_callt, sE_callt, sT_box, sE_box, sT_alloc, sE_alloc, sT_make, sE_make, sT_bs, sE_bs, sT_app, sE_app, sT_mm, sE_mm, sT_store, sE_store, sT_mu, sE_mu, sT_ins, sE_ins, sT_me, sE_me, sT_es, sE_es, sT_del, sE_del, sT_clr, sE_clr, deadH, sT_nil, sE_nil, sT_g, oK_some, gK_t, gK_f, Option.map_some, Option.map_none, Option.bind_some, loadF, fieldAddrF, partF, fieldF, partsOf, ixO, indexAddrF, indexF, sliceF, binF_v, convF, buildF, lenF, builtinF, layF, layEF, srcF, storeF, nilOk, u_not, v_add, v_sub, v_mul, v_quo, v_rem, v_eql, v_neq, v_lss, v_leq, v_gtr, v_geq, v_beql, v_bneq, v_shl, v_shr, v_and, v_or, v_xor, sb_none, sb_some, ↓reduceIte, if_true, if_false, Bool.false_eq_true, eq_self, ifp, ifn, guardA_some, guardV_t, guardV_f, guardV_u, frL_get, frL_put, frL_none, evalA_tmp, evalA_const, evalA_func, startF, List.map_cons, List.map_nil, List.length_cons, List.length_nil, List.getElem?_cons_zero, List.getElem?_cons_succ, List.cons_append, List.nil_append, List.append_nil, List.set_cons_zero, List.set_cons_succ, List.replicate_zero, List.replicate_succ, List.all_cons, List.all_nil, reps_def, fill_nil, fill_cons, as_int, as_bool, as_fs, as_fp, as_os, as_op, as_om, as_nil, as_agg, as_dagg, many_nil, many_cons, AV.one, D.one, Value.oneCell', Bool.and_self, Bool.and_true, Bool.true_and, and_true, true_and, and_self, Int.toNat_natCast, Nat.mul_one, Nat.zero_add, Nat.add_zero, Nat.reduceEqDiff, shB, appB, baseOk_old, baseOk_dd, killAll, appSh, map_d, avs_nil, avs_cons, avs_len, avs_get, avs_app, avs_app1, avs_set, avs_drop, takeD_avs, takeD_zero, takeD_cs, takeD_cd, takeD_all, List.drop_zero, get_map, w_i64, w_u64, w_u8, v_quo8, iD, bD, uD, oD, intsD, boolsD, bytesD, intssD, bytessD, Nat.reduceAdd, List.nil_append, deadH, List.length_map, layEF, frzF, datas, D.fix, Int.sub_zero, Int.toNat_zero, Int.reduceToNat, Nat.zero_mul, Nat.reduceMul, replicate_d, List.map_replicate, map_set_o, map_set_i, map_set_b, Bool.not_false, Bool.not_true, List.flatten_cons, List.flatten_nil, fresh_le, fresh_no, Nat.reduceBNe, Nat.reduceBEq, killAll_nil, killAll_cons, List.filterMap_nil, sE_gg, ly_move, ly_assign, ly_pick, ly_load, ly_fa, ly_field, ly_ia, ly_index, ly_slice, ly_bin, ly_un, ly_conv, ly_build, ly_extract, ly_mf, ly_len, ly_max, ly_min, ly_call0, ly_callt, ly_box, ly_alloc, ly_make, ly_bs, ly_app, rawC, q1, q2, fo_26_1, ft_26_1, sz_26, ag_26, sz_23, ag_23, eo_23, mk_23, sz_3, ag_3, ik_3, fo_26_0, ft_26_0, sz_22, ag_22, eo_22, mk_22, fo_26_2, ft_26_2, sz_24, ag_24, eo_24, mk_24]
    refine hK2 _ _ ?_
    refine awp_ret ?_
    show closeA _ _ = _
    simp (disch := first | assumption | omega | (simp only [maxLen, List.length_replicate, eq_self, true_and, and_true, and_self, avs_len, List.length_map, List.length_append, List.length_cons, List.length_nil, List.length_set, List.length_range, List.length_take, List.length_drop, r5s_len, r4s_len] <;> omega) | decide | fail) only [List.map_cons, List.map_nil, closeA, closeN, retV, deep_d, deep_agg, deepL_avs, deepL_nil, deepL_cons, lookH_eq, cellsOf_c, deep_os, deep_op, deep_clo, Nat.reduceAdd, takeD_cs, takeD_cd, Nat.zero_add, takeD_avs, takeD_all, takeD_zero, fixm_i, fixm_b, fixm_o, fixm_is, fixm_os, fix_i, fix_b, fix_o, fix_fs, D.fix, List.length_map, frL_get, ↓reduceIte, Nat.reduceEqDiff, Option.map_some, Option.bind_some, Nat.mul_one, List.getElem?_cons_zero, List.getElem?_cons_succ, List.length_cons, List.length_nil, iD, bD, uD, oD, intsD, boolsD, bytesD, intssD, bytessD, rawC]
    unfold fewB; rw [q1]; rfl
  · have q1 := decide_eq_true q
    have q2 := decide_eq_false q'
    simp -dsimp -implicitDefEqProofs (disch := first | assumption | omega | (simp only [maxLen, List.length_replicate, eq_self, true_and, and_true, and_self, avs_len, List.length_map, List.length_append, List.length_cons, List.length_nil, List.length_set, List.length_range, List.length_take, List.length_drop, r5s_len, r4s_len] <;> omega) | decide | fail) only [sT_move, sE_move, sT_assign, sE_assign, sT_pick, sE_pick, sT_load, sE_load, sT_fa, sE_fa, sT_field, sE_field, sT_ia, sE_ia, sT_index, sE_index, sT_slice, sE_slice, sT_bin, sE_bin, sT_un, sE_un, sT_conv, sE_conv, sT_build, sE_build, sT_extract, sE_extract, sT_nilc, sE_nilc, sT_lookup, sE_lookup, sT_mf, sE_mf, sT_len, sE_len, sT_max, sE_max, sT_min, sE_min, sT_call0, sE_call0, sT_callt, sE_callt, sT_box, sE_box, sT_alloc, sE_alloc, sT_make, sE_make, sT_bs, sE_bs, sT_app, sE_app, sT_mm, sE_mm, sT_store, sE_store, sT_mu, sE_mu, sT_ins, sE_ins, sT_me, sE_me, sT_es, sE_es, sT_del, sE_del, sT_clr, sE_clr, deadH, sT_nil, sE_nil, sT_g, oK_some, gK_t, gK_f, Option.map_some, Option.map_none, Option.bind_some, loadF, fieldAddrF, partF, fieldF, partsOf, ixO, indexAddrF, indexF, sliceF, binF_v, convF, buildF, lenF, builtinF, layF, layEF, srcF, storeF, nilOk, u_not, v_add, v_sub, v_mul, v_quo, v_rem, v_eql, v_neq, v_lss, v_leq, v_gtr, v_geq, v_beql, v_bneq, v_shl, v_shr, v_and, v_or, v_xor, sb_none, sb_some, ↓reduceIte, if_true, if_false, Bool.false_eq_true, eq_self, ifp, ifn, guardA_some, guardV_t, guardV_f, guardV_u, frL_get, frL_put, frL_none, evalA_tmp, evalA_const, evalA_func, startF, List.map_cons, List.map_nil, List.length_cons, List.length_nil, List.getElem?_cons_zero, List.getElem?_cons_succ, List.cons_append, List.nil_append, List.append_nil, List.set_cons_zero, List.set_cons_succ, List.replicate_zero, List.replicate_succ, List.all_cons, List.all_nil, reps_def, fill_nil, fill_cons, as_int, as_bool, as_fs, as_fp, as_os, as_op, as_om, as_nil, as_agg, as_dagg, many_nil, many_cons, AV.one, D.one, Value.oneCell', Bool.and_self, Bool.and_true, Bool.true_and, and_true, true_and, and_self, Int.toNat_natCast, Nat.mul_one, Nat.zero_add, Nat.add_zero, Nat.reduceEqDiff, shB, appB, baseOk_old, baseOk_dd, killAll, appSh, map_d, avs_nil, avs_cons, avs_len, avs_get, avs_app, avs_app1, avs_set, avs_drop, takeD_avs, takeD_zero, takeD_cs, takeD_cd, takeD_all, List.drop_zero, get_map, w_i64, w_u64, w_u8, v_quo8, iD, bD, uD, oD, intsD, boolsD, bytesD, intssD, bytessD, Nat.reduceAdd, List.nil_append, deadH, List.length_map, layEF, frzF, datas, D.fix, Int.sub_zero, Int.toNat_zero, Int.reduceToNat, Nat.zero_mul, Nat.reduceMul, replicate_d, List.map_replicate, map_set_o, map_set_i, map_set_b, Bool.not_false, Bool.not_true, List.flatten_cons, List.flatten_nil, fresh_le, fresh_no, Nat.reduceBNe, Nat.reduceBEq, killAll_nil, killAll_cons, List.filterMap_nil, sE_gg, ly_move, ly_assign, ly_pick, ly_load, ly_fa, ly_field, ly_ia, ly_index, ly_slice, ly_bin, ly_un, ly_conv, ly_build, ly_extract, ly_mf, ly_len, ly_max, ly_min, ly_call0, ly_callt, ly_box, ly_alloc, ly_make, ly_bs, ly_app, rawC, q1, q2, fo_26_1, ft_26_1, sz_26, ag_26, sz_23, ag_23, eo_23, mk_23, sz_3, ag_3, ik_3, fo_26_0, ft_26_0, sz_22, ag_22, eo_22, mk_22, fo_26_2, ft_26_2, sz_24, ag_24, eo_24, mk_24]
    refine hK2 _ _ ?_
    refine awp_ret ?_
    show closeA _ _ = _
    simp (disch := first | assumption | omega | (simp only [maxLen, List.length_replicate, eq_self, true_and, and_true, and_self, avs_len, List.length_map, List.length_append, List.length_cons, List.length_nil, List.length_set, List.length_range, List.length_take, List.length_drop, r5s_len, r4s_len] <;> omega) | decide | fail) only [List.map_cons, List.map_nil, closeA, closeN, retV, deep_d, deep_agg, deepL_avs, deepL_nil, deepL_cons, lookH_eq, cellsOf_c, deep_os, deep_op, deep_clo, Nat.reduceAdd, takeD_cs, takeD_cd, Nat.zero_add, takeD_avs, takeD_all, takeD_zero, fixm_i, fixm_b, fixm_o, fixm_is, fixm_os, fix_i, fix_b, fix_o, fix_fs, D.fix, List.length_map, frL_get, ↓reduceIte, Nat.reduceEqDiff, Option.map_some, Option.bind_some, Nat.mul_one, List.getElem?_cons_zero, List.getElem?_cons_succ, List.length_cons, List.length_nil, iD, bD, uD, oD, intsD, boolsD, bytesD, intssD, bytessD, rawC]
    unfold fewB; rw [q1, q2]; rfl
  · have q1 := decide_eq_true q
    have q2 := decide_eq_true q'
    simp -dsimp -implicitDefEqProofs (disch := first | assumption | omega | (simp only [maxLen, List.length_replicate, eq_self, true_and, and_true, and_self, avs_len, List.length_map, List.length_append, List.length_cons, List.length_nil, List.length_set, List.length_range, List.length_take, List.length_drop, r5s_len, r4s_len] <;> omega) | decide | fail) only [sT_move, sE_move, sT_assign, sE_assign, sT_pick, sE_pick, sT_load, sE_load, sT_fa, sE_fa, sT_field, sE_field, sT_ia, sE_ia, sT_index, sE_index, sT_slice, sE_slice, sT_bin, sE_bin, sT_un, sE_un, sT_conv, sE_conv, sT_build, sE_build, sT_extract, sE_extract, sT_nilc, sE_nilc, sT_lookup, sE_lookup, sT_mf, sE_mf, sT_len, sE_len, sT_max, sE_max, sT_min, sE_min, sT_call0, sE_call0, sT_callt, sE_callt, sT_box, sE_box, sT_alloc, sE_alloc, sT_make, sE_make, sT_bs, sE_bs, sT_app, sE_app, sT_mm, sE_mm, sT_store, sE_store, sT_mu, sE_mu, sT_ins, sE_ins, sT_me, sE_me, sT_es, sE_es, sT_del, sE_del, sT_clr, sE_clr, deadH, sT_nil, sE_nil, sT_g, oK_some, gK_t, gK_f, Option.map_some, Option.map_none, Option.bind_some, loadF, fieldAddrF, partF, fieldF, partsOf, ixO, indexAddrF, indexF, sliceF, binF_v, convF, buildF, lenF, builtinF, layF, layEF, srcF, storeF, nilOk, u_not, v_add, v_sub, v_mul, v_quo, v_rem, v_eql, v_neq, v_lss, v_leq, v_gtr, v_geq, v_beql, v_bneq, v_shl, v_shr, v_and, v_or, v_xor, sb_none, sb_some, ↓reduceIte, if_true, if_false, Bool.false_eq_true, eq_self, ifp, ifn, guardA_some, guardV_t, guardV_f, guardV_u, frL_get, frL_put, frL_none, evalA_tmp, evalA_const, evalA_func, startF, List.map_cons, List.map_nil, List.length_cons, List.length_nil, List.getElem?_cons_zero, List.getElem?_cons_succ, List.cons_append, List.nil_append, List.append_nil, List.set_cons_zero, List.set_cons_succ, List.replicate_zero, List.replicate_succ, List.all_cons, List.all_nil, reps_def, fill_nil, fill_cons, as_int, as_bool, as_fs, as_fp, as_os, as_op, as_om, as_nil, as_agg, as_dagg, many_nil, many_cons, AV.one, D.one, Value.oneCell', Bool.and_self, Bool.and_true, Bool.true_and, and_true, true_and, and_self, Int.toNat_natCast, Nat.mul_one, Nat.zero_add, Nat.add_zero, Nat.reduceEqDiff, shB, appB, baseOk_old, baseOk_dd, killAll, appSh, map_d, avs_nil, avs_cons, avs_len, avs_get, avs_app, avs_app1, avs_set, avs_drop, takeD_avs, takeD_zero, takeD_cs, takeD_cd, takeD_all, List.drop_zero, get_map, w_i64, w_u64, w_u8, v_quo8, iD, bD, uD, oD, intsD, boolsD, bytesD, intssD, bytessD, Nat.reduceAdd, List.nil_append, deadH, List.length_map, layEF, frzF, datas, D.fix, Int.sub_zero, Int.toNat_zero, Int.reduceToNat, Nat.zero_mul, Nat.reduceMul, replicate_d, List.map_replicate, map_set_o, map_set_i, map_set_b, Bool.not_false, Bool.not_true, List.flatten_cons, List.flatten_nil, fresh_le, fresh_no, Nat.reduceBNe, Nat.reduceBEq, killAll_nil, killAll_cons, List.filterMap_nil, sE_gg, ly_move, ly_assign, ly_pick, ly_load, ly_fa, ly_field, ly_ia, ly_index, ly_slice, ly_bin, ly_un, ly_conv, ly_build, ly_extract, ly_mf, ly_len, ly_max, ly_min, ly_call0, ly_callt, ly_box, ly_alloc, ly_make, ly_bs, ly_app, rawC, q1, q2, fo_26_1, ft_26_1, sz_26, ag_26, sz_23, ag_23, eo_23, mk_23, sz_3, ag_3, ik_3, fo_26_0, ft_26_0, sz_22, ag_22, eo_22, mk_22, fo_26_2, ft_26_2, sz_24, ag_24, eo_24, mk_24]
    refine hK2 _ _ ?_
    refine awp_ret ?_
    show closeA _ _ = _
    simp (disch := first | assumption | omega | (simp only [maxLen, List.length_replicate, eq_self, true_and, and_true, and_self, avs_len, List.length_map, List.length_append, List.length_cons, List.length_nil, List.length_set, List.length_range, List.length_take, List.length_drop, r5s_len, r4s_len] <;> omega) | decide | fail) only [List.map_cons, List.map_nil, closeA, closeN, retV, deep_d, deep_agg, deepL_avs, deepL_nil, deepL_cons, lookH_eq, cellsOf_c, deep_os, deep_op, deep_clo, Nat.reduceAdd, takeD_cs, takeD_cd, Nat.zero_add, takeD_avs, takeD_all, takeD_zero, fixm_i, fixm_b, fixm_o, fixm_is, fixm_os, fix_i, fix_b, fix_o, fix_fs, D.fix, List.length_map, frL_get, ↓reduceIte, Nat.reduceEqDiff, Option.map_some, Option.bind_some, Nat.mul_one, List.getElem?_cons_zero, List.getElem?_cons_succ, List.length_cons, List.length_nil, iD, bD, uD, oD, intsD, boolsD, bytesD, intssD, bytessD, rawC]
    unfold fewB; rw [q1, q2]; rfl
theorem exp_row {V : Nat} : ∀ (fs acc : List T), (∀ t ∈ fs, t.Ok V 0) → RowOk V acc → RowOk V (fs.foldl (fun acc t => visT t acc) acc)
  | [], acc, _, h => h
  | t :: fs, acc, hf, h => exp_row fs (visT t acc) (fun s hs => hf s (List.mem_cons_of_mem _ hs)) (vis_row t 0 acc (hf t (List.mem_cons_self ..)) h)
theorem expT_row {V : Nat} {fs : List T} (h : ∀ t ∈ fs, t.Ok V 0) : RowOk V (expT fs) := exp_row fs [] h (.nil V)
theorem roots_in {fs : List T} {nodes : List Int} (h : ∀ k ∈ nodes, 0 ≤ k ∧ k < fs.length) : ∀ t ∈ rootsT fs nodes, t ∈ fs := fun t ht => by
  obtain ⟨k, hk, rfl⟩ := List.mem_map.1 ht
  exact nth_mem (by have := h k hk; omega)
theorem fs_len3000 {V ins : Nat} {sh : Sh} {gates : List Gate} {fs : List T} (h : FsP V ins sh gates gates.length fs) (hi : ins ≤ 100) (hq : ∀ q, q < gates.length → (expT (fs.take (2 + ins + (q + 1)))).length ≤ 3000) : (expT fs).length ≤ 3000 := by
  have hl := h.len
  by_cases h0 : gates.length = 0
  · have h1 := exp_len fs []
    have h2 : (fs.map T.sz).sum ≤ (fs.map T.sz).length * 3 := sum_le fun x hx => by
      obtain ⟨t, ht, rfl⟩ := List.mem_map.1 hx
      obtain ⟨k, hk, rfl⟩ := List.getElem_of_mem ht
      rw [← nth_eq hk]
      by_cases hk0 : k = 0
      · subst hk0; rw [h.f0]; decide
      by_cases hk1 : k = 1
      · subst hk1; rw [h.f1]; decide
      have := h.fv (k - 2) (by omega)
      rw [show k = 2 + (k - 2) by omega, this]
      simp [varT, T.sz]
    rw [List.length_map] at h2
    simp only [List.length_nil, Nat.zero_add] at h1
    unfold expT
    omega
  · have := hq (gates.length - 1) (by omega)
    rw [List.take_of_length_le (by omega)] at this
    exact this
structure Blt (V : Nat) (n : Net) (sh : Sh) (nodes : List Int) (fs : List T) (us : List T) (rs : List Nat) : Prop where
  F : FsP V n.ins.length sh n.gates n.gates.length fs
  row : RowOk V us
  len : us.length ≤ 3000
  hin : ∀ t ∈ rootsT fs nodes, t ∈ full us
  rs : rs = (rootsT fs nodes).map (num us)
  us : us = expT (rootsT fs nodes)
theorem BuR.blt {V : Nat} {n : Net} {sh : Sh} {nodes : List Int} {ns : List Nd} {rs : List Nat} {e : Int} (h : BuR V n sh nodes ns rs e) (hi : n.ins.length ≤ 100) (hno : nodes.any (unkB (2 + n.ins.length + n.gates.length)) = false) :
    (e = 2) ∨ (e = 0 ∧ ∃ fs us, ns = erow us ∧ Blt V n sh nodes fs us rs) := by
  rcases h with ⟨h, _⟩ | ⟨h, fs, hF, hq, h1, h2⟩
  · exact .inl h
  · refine .inr ⟨h, fs, expT (rootsT fs nodes), h1, ?_⟩
    have hl := hF.len
    have hrin := roots_in (fs := fs) (nodes := nodes) fun k hk => by
      have := List.any_eq_false.1 hno k hk
      simp only [unkB, Bool.or_eq_true, decide_eq_true_eq, not_or] at this
      omega
    have hrow := expT_row (V := V) (fs := rootsT fs nodes) fun t ht => hF.ok t (hrin t ht)
    have hfull := expT_row (V := V) (fs := fs) hF.ok
    have hle := exp_le hfull (fs := rootsT fs nodes) fun t ht => expT_mem' (hrin t ht)
    exact ⟨hF, hrow, Nat.le_trans hle (fs_len3000 hF hi hq), fun t ht => expT_mem' ht, h2, rfl⟩
theorem row_vB {V : Nat} {us : List T} (hr : RowOk V us) (hV : V ≤ 1000) {i : Nat} (hi : i < us.length) : vB ((erow us).map toI) i = true := by
  have hin : us[i] ∈ us := List.getElem_mem hi
  have hfi : us[i] ∈ full us := List.mem_cons_of_mem _ (List.mem_cons_of_mem _ hin)
  obtain ⟨v, lo, h, ht⟩ := hr.node hin
  have hg : nth ((erow us).map toI) i = ⟨v, num us lo, num us h⟩ := by
    rw [nth_eq (by simp [erow]; exact hi)]
    simp [erow, toI, ndOf, ht, T.v, T.l, T.h]
  have hc := hr.ch i hi
  rw [nth_eq hi, ht] at hc
  obtain ⟨c1, c2⟩ := hc
  have hp : us.take i <+: us := List.take_prefix _ _
  have n1 := num_lt c1
  have n2 := num_lt c2
  rw [List.length_take, Nat.min_eq_left (by omega)] at n1 n2
  have hch := hr.chf hfi
  rw [ht] at hch hfi
  have hok := hr.okf hfi
  have key : ∀ s : T, s ∈ full us → s.Ok V (v + 1) → (num us s : Int) < 2 ∨ (v : Int) < (nth ((erow us).map toI) ((num us s : Int) - 2).toNat).v := fun s hs hso => by
    rcases lf_cases s with h | h
    · have := leaf_n (us := us) h; left; omega
    · right
      have h2 := node_n hr hs h
      have hlt := num_lt hs
      have he := erow_get hr hs h
      rw [show ((num us s : Int) - 2).toNat = num us s - 2 by omega, nth_map (by rw [erow_len]; omega), he]
      obtain ⟨v', l', h', rfl⟩ := lf_node h
      have := hso.1
      show (v : Int) < (v' : Int)
      omega
  rw [vB_iff]
  refine ⟨?_, ?_, ?_, ?_, ?_, ?_, ?_, ?_, ?_, ?_⟩ <;> rw [hg] <;> try simp only
  · omega
  · have := hok.2.1; omega
  · intro e
    exact hok.2.2.1 (num_inj hch.1 hch.2 (by omega))
  · intro hm
    obtain ⟨j, hj, he⟩ := List.mem_take_iff_getElem.1 hm
    have hjl : j < us.length := by simp [erow] at hj; omega
    have hji : j < i := by omega
    simp only [erow, List.getElem_map, toI] at he
    have hjin : us[j] ∈ us := List.getElem_mem hjl
    have e2 : ndOf us us[j] = ndOf us (.node v lo h) := by
      simp only [NI.mk.injEq] at he
      obtain ⟨a1, a2, a3⟩ := he
      have : ∀ a b : Nd, a.v = b.v → a.lo = b.lo → a.hi = b.hi → a = b := fun a b h1 h2 h3 => by cases a; cases b; simp_all
      refine this _ _ ?_ ?_ ?_ <;> (simp only [ndOf, T.v, T.l, T.h] at a1 a2 a3 ⊢; omega)
    have e3 := nd_inj hr hjin (t := .node v lo h) rfl hch.1 hch.2 e2
    rw [← ht] at e3
    have hnd := hr.nd
    have : j = i := by
      have h1 : (full us)[2 + j]'(by rw [full_len]; omega) = us[j] := by simp [full, Nat.add_comm 2 j]
      have h2 : (full us)[2 + i]'(by rw [full_len]; omega) = us[i] := by simp [full, Nat.add_comm 2 i]
      have a := List.Nodup.idxOf_getElem hnd (2 + j) (by rw [full_len]; omega)
      have b := List.Nodup.idxOf_getElem hnd (2 + i) (by rw [full_len]; omega)
      rw [h1, e3] at a
      rw [h2] at b
      omega
    omega
  · omega
  · have := num_pre hp c1
    simp only [T.l] at this c1 n1 ⊢
    omega
  · exact key lo hch.1 hok.2.2.2.1
  · omega
  · have := num_pre hp c2
    simp only [T.h] at this c2 n2 ⊢
    omega
  · exact key h hch.2 hok.2.2.2.2
theorem blt_valid {V : Nat} {us : List T} (hr : RowOk V us) (hV : V ≤ 1000) (hl : us.length ≤ 3000) {rs : List Nat} (h : ∀ k ∈ rs, k < 2 + us.length) : validB ((erow us).map toI) (rs.map fun (k : Nat) => (k : Int)) = true := by
  have hlen : ((erow us).map toI).length = us.length := by simp [erow]
  rw [val_all (by omega) fun i hi => row_vB hr hV (by omega), List.all_eq_true]
  intro x hx
  obtain ⟨k, hk, rfl⟩ := List.mem_map.1 hx
  have := h k hk
  unfold rootB
  rw [hlen]
  simp; omega
end Go.Proofs.Ytgfnpfchdlcoeaa
