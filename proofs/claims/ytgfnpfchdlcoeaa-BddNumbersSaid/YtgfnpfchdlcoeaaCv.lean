/- The chapter's examples. -/
import Derived.Test.YtgfnpfchdlcoeaaQ
import Derived.Test.YtgfnpfchdlcoeaaCu
set_option linter.unusedVariables false
set_option linter.unusedSimpArgs false
namespace Go.Proofs.Ytgfnpfchdlcoeaa
open Go Go.RowKit
theorem tW_row : RowOk 3 tW := by
  have h1 : RowOk 3 ([] ++ [tA]) := (RowOk.nil 3).snoc (by simp [tA, T.Ok]) (by decide) (by decide) (by decide)
  have h2 : RowOk 3 ([tA] ++ [tB]) := RowOk.snoc h1 (by simp [tA, tB, T.Ok]) (by decide) (by decide) (by decide)
  exact RowOk.snoc h2 (by simp [tA, tB, tR, T.Ok]) (by decide) (by decide) (by decide)
theorem want_D : bddD (erow tW) [4] = bdiD wantN [4] := by rw [bddD_I]; congr 1
theorem ex_f1 : PCalls Try.prog 20 [bdiD wantN [4], iD 4, iD 3] (.d (.agg [boolsD [false, false, true], iD 0])) := by
  have h := found_c 3 tW [4] tW_row (by decide) (by decide) 4 3
  rw [want_D, show anyL tW 4 3 = [false, false, true] by kernel_rfl, show anyE tW 4 3 = 0 by kernel_rfl] at h
  exact h
theorem ex_f2 : PCalls Try.prog 20 [bdiD wantN [4], iD 0, iD 3] (.d (.agg [boolsD [], iD 4])) := by
  have h := found_c 3 tW [4] tW_row (by decide) (by decide) 0 3
  rw [want_D, show anyL tW 0 3 = [] by kernel_rfl, show anyE tW 0 3 = 4 by kernel_rfl] at h
  exact h
theorem ex_k1 : PCalls Try.prog 27 [bdiD wantN [4], iD 4, iD 3] (.d (.agg [iD 5, iD 0])) := by
  have h := counted_c 3 tW [4] tW_row (by decide) (by decide) 4 3
  rw [want_D, show cntA tW 4 3 = 5 by kernel_rfl, show askE tW 4 3 = 0 by kernel_rfl] at h
  exact h
theorem ex_k2 : PCalls Try.prog 27 [bdiD wantN [4], iD 4, iD 2] (.d (.agg [iD 0, iD 1])) := by
  have h := counted_c 3 tW [4] tW_row (by decide) (by decide) 4 2
  rw [want_D, show cntA tW 4 2 = 0 by kernel_rfl, show askE tW 4 2 = 1 by kernel_rfl] at h
  exact h
theorem ex_s1 : PCalls Try.prog 25 [bdiD wantN [4], iD 4] (.d (intsD [0, 1, 2])) := by
  have h := support_c 3 tW [4] tW_row (by decide) (by decide) 4
  rw [want_D, show supB tW 4 = [0, 1, 2] by kernel_rfl] at h
  exact h
theorem ex_e1 : PCalls Try.prog 22 [bdiD wantN [4], iD 4, boolsD [true, true]] (.d (oD true)) := by
  have h := eval_b 3 tW [4] tW_row (by decide) (by decide) 4 [true, true] (by decide)
  rw [want_D, show evB tW 4 [true, true] = true by kernel_rfl] at h
  exact h
theorem ex_e2 : PCalls Try.prog 22 [bdiD wantN [4], iD 4, boolsD [true]] (.d (oD false)) := by
  have h := eval_b 3 tW [4] tW_row (by decide) (by decide) 4 [true] (by decide)
  rw [want_D, show evB tW 4 [true] = false by kernel_rfl] at h
  exact h
theorem ex_v1 : PCalls Try.prog 17 [bdiD wantN [4]] (.d (oD true)) := by
  have h := valid_c wantN [4] (by simp [wantN]; refine ⟨⟨?_, ?_, ?_⟩, ⟨?_, ?_, ?_⟩, ⟨?_, ?_, ?_⟩⟩ <;> (unfold I64; decide)) (by decide) (by decide)
  rw [show validB wantN [4] = true by kernel_rfl] at h
  exact h
theorem ex_v2 : PCalls Try.prog 17 [bdiD [] [2]] (.d (oD false)) := by
  have h := valid_c [] [2] (by simp) (by decide) (by decide)
  rw [show validB [] [2] = false by kernel_rfl] at h
  exact h
theorem ex_a1 : PCalls Try.prog 14 [bliD wantN [4] 0, bliD wantN [4] 0] (.d (oD true)) := alike_c wantN wantN [4] [4] 0 0 (by decide) (by decide) (by decide) (by decide)
theorem ex_a2 : PCalls Try.prog 14 [bliD [⟨3, 0, 1⟩] [2, 0] 0, bliD [⟨3, 0, 1⟩] [2, 0] 0] (.d (oD true)) := alike_c [⟨3, 0, 1⟩] [⟨3, 0, 1⟩] [2, 0] [2, 0] 0 0 (by decide) (by decide) (by decide) (by decide)
theorem ex_i1 : PCalls Try.prog 24 [intsD [0, 1, 2], intsD [0, 1, 2]] (.d (oD true)) := ints_c [0, 1, 2] [0, 1, 2] (by decide)
theorem ex_o1 : PCalls Try.prog 29 [boolsD [false, false, true], boolsD [false, false, true]] (.d (oD true)) := bools_c [false, false, true] [false, false, true] (by decide)
set_option maxRecDepth 100000 in
set_option linter.unusedVariables false in
set_option maxHeartbeats 4000000 in
theorem examples_c : PCalls Try.prog 10 [] (.d (oD true)) := by
  refine pcalls_of0 (fn := Try.f10) (by kernel_rfl) Try.func10 rfl (Nat.le_of_ble_eq_true rfl) fun c hc hp => ?_
  refine awp_less (τ' := frL []) (less_nil _) ?_
  refine awp_seq_s hp KT_ok hc rfl fun K1 hK1 => ?_
  simp -dsimp -implicitDefEqProofs (disch := first | assumption | omega | (simp [maxLen, avs_len] <;> omega) | decide) only [sT_assign, sT_nil, q_f]
  refine hK1 _ _ ?_
  refine awp_seq_s hp KT_ok hc rfl fun K2 hK2 => ?_
  simp -dsimp -implicitDefEqProofs (disch := first | assumption | omega | (simp [maxLen, avs_len] <;> omega) | decide) only [sT_call0, q_f, q_s, q_l]
  refine kc_by (example_c) rfl ?_
  simp -dsimp -implicitDefEqProofs (disch := first | assumption | omega | (simp [maxLen, avs_len] <;> omega) | decide) only [sT_alloc, sT_store, deadH, sT_nil, oK_some, q_o, layF, storeF, ↓reduceIte, q_b, ifp, q_f, q_s, q_l, as_dagg, q_a, D.one, q_n, Nat.reduceEqDiff, map_d, avs_nil, avs_cons, intsD, Nat.reduceAdd, deadH, netD, netC, wiresD, gatesD, sz_41, za_41]
  refine hK2 _ _ ?_
  refine awp_rt hp (τ' := frL [(1, .d (.fp (netC exN) 0))]) (H' := []) ?_ ?_
  · refine Rt.trans (Rt.fz (id := 0) (l := netC exN) rfl) ?_
    refine Rt.trans (Rt.gc (keep := []) (by decide) (by decide) (by simp [fzH])) ?_
    refine Rt.end (less_cons (less_nil _) rfl) ?_
    first | rfl | (simp only [intsD, boolsD, bytesD, intssD, bytessD, gcH, gcO_c, gcO_de, gcO_fr, gc_m, fz_m, gcVs_avs, gcVs, gcV, gcV_d, fzH, fzO_c, fzO_de, fzO_fr, fzVs_avs, Nat.reduceAdd, fzVs, fzV, posN, avs_nil, avs_cons, List.map_cons, List.map_nil, List.getD_cons_zero, List.getD_cons_succ, ↓reduceIte, Nat.reduceEqDiff, Option.map_some, List.set_cons_zero, List.set_cons_succ, takeD_avs, takeD_all, Nat.mul_one, List.length_map, List.cons_append, List.nil_append, bE_aa, bE_da, bE_ad, bE_dd, bN_aa, bN_da, bN_ad, bN_dd, eqO_nil, eqO_cons, eqS_int, va_nil, va_cons, netD, netC, wiresD, gatesD, bliD, bdiD, bdiC, beq_self_eq_true, Int.reduceBEq, Int.reduceBNe, bne_self_eq_false]; first | done | rfl)
  refine awp_seq_s hp KT_ok hc rfl fun K3 hK3 => ?_
  simp -dsimp -implicitDefEqProofs (disch := first | assumption | omega | (simp [maxLen, avs_len] <;> omega) | decide) only [sT_load, sT_call0, sT_bs, deadH, oK_some, q_o, loadF, layF, ↓reduceIte, q_b, ifp, ifn, q_f, q_s, q_l, List.replicate_zero, List.replicate_succ, reps_def, q_a, fill_cons, q_n, Nat.reduceEqDiff, takeD_all, intsD, deadH, netC, wiresD, gatesD, sz_41, ag_41, mk_29]
  refine kc_all ex_b1 (by simp (disch := first | omega | decide) only [List.map_cons, List.map_nil, deep_d, deepL_nil, deepL_cons, lookH_eq, cellsOf_c, deep_os, Nat.reduceAdd, Nat.zero_add, takeD_all, D.fix, Option.map_some, Option.bind_some, Nat.mul_one, List.getElem?_cons_zero, List.length_cons, List.length_nil, iD, intsD] <;> rfl) ?_
  simp -dsimp -implicitDefEqProofs (disch := first | assumption | omega | (simp [maxLen, avs_len] <;> omega) | decide) only [sT_alloc, sT_store, deadH, sT_nil, oK_some, q_o, layF, storeF, ↓reduceIte, q_b, ifp, q_f, q_s, q_l, as_dagg, q_a, D.one, Value.oneCell', q_n, Nat.reduceEqDiff, map_d, avs_nil, avs_cons, iD, Nat.reduceAdd, deadH, bliD, bdiC, sz_47, za_47]
  refine hK3 _ _ ?_
  refine awp_rt hp (τ' := frL [(1, .d (.fp (netC exN) 0)), (2, .d (.fp (bdiC wantN [4] ++ [iD 0]) 0))]) (H' := []) ?_ ?_
  · refine Rt.trans (Rt.fz (id := 1) (l := bdiC wantN [4] ++ [iD 0]) rfl) ?_
    refine Rt.trans (Rt.gc (keep := []) (by decide) (by decide) (by simp [fzH])) ?_
    refine Rt.end (less_cons (less_cons (less_nil _) rfl) rfl) ?_
    first | rfl | (simp only [intsD, boolsD, bytesD, intssD, bytessD, gcH, gcO_c, gcO_de, gcO_fr, gc_m, fz_m, gcVs_avs, gcVs, gcV, gcV_d, fzH, fzO_c, fzO_de, fzO_fr, fzVs_avs, Nat.reduceAdd, fzVs, fzV, posN, avs_nil, avs_cons, List.map_cons, List.map_nil, List.getD_cons_zero, List.getD_cons_succ, ↓reduceIte, Nat.reduceEqDiff, Option.map_some, List.set_cons_zero, List.set_cons_succ, takeD_avs, takeD_all, Nat.mul_one, List.length_map, List.cons_append, List.nil_append, bE_aa, bE_da, bE_ad, bE_dd, bN_aa, bN_da, bN_ad, bN_dd, eqO_nil, eqO_cons, eqS_int, va_nil, va_cons, netD, netC, wiresD, gatesD, bliD, bdiD, bdiC, beq_self_eq_true, Int.reduceBEq, Int.reduceBNe, bne_self_eq_false]; first | done | rfl)
  refine awp_seq_s hp KT_ok hc rfl fun K4 hK4 => ?_
  simp -dsimp -implicitDefEqProofs (disch := first | assumption | omega | (simp [maxLen, avs_len] <;> omega) | decide) only [sT_build, sT_alloc, sT_bs, sT_store, deadH, sT_nil, oK_some, q_o, buildF, layF, storeF, ↓reduceIte, q_b, ifp, ifn, q_f, q_s, q_l, List.append_nil, List.replicate_zero, List.replicate_succ, reps_def, q_a, fill_cons, as_os, AV.one, D.one, Value.oneCell', q_n, Nat.reduceEqDiff, map_d, avs_nil, avs_cons, iD, intsD, Nat.reduceAdd, deadH, Nat.zero_mul, Nat.reduceMul, List.flatten_cons, List.flatten_nil, netC, wiresD, gatesD, bdiC, pa_83, pl_83_0, pl_83_1, pl_83_2, zc_83, mk_28, mk_29, pa_31, pl_31_0, pl_31_1, sz_31, za_31, zc_31]
  refine hK4 _ _ ?_
  refine awp_rt hp (τ' := frL [(1, .d (.fp (netC exN) 0)), (2, .d (.fp (bdiC wantN [4] ++ [iD 0]) 0)), (3, .d (.fp (bdiC wantN [4]) 0))]) (H' := []) ?_ ?_
  · refine Rt.trans (Rt.fz (id := 0) (l := wantN.flatMap niC) rfl) ?_
    refine Rt.trans (Rt.fz (id := 1) (l := [iD 4]) rfl) ?_
    refine Rt.trans (Rt.fz (id := 2) (l := bdiC wantN [4]) rfl) ?_
    refine Rt.trans (Rt.gc (keep := []) (by decide) (by decide) (by simp [fzH])) ?_
    refine Rt.end (less_cons (less_cons (less_cons (less_nil _) rfl) rfl) rfl) ?_
    first | rfl | (simp only [intsD, boolsD, bytesD, intssD, bytessD, gcH, gcO_c, gcO_de, gcO_fr, gc_m, fz_m, gcVs_avs, gcVs, gcV, gcV_d, fzH, fzO_c, fzO_de, fzO_fr, fzVs_avs, Nat.reduceAdd, fzVs, fzV, posN, avs_nil, avs_cons, List.map_cons, List.map_nil, List.getD_cons_zero, List.getD_cons_succ, ↓reduceIte, Nat.reduceEqDiff, Option.map_some, List.set_cons_zero, List.set_cons_succ, takeD_avs, takeD_all, Nat.mul_one, List.length_map, List.cons_append, List.nil_append, bE_aa, bE_da, bE_ad, bE_dd, bN_aa, bN_da, bN_ad, bN_dd, eqO_nil, eqO_cons, eqS_int, va_nil, va_cons, netD, netC, wiresD, gatesD, bliD, bdiD, bdiC, beq_self_eq_true, Int.reduceBEq, Int.reduceBNe, bne_self_eq_false]; first | done | rfl)
  refine awp_seq_s hp KT_ok hc rfl fun K5 hK5 => ?_
  simp -dsimp -implicitDefEqProofs (disch := first | assumption | omega | (simp [maxLen, avs_len] <;> omega) | decide) only [sT_load, sT_call0, oK_some, q_o, loadF, ↓reduceIte, q_b, q_f, q_s, q_l, q_n, Nat.reduceEqDiff, takeD_all, iD, intsD, netC, wiresD, gatesD, bdiC, sz_31, ag_31]
  refine kc_by (ex_f1) rfl ?_
  simp -dsimp -implicitDefEqProofs (disch := first | assumption | omega | (simp [maxLen, avs_len] <;> omega) | decide) only [sT_alloc, sT_store, deadH, sT_nil, oK_some, q_o, layF, storeF, ↓reduceIte, q_b, ifp, q_f, q_s, q_l, as_dagg, q_a, D.one, Value.oneCell', q_n, Nat.reduceEqDiff, map_d, avs_nil, avs_cons, iD, oD, boolsD, Nat.reduceAdd, deadH, sz_53, za_53]
  refine hK5 _ _ ?_
  refine awp_seq_k fun K6 hK6 => ?_
  refine awp_rt hp (τ' := frL [(1, .d (.fp (netC exN) 0)), (2, .d (.fp (bdiC wantN [4] ++ [iD 0]) 0)), (3, .d (.fp (bdiC wantN [4]) 0)), (4, .d (.fp [boolsD [false, false, true], iD 0] 0))]) (H' := []) ?_ ?_
  · refine Rt.trans (Rt.fz (id := 0) (l := [boolsD [false, false, true], iD 0]) rfl) ?_
    refine Rt.trans (Rt.gc (keep := []) (by decide) (by decide) (by simp [fzH])) ?_
    refine Rt.end (less_cons (less_cons (less_cons (less_cons (less_nil _) rfl) rfl) rfl) rfl) ?_
    first | rfl | (simp only [intsD, boolsD, bytesD, intssD, bytessD, gcH, gcO_c, gcO_de, gcO_fr, gc_m, fz_m, gcVs_avs, gcVs, gcV, gcV_d, fzH, fzO_c, fzO_de, fzO_fr, fzVs_avs, Nat.reduceAdd, fzVs, fzV, posN, avs_nil, avs_cons, List.map_cons, List.map_nil, List.getD_cons_zero, List.getD_cons_succ, ↓reduceIte, Nat.reduceEqDiff, Option.map_some, List.set_cons_zero, List.set_cons_succ, takeD_avs, takeD_all, Nat.mul_one, List.length_map, List.cons_append, List.nil_append, bE_aa, bE_da, bE_ad, bE_dd, bN_aa, bN_da, bN_ad, bN_dd, eqO_nil, eqO_cons, eqS_int, va_nil, va_cons, netD, netC, wiresD, gatesD, bliD, bdiD, bdiC, beq_self_eq_true, Int.reduceBEq, Int.reduceBNe, bne_self_eq_false]; first | done | rfl)
  refine awp_seq_s hp KT_ok hc rfl fun K7 hK7 => ?_
  simp -dsimp -implicitDefEqProofs (disch := first | assumption | omega | (simp [maxLen, avs_len] <;> omega) | decide) only [sT_load, sT_build, sT_call0, oK_some, q_o, loadF, buildF, ↓reduceIte, q_b, ifn, q_f, q_s, q_l, q_a, fill_cons, as_dagg, D.one, Value.oneCell', q_n, Nat.reduceEqDiff, takeD_all, iD, oD, intsD, boolsD, Nat.reduceAdd, netC, wiresD, gatesD, bdiC, sz_47, ag_47, sz_31, ag_31, pa_47, pl_47_0, zc_47]
  refine kc_by (ex_a1) rfl ?_
  simp -dsimp -implicitDefEqProofs (disch := first | assumption | omega | (simp [maxLen, avs_len] <;> omega) | decide) only [sT_move, sT_load, sT_un, sT_call0, sT_g, oK_some, gK_t, q_o, loadF, u_not, ↓reduceIte, q_b, guardA_some, guardV_f, q_f, q_s, q_l, Nat.reduceEqDiff, takeD_all, oD, sz_31, ag_31]
  refine kc_by (ex_k1) rfl ?_
  simp -dsimp -implicitDefEqProofs (disch := first | assumption | omega | (simp [maxLen, avs_len] <;> omega) | decide) only [sT_move, sT_pick, sT_load, sT_fa, sT_bin, sT_build, sT_call0, sT_bs, deadH, sT_g, oK_some, gK_t, q_o, loadF, fieldAddrF, binF_v, buildF, layF, v_neq, ↓reduceIte, q_b, ifp, ifn, guardA_some, guardV_f, q_f, q_s, q_l, List.replicate_zero, List.replicate_succ, reps_def, q_a, fill_cons, D.one, Value.oneCell', Bool.true_and, q_n, Nat.reduceEqDiff, iD, Nat.reduceAdd, deadH, bN_da, eqO_nil, eqO_cons, eqS_int, va_nil, va_cons, beq_self_eq_true, bne_self_eq_false, pa_59, pl_59_0, zc_59, eqB_ss eq_59, fo_53_1, sz_45, ag_45, fo_53_0, sz_33, ag_33, mk_33]
  refine kc_all ex_o1 (by simp (disch := first | omega | decide) only [List.map_cons, List.map_nil, deep_d, deepL_nil, deepL_cons, lookH_eq, cellsOf_c, deep_os, Nat.reduceAdd, Nat.zero_add, takeD_all, D.fix, Option.map_some, Option.bind_some, Nat.mul_one, List.getElem?_cons_zero, List.length_cons, List.length_nil, oD, boolsD] <;> rfl) ?_
  simp -dsimp -implicitDefEqProofs (disch := first | assumption | omega | (simp [maxLen, avs_len] <;> omega) | decide) only [sT_move, sT_pick, sT_load, sT_un, sT_call0, sT_g, oK_some, gK_t, q_o, loadF, u_not, ↓reduceIte, q_b, guardA_some, guardV_f, q_f, q_s, q_l, q_n, Nat.reduceEqDiff, takeD_all, oD, sz_31, ag_31]
  refine kc_by (ex_s1) rfl ?_
  simp -dsimp -implicitDefEqProofs (disch := first | assumption | omega | (simp [maxLen, avs_len] <;> omega) | decide) only [sT_call0, sT_bs, deadH, sT_g, oK_some, gK_t, q_o, layF, ↓reduceIte, q_b, ifp, ifn, guardA_some, guardV_f, q_f, q_s, q_l, List.replicate_zero, List.replicate_succ, reps_def, q_a, fill_cons, q_n, Nat.reduceEqDiff, iD, intsD, Nat.reduceAdd, deadH, mk_29]
  refine kc_all ex_i1 (by simp (disch := first | omega | decide) only [List.map_cons, List.map_nil, deep_d, deepL_nil, deepL_cons, lookH_eq, cellsOf_c, deep_os, Nat.reduceAdd, Nat.zero_add, takeD_all, D.fix, Option.map_some, Option.bind_some, Nat.mul_one, List.getElem?_cons_zero, List.getElem?_cons_succ, List.length_cons, List.length_nil, iD, intsD] <;> rfl) ?_
  simp -dsimp -implicitDefEqProofs (disch := first | assumption | omega | (simp [maxLen, avs_len] <;> omega) | decide) only [sT_pick, sT_un, sT_nil, sT_g, oK_some, gK_t, q_o, u_not, ↓reduceIte, q_b, guardA_some, guardV_f, q_f, q_s, q_l, Nat.reduceEqDiff, oD]
  refine hK7 _ _ ?_
  refine awp_cond rfl (fun ht => ?_) (fun ht => ?_)
  · cases ht
  · refine awp_skip (hK6 _ _ ?_)
    refine awp_rt hp (τ' := frL [(1, .d (.fp (netC exN) 0)), (3, .d (.fp (bdiC wantN [4]) 0))]) (H' := []) ?_ ?_
    · refine Rt.trans (Rt.gc (keep := []) (by decide) (by decide) (by simp [])) ?_
      refine Rt.end (less_cons (less_cons (less_nil _) rfl) rfl) ?_
      first | rfl | (simp only [intsD, boolsD, bytesD, intssD, bytessD, gcH, gcO_c, gcO_de, gcO_fr, gc_m, fz_m, gcVs_avs, gcVs, gcV, gcV_d, fzH, fzO_c, fzO_de, fzO_fr, fzVs_avs, Nat.reduceAdd, fzVs, fzV, posN, avs_nil, avs_cons, List.map_cons, List.map_nil, List.getD_cons_zero, List.getD_cons_succ, ↓reduceIte, Nat.reduceEqDiff, Option.map_some, List.set_cons_zero, List.set_cons_succ, takeD_avs, takeD_all, Nat.mul_one, List.length_map, List.cons_append, List.nil_append, bE_aa, bE_da, bE_ad, bE_dd, bN_aa, bN_da, bN_ad, bN_dd, eqO_nil, eqO_cons, eqS_int, va_nil, va_cons, netD, netC, wiresD, gatesD, bliD, bdiD, bdiC, beq_self_eq_true, Int.reduceBEq, Int.reduceBNe, bne_self_eq_false]; first | done | rfl)
    refine awp_seq_s hp KT_ok hc rfl fun K8 hK8 => ?_
    simp -dsimp -implicitDefEqProofs (disch := first | assumption | omega | (simp [maxLen, avs_len] <;> omega) | decide) only [sT_load, sT_build, sT_call0, sT_bs, deadH, oK_some, q_o, loadF, buildF, layF, ↓reduceIte, q_b, ifp, ifn, q_f, q_s, q_l, List.append_nil, List.replicate_zero, List.replicate_succ, reps_def, q_a, fill_cons, AV.one, D.one, Value.oneCell', q_n, Nat.reduceEqDiff, takeD_all, iD, intsD, Nat.reduceAdd, deadH, Nat.zero_mul, Nat.reduceMul, List.flatten_cons, List.flatten_nil, netC, wiresD, gatesD, bdiC, sz_41, ag_41, pa_84, pl_84_0, pl_84_1, zc_84, mk_32, mk_29]
    refine kc_all ex_b2 (by simp (disch := first | omega | decide) only [List.map_cons, List.map_nil, deep_d, deepL_nil, deepL_cons, lookH_eq, cellsOf_c, deep_os, Nat.reduceAdd, Nat.zero_add, takeD_all, D.fix, Option.map_some, Option.bind_some, Nat.mul_one, List.getElem?_cons_zero, List.getElem?_cons_succ, List.length_cons, List.length_nil, iD, intsD] <;> rfl) ?_
    simp -dsimp -implicitDefEqProofs (disch := first | assumption | omega | (simp [maxLen, avs_len] <;> omega) | decide) only [sT_alloc, sT_store, deadH, sT_nil, oK_some, q_o, layF, storeF, ↓reduceIte, q_b, ifp, q_f, q_s, q_l, as_dagg, q_a, D.one, Value.oneCell', q_n, Nat.reduceEqDiff, map_d, avs_nil, avs_cons, iD, Nat.reduceAdd, deadH, bliD, bdiC, sz_47, za_47]
    refine hK8 _ _ ?_
    refine awp_seq_k fun K9 hK9 => ?_
    refine awp_rt hp (τ' := frL [(1, .d (.fp (netC exN) 0)), (3, .d (.fp (bdiC wantN [4]) 0)), (5, .d (.fp (bdiC [⟨3, 0, 1⟩] [2, 0] ++ [iD 0]) 0))]) (H' := []) ?_ ?_
    · refine Rt.trans (Rt.fz (id := 2) (l := bdiC [⟨3, 0, 1⟩] [2, 0] ++ [iD 0]) rfl) ?_
      refine Rt.trans (Rt.gc (keep := []) (by decide) (by decide) (by simp [fzH])) ?_
      refine Rt.end (less_cons (less_cons (less_cons (less_nil _) rfl) rfl) rfl) ?_
      first | rfl | (simp only [intsD, boolsD, bytesD, intssD, bytessD, gcH, gcO_c, gcO_de, gcO_fr, gc_m, fz_m, gcVs_avs, gcVs, gcV, gcV_d, fzH, fzO_c, fzO_de, fzO_fr, fzVs_avs, Nat.reduceAdd, fzVs, fzV, posN, avs_nil, avs_cons, List.map_cons, List.map_nil, List.getD_cons_zero, List.getD_cons_succ, ↓reduceIte, Nat.reduceEqDiff, Option.map_some, List.set_cons_zero, List.set_cons_succ, takeD_avs, takeD_all, Nat.mul_one, List.length_map, List.cons_append, List.nil_append, bE_aa, bE_da, bE_ad, bE_dd, bN_aa, bN_da, bN_ad, bN_dd, eqO_nil, eqO_cons, eqS_int, va_nil, va_cons, netD, netC, wiresD, gatesD, bliD, bdiD, bdiC, beq_self_eq_true, Int.reduceBEq, Int.reduceBNe, bne_self_eq_false]; first | done | rfl)
    refine awp_seq_s hp KT_ok hc rfl fun K10 hK10 => ?_
    simp -dsimp -implicitDefEqProofs (disch := first | assumption | omega | (simp [maxLen, avs_len] <;> omega) | decide) only [sT_load, sT_build, sT_call0, sT_bs, deadH, oK_some, q_o, loadF, buildF, layF, ↓reduceIte, q_b, ifp, ifn, q_f, q_s, q_l, List.append_nil, List.replicate_zero, List.replicate_succ, reps_def, q_a, fill_cons, as_os, AV.one, D.one, Value.oneCell', q_n, Nat.reduceEqDiff, takeD_all, iD, intsD, Nat.reduceAdd, deadH, Nat.zero_mul, Nat.reduceMul, List.flatten_cons, List.flatten_nil, netC, wiresD, gatesD, bdiC, sz_47, ag_47, pa_83, pl_83_0, pl_83_1, pl_83_2, zc_83, mk_28, mk_29, pa_31, pl_31_0, pl_31_1, zc_31, pa_47, pl_47_0, zc_47]
    refine kc_all ex_a2 (by simp (disch := first | omega | decide) only [deep_d, deep_agg, deepL_nil, deepL_cons, lookH_eq, cellsOf_c, deep_os, Nat.reduceAdd, Nat.zero_add, takeD_all, D.fix, Option.map_some, Option.bind_some, Nat.mul_one, List.getElem?_cons_zero, List.getElem?_cons_succ, List.length_cons, List.length_nil] <;> rfl) ?_
    simp -dsimp -implicitDefEqProofs (disch := first | assumption | omega | (simp [maxLen, avs_len] <;> omega) | decide) only [sT_move, sT_load, sT_un, sT_call0, sT_bs, deadH, sT_g, oK_some, gK_t, q_o, loadF, layF, u_not, ↓reduceIte, q_b, ifp, ifn, guardA_some, guardV_f, q_f, q_s, q_l, List.replicate_zero, List.replicate_succ, reps_def, q_a, fill_cons, q_n, Nat.reduceEqDiff, takeD_all, oD, Nat.reduceAdd, deadH, mk_29, sz_41, ag_41]
    refine kc_all ex_b3 (by simp (disch := first | omega | decide) only [List.map_cons, List.map_nil, deep_d, deepL_nil, deepL_cons, lookH_eq, cellsOf_c, deep_os, Nat.reduceAdd, Nat.zero_add, takeD_all, D.fix, Option.map_some, Option.bind_some, Nat.mul_one, List.getElem?_cons_zero, List.getElem?_cons_succ, List.length_cons, List.length_nil, iD, intsD] <;> rfl) ?_
    simp -dsimp -implicitDefEqProofs (disch := first | assumption | omega | (simp [maxLen, avs_len] <;> omega) | decide) only [sT_move, sT_pick, sT_load, sT_field, sT_bin, sT_build, sT_call0, sT_bs, deadH, sT_g, oK_some, gK_t, q_o, loadF, partF, fieldF, partsOf, binF_v, buildF, layF, v_neq, ↓reduceIte, q_b, ifp, ifn, guardA_some, guardV_f, q_f, q_s, q_l, List.append_nil, List.replicate_zero, List.replicate_succ, reps_def, q_a, fill_cons, AV.one, D.one, Value.oneCell', q_n, Nat.reduceEqDiff, takeD_all, iD, Nat.reduceAdd, deadH, Nat.zero_mul, Nat.reduceMul, List.flatten_cons, List.flatten_nil, bliD, bdiC, bne_self_eq_false, sz_41, ag_41, mk_32, ft_47_1, pa_84, pl_84_0, pl_84_1, zc_84]
    refine kc_all ex_b4 (by simp (disch := first | omega | decide) only [deep_d, deepL_nil, deepL_cons, lookH_eq, cellsOf_c, deep_os, Nat.reduceAdd, Nat.zero_add, takeD_all, D.fix, Option.map_some, Option.bind_some, List.getElem?_cons_zero, List.getElem?_cons_succ, List.length_cons, List.length_nil] <;> rfl) ?_
    simp -dsimp -implicitDefEqProofs (disch := first | assumption | omega | (simp [maxLen, avs_len] <;> omega) | decide) only [sT_pick, sT_field, sT_bin, sT_nil, sT_g, oK_some, gK_t, q_o, partF, fieldF, partsOf, binF_v, v_neq, ↓reduceIte, q_b, guardA_some, guardV_f, q_f, q_s, q_l, Nat.reduceEqDiff, iD, bliD, bdiC, bne_self_eq_false, ft_47_1]
    refine hK10 _ _ ?_
    refine awp_cond rfl (fun ht => ?_) (fun ht => ?_)
    · cases ht
    · refine awp_skip (hK9 _ _ ?_)
      refine awp_rt hp (τ' := frL [(3, .d (.fp (bdiC wantN [4]) 0))]) (H' := []) ?_ ?_
      · refine Rt.trans (Rt.gc (keep := []) (by decide) (by decide) (by simp [])) ?_
        refine Rt.end (less_cons (less_nil _) rfl) ?_
        first | rfl | (simp only [intsD, boolsD, bytesD, intssD, bytessD, gcH, gcO_c, gcO_de, gcO_fr, gc_m, fz_m, gcVs_avs, gcVs, gcV, gcV_d, fzH, fzO_c, fzO_de, fzO_fr, fzVs_avs, Nat.reduceAdd, fzVs, fzV, posN, avs_nil, avs_cons, List.map_cons, List.map_nil, List.getD_cons_zero, List.getD_cons_succ, ↓reduceIte, Nat.reduceEqDiff, Option.map_some, List.set_cons_zero, List.set_cons_succ, takeD_avs, takeD_all, Nat.mul_one, List.length_map, List.cons_append, List.nil_append, bE_aa, bE_da, bE_ad, bE_dd, bN_aa, bN_da, bN_ad, bN_dd, eqO_nil, eqO_cons, eqS_int, va_nil, va_cons, netD, netC, wiresD, gatesD, bliD, bdiD, bdiC, beq_self_eq_true, Int.reduceBEq, Int.reduceBNe, bne_self_eq_false]; first | done | rfl)
      refine awp_seq_s hp KT_ok hc rfl fun K11 hK11 => ?_
      simp -dsimp -implicitDefEqProofs (disch := first | assumption | omega | (simp [maxLen, avs_len] <;> omega) | decide) only [sT_load, sT_call0, oK_some, q_o, loadF, ↓reduceIte, q_b, q_f, q_s, q_l, q_n, takeD_all, iD, bdiC, sz_31, ag_31]
      refine kc_by (ex_v1) rfl ?_
      simp -dsimp -implicitDefEqProofs (disch := first | assumption | omega | (simp [maxLen, avs_len] <;> omega) | decide) only [sT_move, sT_build, sT_call0, sT_bs, deadH, sT_g, oK_some, gK_t, q_o, buildF, layF, ↓reduceIte, q_b, ifp, ifn, guardA_some, guardV_t, q_f, q_s, q_l, List.replicate_zero, List.replicate_succ, reps_def, q_a, fill_cons, as_os, D.one, Value.oneCell', q_n, Nat.reduceEqDiff, oD, Nat.reduceAdd, deadH, mk_29, pa_31, pl_31_1, zc_31]
      refine kc_all ex_v2 (by simp (disch := first | omega | decide) only [deep_d, deep_agg, deepL_nil, deepL_cons, lookH_eq, cellsOf_c, deep_os, Nat.reduceAdd, Nat.zero_add, takeD_all, D.fix, Option.map_some, Option.bind_some, Nat.mul_one, List.getElem?_cons_zero, List.length_cons, List.length_nil] <;> rfl) ?_
      simp -dsimp -implicitDefEqProofs (disch := first | assumption | omega | (simp [maxLen, avs_len] <;> omega) | decide) only [sT_move, sT_pick, sT_load, sT_un, sT_call0, sT_bs, deadH, sT_g, oK_some, gK_t, q_o, loadF, layF, u_not, ↓reduceIte, q_b, ifp, ifn, guardA_some, guardV_t, q_f, q_s, q_l, List.replicate_zero, List.replicate_succ, reps_def, q_a, fill_cons, q_n, Nat.reduceEqDiff, takeD_all, oD, Nat.reduceAdd, deadH, sz_31, ag_31, mk_33]
      refine kc_all ex_e1 (by simp (disch := first | omega | decide) only [List.map_cons, List.map_nil, deep_d, deepL_nil, deepL_cons, lookH_eq, cellsOf_c, deep_os, Nat.reduceAdd, Nat.zero_add, takeD_all, D.fix, Option.map_some, Option.bind_some, Nat.mul_one, List.getElem?_cons_zero, List.getElem?_cons_succ, List.length_cons, List.length_nil, iD, oD, boolsD] <;> rfl) ?_
      simp -dsimp -implicitDefEqProofs (disch := first | assumption | omega | (simp [maxLen, avs_len] <;> omega) | decide) only [sT_move, sT_pick, sT_load, sT_call0, sT_bs, deadH, sT_g, oK_some, gK_t, q_o, loadF, layF, ↓reduceIte, q_b, ifp, ifn, guardA_some, guardV_t, q_f, q_s, q_l, List.replicate_zero, List.replicate_succ, reps_def, q_a, fill_cons, q_n, Nat.reduceEqDiff, takeD_all, oD, Nat.reduceAdd, deadH, sz_31, ag_31, mk_33]
      refine kc_all ex_e2 (by simp (disch := first | omega | decide) only [List.map_cons, List.map_nil, deep_d, deepL_nil, deepL_cons, lookH_eq, cellsOf_c, deep_os, Nat.reduceAdd, Nat.zero_add, takeD_all, D.fix, Option.map_some, Option.bind_some, Nat.mul_one, List.getElem?_cons_zero, List.getElem?_cons_succ, List.length_cons, List.length_nil, iD, oD, boolsD] <;> rfl) ?_
      simp -dsimp -implicitDefEqProofs (disch := first | assumption | omega | (simp [maxLen, avs_len] <;> omega) | decide) only [sT_move, sT_pick, sT_load, sT_un, sT_call0, sT_g, oK_some, gK_t, q_o, loadF, u_not, ↓reduceIte, q_b, guardA_some, guardV_t, q_f, q_s, q_l, q_n, Nat.reduceEqDiff, takeD_all, oD, Nat.reduceAdd, sz_31, ag_31]
      refine kc_by (ex_k2) rfl ?_
      simp -dsimp -implicitDefEqProofs (disch := first | assumption | omega | (simp [maxLen, avs_len] <;> omega) | decide) only [sT_move, sT_pick, sT_load, sT_field, sT_bin, sT_call0, sT_g, oK_some, gK_t, q_o, loadF, partF, fieldF, partsOf, binF_v, v_eql, ↓reduceIte, q_b, guardA_some, guardV_t, q_f, q_s, q_l, q_n, Nat.reduceEqDiff, takeD_all, iD, Nat.reduceAdd, beq_self_eq_true, sz_31, ag_31, ft_59_1]
      refine kc_by (ex_f2) rfl ?_
      simp -dsimp -implicitDefEqProofs (disch := first | assumption | omega | (simp [maxLen, avs_len] <;> omega) | decide) only [sT_assign, sT_pick, sT_field, sT_bin, sT_nil, sT_g, oK_some, gK_t, q_o, partF, fieldF, partsOf, binF_v, v_eql, ↓reduceIte, q_b, guardA_some, guardV_t, q_f, q_s, q_l, Nat.reduceEqDiff, iD, boolsD, beq_self_eq_true, ft_53_1]
      refine hK11 _ _ ?_
      refine awp_ret ?_
      show closeA _ _ = _
      simp (disch := first | assumption | omega | (simp [maxLen, avs_len] <;> omega) | decide) only [closeA, retV, deep_d, Nat.reduceAdd, Nat.zero_add, D.fix, frL_get, ↓reduceIte, Option.map_some, List.length_cons, List.length_nil, oD]
end Go.Proofs.Ytgfnpfchdlcoeaa
