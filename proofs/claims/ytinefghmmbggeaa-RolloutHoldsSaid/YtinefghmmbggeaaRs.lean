/- The law RolloutHolds. -/
import Derived.Test.YtinefghmmbggeaaQ
import Derived.Test.YtinefghmmbggeaaRsa
set_option linter.unusedVariables false
set_option linter.unusedSimpArgs false
namespace Go.Proofs.Ytinefghmmbggeaa
open Go Go.RowKit
set_option maxRecDepth 100000 in
set_option linter.unusedVariables false in
set_option maxHeartbeats 4000000 in
theorem holds_law (x : Rw) (hx : RwOk x) (u v : Sp) (hu : SpOk u) (hv : SpOk v) : PCalls Try.prog 5 [rwD x, .agg (spC u ++ spC v)] (.d (.val (.bool true))) := by
  refine pcalls_of0 (fn := Try.f5) (by kernel_rfl) Try.func5 rfl (Nat.le_of_ble_eq_true rfl) fun c hc hp => ?_
  refine awp_less (τ' := frL [(0, .d (rwD x)), (1, .d (.agg (spC u ++ spC v)))]) (less_cons (less_cons (less_nil _) rfl) rfl) ?_
  obtain ⟨r, hmr⟩ : ∃ r, madeR x = r := ⟨_, rfl⟩
  have hvr : VR r := hmr ▸ madeK_ok hx 24
  have c0 := hu.c.1
  have c1 := hu.c.2
  have hal := allC_len hvr
  have hat := allC_at hvr u.chip c0
  have hem0 : 0 ≤ u.chip % ((allC r).length : Int) := Int.emod_nonneg _ (by omega)
  have hem1 : u.chip % ((allC r).length : Int) < (allC r).length := Int.emod_lt_of_pos _ (by omega)
  refine awp_seq_s KT_ok hc rfl fun K1 hK1 => ?_
  simp -dsimp -implicitDefEqProofs (disch := first | assumption | omega | (simp [maxLen, avs_len] <;> omega) | decide) only [sT_assign, sT_box, deadH, sT_nil, oK_some, q_o, layF, ↓reduceIte, q_b, q_f, q_s, q_l, as_dagg, D.one, Value.oneCell', q_n, Nat.reduceEqDiff, bD, oD, bytesD, deadH, rwD, bytesD, spsD, spC]
  refine hK1 _ _ ?_
  refine awp_seq_s KT_ok hc rfl fun K2 hK2 => ?_
  simp -dsimp -implicitDefEqProofs (disch := first | assumption | omega | (simp [maxLen, avs_len] <;> omega) | decide) only [sT_call0, q_f, q_s, q_l, q_n, Nat.reduceAdd]
  refine kc_by (examples_c) rfl ?_
  simp -dsimp -implicitDefEqProofs (disch := first | assumption | omega | (simp [maxLen, avs_len] <;> omega) | decide) only [sT_assign, sT_nil, ↓reduceIte, q_b, q_f]
  refine hK2 _ _ ?_
  refine awp_seq_k fun K3 hK3 => ?_
  refine awp_seq_s KT_ok hc rfl fun K4 hK4 => ?_
  simp -dsimp -implicitDefEqProofs (disch := first | assumption | omega | (simp [maxLen, avs_len] <;> omega) | decide) only [sT_move, sT_un, sT_nil, oK_some, u_not, ↓reduceIte, q_b, q_f]
  refine hK4 _ _ ?_
  refine awp_cond rfl (fun ht => ?_) (fun ht => ?_)
  · cases ht
  · refine awp_skip (hK3 _ _ ?_)
    refine awp_seq_s KT_ok hc rfl fun K5 hK5 => ?_
    simp -dsimp -implicitDefEqProofs (disch := first | assumption | omega | (simp [maxLen, avs_len] <;> omega) | decide) only [sT_load, sT_call0, oK_some, q_o, loadF, ↓reduceIte, q_b, ifp, q_f, q_s, q_l, q_n, Nat.reduceEqDiff, takeD_all, Nat.reduceAdd, sz_25, ag_25]
    refine kc_by (show PCalls Try.prog 11 [rwD x] (.d (rolD r)) from hmr ▸ madex_c x hx) rfl ?_
    simp -dsimp -implicitDefEqProofs (disch := first | assumption | omega | (simp [maxLen, avs_len] <;> omega) | decide) only [sT_alloc, sT_store, deadH, sT_nil, oK_some, q_o, layF, storeF, ↓reduceIte, q_b, ifp, q_f, q_s, q_l, as_dagg, q_a, D.one, Value.oneCell', q_n, Nat.reduceEqDiff, map_d, avs_nil, avs_cons, iD, intsD, intssD, Nat.reduceAdd, deadH, rolD, rolC, sz_29, za_29]
    refine hK5 _ _ ?_
    refine awp_seq_s KT_ok hc rfl fun K6 hK6 => ?_
    simp -dsimp -implicitDefEqProofs (disch := first | assumption | omega | (simp [maxLen, avs_len] <;> omega) | decide) only [sT_load, sT_fa, sT_len, sT_call0, oK_some, q_o, loadF, fieldAddrF, lenF, builtinF, ↓reduceIte, q_b, ifp, q_f, q_s, q_l, q_n, Nat.reduceEqDiff, takeD_all, Nat.reduceAdd, sz_29, ag_29, fo_29_2, sz_26, ag_26, eo_26]
    refine kc_by (show PCalls Try.prog 30 [rolD r, iD r.wv.length] (.d (intsD (allC r))) from uptop_c r r.wv.length hvr.short) rfl ?_
    simp -dsimp -implicitDefEqProofs (disch := first | assumption | omega | (simp [maxLen, avs_len] <;> omega) | decide) only [sT_assign, sT_nil, ↓reduceIte, q_b, q_f, intsD]
    refine hK6 _ _ ?_
    refine awp_seq_s KT_ok hc rfl fun K7 hK7 => ?_
    simp -dsimp -implicitDefEqProofs (disch := first | assumption | omega | (simp [maxLen, avs_len] <;> omega) | decide) only [sT_load, sT_ia, sT_call0, oK_some, q_o, loadF, ixO, indexAddrF, ↓reduceIte, q_b, ifp, q_f, q_s, q_l, q_n, Nat.reduceEqDiff, takeD_zero, takeD_cs, takeD_all, Nat.reduceAdd, Int.toNat_zero, Nat.zero_mul, sz_29, ag_29, eo_55, sz_45, ag_45]
    refine kc_by (report_c r u hvr hu) rfl ?_
    simp -dsimp -implicitDefEqProofs (disch := first | assumption | omega | (simp [maxLen, avs_len] <;> omega) | decide) only [sT_alloc, sT_store, deadH, sT_nil, oK_some, q_o, layF, storeF, ↓reduceIte, q_b, ifp, q_f, q_s, q_l, as_dagg, q_a, D.one, Value.oneCell', q_n, Nat.reduceEqDiff, map_d, avs_nil, avs_cons, iD, oD, Nat.reduceAdd, deadH, repD, repC, sz_31, za_31]
    refine hK7 _ _ ?_
    refine awp_seq_s KT_ok hc rfl fun K8 hK8 => ?_
    simp -dsimp -implicitDefEqProofs (disch := first | assumption | omega | (simp [maxLen, avs_len] <;> omega) | decide) only [sT_load, sT_fa, sT_store, sT_nil, oK_some, loadF, fieldAddrF, storeF, ↓reduceIte, q_b, ifp, q_f, q_l, q_s, q_a, q_n, Nat.reduceEqDiff, Nat.reduceAdd, fo_29_1, sz_3, ag_3, fo_31_1]
    refine hK8 _ _ ?_
    refine awp_seq_s KT_ok hc rfl fun K9 hK9 => ?_
    simp -dsimp -implicitDefEqProofs (disch := first | assumption | omega | (simp [maxLen, avs_len] <;> omega) | decide) only [sT_move, sT_load, sT_fa, sT_ia, sT_bin, sT_conv, sT_len, sT_store, sT_nil, oK_some, q_o, loadF, fieldAddrF, ixO, indexAddrF, binF_v, convF, lenF, builtinF, storeF, v_rem, ↓reduceIte, q_b, ifp, q_f, q_s, q_l, q_a, q_n, Nat.reduceEqDiff, get_map, w_i64, iD, Nat.reduceAdd, Int.toNat_zero, Nat.zero_mul, eo_55, fo_45_1, sz_5, ag_5, ik_5, sz_3, ag_3, ik_3, eo_27, fo_31_0]
    refine hK9 _ _ ?_
    refine awp_seq_k fun K10 hK10 => ?_
    refine awp_seq_s KT_ok hc rfl fun K11 hK11 => ?_
    rcases (show r.st ≠ 0 ∨ (r.st = 0 ∧ u.runs = false) ∨ ((r.st = 0 ∧ u.runs = true) ∧ u.same = false) ∨ ((r.st = 0 ∧ u.runs = true) ∧ u.same = true ∧ u.slk % 12 < r.slk) ∨ ((r.st = 0 ∧ u.runs = true) ∧ u.same = true ∧ ¬ u.slk % 12 < r.slk) from by cases u.runs <;> cases u.same <;> simp <;> omega) with g | ⟨g, g1⟩ | ⟨⟨g, g1⟩, g2⟩ | ⟨⟨g, g1⟩, g2, g3⟩ | ⟨⟨g, g1⟩, g2, g3⟩
    · simp -dsimp -implicitDefEqProofs (disch := first | assumption | omega | (simp [maxLen, avs_len] <;> omega) | decide) only [sT_move, sT_pick, sT_load, sT_fa, sT_bin, sT_nil, sT_g, oK_some, q_o, loadF, fieldAddrF, binF_v, v_neq, ↓reduceIte, q_b, ifp, guardA_some, guardV_f, guardV_u, q_f, q_l, q_n, Nat.reduceEqDiff, Nat.reduceAdd, bne_t, nb_f, rep_slk, rep_same, rep_runs, gK_ff, fo_29_6, sz_3, ag_3]
      refine hK11 _ _ ?_
      refine awp_cond rfl (fun ht => ?_) (fun ht => ?_)
      · refine awp_seq_s KT_ok hc rfl fun K12 hK12 => ?_
        simp -dsimp -implicitDefEqProofs (disch := first | assumption | omega | (simp [maxLen, avs_len] <;> omega) | decide) only [sT_move, sT_assign, sT_nil, ↓reduceIte, q_b, q_f, Nat.reduceEqDiff]
        refine hK12 _ _ ?_
        refine awp_ret ?_
        show closeA _ _ = _
        simp (disch := first | assumption | omega | (simp [maxLen, avs_len] <;> omega) | decide) only [closeA, retV, deep_d, Nat.reduceAdd, Nat.zero_add, D.fix, frL_get, ↓reduceIte, Option.map_some, List.length_cons, List.length_nil]
      · cases ht
    · have hsee := badP_see hvr hu g (.inl g1)
      simp -dsimp -implicitDefEqProofs (disch := first | assumption | omega | (simp [maxLen, avs_len] <;> omega) | decide) only [sT_move, sT_pick, sT_load, sT_fa, sT_bin, sT_nil, sT_g, oK_some, q_o, loadF, fieldAddrF, binF_v, v_neq, ↓reduceIte, q_b, ifp, guardA_some, guardV_t, guardV_f, q_f, q_l, q_n, Nat.reduceEqDiff, Nat.reduceAdd, bne_f, nb_t, rep_slk, rep_same, rep_runs, gK_tt, gK_ff, ifb_f, fo_29_6, sz_3, ag_3, fo_31_4, sz_4, ag_4]
      refine hK11 _ _ ?_
      refine awp_cond rfl (fun ht => ?_) (fun ht => ?_)
      · cases ht
      · refine awp_skip (hK10 _ _ ?_)
        refine awp_seq_s KT_ok hc rfl fun K13 hK13 => ?_
        simp -dsimp -implicitDefEqProofs (disch := first | assumption | omega | (simp [maxLen, avs_len] <;> omega) | decide) only [sT_load, sT_call0, oK_some, q_o, loadF, ↓reduceIte, q_b, ifp, q_f, q_s, q_l, q_n, Nat.reduceEqDiff, takeD_all, Nat.reduceAdd, sz_29, ag_29, sz_31, ag_31]
        refine kc_by (see_v hvr (p := badP r u) (badP_i64 hvr hu) hsee) rfl ?_
        simp -dsimp -implicitDefEqProofs (disch := first | assumption | omega | (simp [maxLen, avs_len] <;> omega) | decide) only [sT_alloc, sT_store, deadH, sT_nil, oK_some, q_o, layF, storeF, ↓reduceIte, q_b, ifp, q_f, q_s, q_l, as_dagg, q_a, D.one, Value.oneCell', q_n, Nat.reduceEqDiff, map_d, avs_nil, avs_cons, iD, intsD, intssD, Nat.reduceAdd, deadH, gotD, heldR, sz_40, za_40]
        refine hK13 _ _ ?_
        refine awp_seq_k fun K14 hK14 => ?_
        refine awp_seq_s KT_ok hc rfl fun K15 hK15 => ?_
        simp -dsimp -implicitDefEqProofs (disch := first | assumption | omega | (simp [maxLen, avs_len] <;> omega) | decide) only [sT_move, sT_load, sT_fa, sT_bin, sT_call0, sT_g, oK_some, gK_t, q_o, loadF, fieldAddrF, binF_v, v_neq, ↓reduceIte, q_b, ifp, guardA_some, guardV_f, q_f, q_s, q_l, q_n, Nat.reduceEqDiff, takeD_zero, takeD_cs, Nat.reduceAdd, bne_self_eq_false, nb_t, fo_40_1, sz_38, ag_38, fo_40_0, sz_29, ag_29]
        refine kc_by (validp_v (held_ok hvr g)) rfl ?_
        simp -dsimp -implicitDefEqProofs (disch := first | assumption | omega | (simp [maxLen, avs_len] <;> omega) | decide) only [sT_pick, sT_un, sT_nil, sT_g, oK_some, gK_t, q_o, u_not, ↓reduceIte, q_b, guardA_some, guardV_f, q_f, q_l, Nat.reduceEqDiff, nb_t, nb_f]
        refine hK15 _ _ ?_
        refine awp_cond rfl (fun ht => ?_) (fun ht => ?_)
        · cases ht
        · refine awp_skip (hK14 _ _ ?_)
          refine awp_seq_s KT_ok hc rfl fun K16 hK16 => ?_
          simp -dsimp -implicitDefEqProofs (disch := first | assumption | omega | (simp [maxLen, avs_len] <;> omega) | decide) only [sT_load, sT_ia, sT_call0, oK_some, q_o, loadF, ixO, indexAddrF, ↓reduceIte, q_b, ifp, q_f, q_s, q_l, q_n, Nat.reduceEqDiff, takeD_cd, takeD_all, Nat.reduceAdd, Int.reduceToNat, Nat.reduceMul, sz_29, ag_29, eo_55, sz_45, ag_45]
          refine kc_by (report_c r v hvr hv) rfl ?_
          simp -dsimp -implicitDefEqProofs (disch := first | assumption | omega | (simp [maxLen, avs_len] <;> omega) | decide) only [sT_alloc, sT_store, deadH, sT_nil, oK_some, q_o, layF, storeF, ↓reduceIte, q_b, ifp, q_f, q_s, q_l, as_dagg, q_a, D.one, Value.oneCell', q_n, Nat.reduceEqDiff, map_d, avs_nil, avs_cons, iD, oD, Nat.reduceAdd, deadH, repD, repC, sz_31, za_31]
          refine hK16 _ _ ?_
          refine awp_seq_s KT_ok hc rfl fun K17 hK17 => ?_
          rcases (show inB (reportR r v).chip (allC r) = false ∨ (inB (reportR r v).chip (allC r) = true ∧ (reportR r v).no = r.frm) ∨ ((inB (reportR r v).chip (allC r) = true ∧ (reportR r v).no ≠ r.frm) ∧ (reportR r v).no = r.to) ∨ ((inB (reportR r v).chip (allC r) = true ∧ (reportR r v).no ≠ r.frm) ∧ (reportR r v).no ≠ r.to) from by cases inB (reportR r v).chip (allC r) <;> simp <;> omega) with k1 | ⟨k1, k2⟩ | ⟨⟨k1, k2⟩, k3⟩ | ⟨⟨k1, k2⟩, k3⟩
          · have hs2 : seeG (heldR r) (reportR r v) = (noRol, 510) := see_bad (.inl (by rw [inB_allC, decide_eq_false_iff_not, Decidable.not_not] at k1; exact k1))
            simp -dsimp -implicitDefEqProofs (disch := first | assumption | omega | (simp [maxLen, avs_len] <;> omega) | decide) only [sT_load, sT_fa, sT_call0, oK_some, q_o, loadF, fieldAddrF, ↓reduceIte, q_b, ifp, q_f, q_s, q_l, q_n, Nat.reduceEqDiff, takeD_zero, takeD_cs, takeD_all, Nat.reduceAdd, fo_40_0, sz_29, ag_29, sz_31, ag_31]
            refine kc_by (see_v (held_ok hvr g) (p := reportR r v) (rep_i64 hvr hv) hs2) rfl ?_
            simp -dsimp -implicitDefEqProofs (disch := first | assumption | omega | (simp [maxLen, avs_len] <;> omega) | decide) only [sT_alloc, sT_store, deadH, sT_nil, oK_some, q_o, layF, storeF, ↓reduceIte, q_b, ifp, q_f, q_s, q_l, as_dagg, q_a, D.one, Value.oneCell', q_n, Nat.reduceEqDiff, map_d, avs_nil, avs_cons, iD, intsD, intssD, Nat.reduceAdd, deadH, gotD, noRol, sz_40, za_40]
            refine hK17 _ _ ?_
            refine awp_seq_s KT_ok hc rfl fun K18 hK18 => ?_
            simp -dsimp -implicitDefEqProofs (disch := first | assumption | omega | (simp [maxLen, avs_len] <;> omega) | decide) only [sT_load, sT_fa, sT_call0, oK_some, q_o, loadF, fieldAddrF, ↓reduceIte, q_b, ifp, q_f, q_s, q_l, q_n, Nat.reduceEqDiff, takeD_zero, takeD_cs, Nat.reduceAdd, fo_40_0, sz_29, ag_29]
            refine kc_by (ex_resume (held_resume g)) rfl ?_
            simp -dsimp -implicitDefEqProofs (disch := first | assumption | omega | (simp [maxLen, avs_len] <;> omega) | decide) only [sT_alloc, sT_store, deadH, sT_nil, oK_some, q_o, layF, storeF, ↓reduceIte, q_b, ifp, q_f, q_s, q_l, as_dagg, q_a, D.one, Value.oneCell', q_n, Nat.reduceEqDiff, map_d, avs_nil, avs_cons, iD, intsD, intssD, Nat.reduceAdd, deadH, gotD, sz_40, za_40]
            refine hK18 _ _ ?_
            refine awp_seq_s KT_ok hc rfl fun K19 hK19 => ?_
            simp -dsimp -implicitDefEqProofs (disch := first | assumption | omega | (simp [maxLen, avs_len] <;> omega) | decide) only [sT_move, sT_load, sT_fa, sT_call0, oK_some, loadF, fieldAddrF, ↓reduceIte, q_b, ifp, q_f, q_s, q_l, q_n, Nat.reduceEqDiff, Nat.reduceAdd, fo_31_0, sz_3, ag_3]
            refine kc_by (in_c (allC r) (reportR r v).chip (by omega)) rfl ?_
            simp -dsimp -implicitDefEqProofs (disch := first | assumption | omega | (simp [maxLen, avs_len] <;> omega) | decide) only [sT_move, sT_assign, sT_pick, sT_nil, sT_g, oK_some, q_o, ↓reduceIte, q_b, guardA_some, guardV_t, guardV_u, q_f, q_l, Nat.reduceEqDiff, gK_ff, ifb_f]
            refine hK19 _ _ ?_
            refine awp_seq_k fun K20 hK20 => ?_
            refine awp_seq_s KT_ok hc rfl fun K21 hK21 => ?_
            simp -dsimp -implicitDefEqProofs (disch := first | assumption | omega | (simp [maxLen, avs_len] <;> omega) | decide) only [sT_move, sT_load, sT_fa, sT_bin, sT_call0, sT_g, oK_some, gK_t, q_o, loadF, fieldAddrF, binF_v, v_neq, ↓reduceIte, q_b, ifp, guardA_some, guardV_f, q_f, q_s, q_l, q_n, Nat.reduceEqDiff, takeD_zero, takeD_cs, Nat.reduceAdd, bne_self_eq_false, nb_t, fo_40_0, fo_29_6, sz_29, ag_29, sz_3, ag_3]
            refine kc_by (show PCalls Try.prog 19 [rolD (heldR r)] (.d (intsD [])) from held_ready (r := r) ▸ ready_v (held_ok hvr g)) rfl ?_
            simp -dsimp -implicitDefEqProofs (disch := first | assumption | omega | (simp [maxLen, avs_len] <;> omega) | decide) only [sT_move, sT_pick, sT_load, sT_fa, sT_bin, sT_len, sT_nil, sT_g, oK_some, gK_t, gK_f, q_o, loadF, fieldAddrF, binF_v, lenF, builtinF, v_eql, v_neq, v_bneq, ↓reduceIte, q_b, ifp, guardA_some, guardV_t, guardV_f, q_f, q_s, q_l, q_n, Nat.reduceEqDiff, intsD, Nat.reduceAdd, bne_self_eq_false, beq_f, bne_f, nb_t, eo_27, fo_40_1, sz_38, ag_38, bt_4]
            refine hK21 _ _ ?_
            refine awp_cond rfl (fun ht => ?_) (fun ht => ?_)
            · cases ht
            · refine awp_skip (hK20 _ _ ?_)
              refine awp_seq_se KT_ok hc mixed rfl (q := 0) (by kernel_rfl) (by kernel_rfl) fun K22 hK22 => ?_
              simp -dsimp -implicitDefEqProofs (disch := first | assumption | omega | (simp [maxLen, avs_len] <;> omega) | decide) only [sE_move, sE_load, sE_fa, sE_bin, sE_call0, oK_some, gK_t, q_o, loadF, fieldAddrF, binF_v, v_eql, ↓reduceIte, q_b, ifp, guardA_some, guardV_t, q_f, q_s, q_l, List.append_nil, List.replicate_zero, q_n, Nat.reduceEqDiff, takeD_zero, takeD_cs, takeD_all, Nat.reduceAdd, sE_gg, beq_self_eq_true, fo_40_1, sz_38, ag_38, fo_40_0, sz_29, ag_29]
              refine kc_by (same_refl hvr.short) rfl ?_
              simp -dsimp -implicitDefEqProofs (disch := first | assumption | omega | (simp [maxLen, avs_len] <;> omega) | decide) only [sE_move, sE_pick, sE_load, sE_fa, sE_call0, oK_some, gK_t, q_o, loadF, fieldAddrF, ↓reduceIte, q_b, ifp, guardA_some, guardV_t, q_f, q_s, q_l, q_n, Nat.reduceEqDiff, takeD_zero, takeD_cs, Nat.reduceAdd, sE_gg, fo_40_0, sz_29, ag_29]
              refine kc_by (ready_v hvr) rfl ?_
              simp -dsimp -implicitDefEqProofs (disch := first | assumption | omega | (simp [maxLen, avs_len] <;> omega) | decide) only [sE_load, sE_call0, oK_some, gK_t, q_o, loadF, ↓reduceIte, q_b, ifp, guardA_some, guardV_t, q_f, q_s, q_l, Nat.reduceEqDiff, takeD_all, intsD, Nat.reduceAdd, sE_gg, sz_29, ag_29]
              refine kc_by (ready_v hvr) rfl ?_
              simp -dsimp -implicitDefEqProofs (disch := first | assumption | omega | (simp [maxLen, avs_len] <;> omega) | decide) only [sE_call0, gK_t, q_o, ↓reduceIte, q_b, guardA_some, guardV_t, q_f, q_s, q_l, Nat.reduceEqDiff, intsD, Nat.reduceAdd, sE_gg]
              refine kc_by (ex_ints (readyG r) (by have := ready_len hvr; omega)) rfl ?_
              simp -dsimp -implicitDefEqProofs (disch := first | assumption | omega | (simp [maxLen, avs_len] <;> omega) | decide) only [sE_move, sE_assign, sE_pick, sE_nil, oK_some, gK_t, q_o, ↓reduceIte, q_b, guardA_some, guardV_t, q_f, q_l, Nat.reduceEqDiff, killAll, Nat.reduceAdd, sE_gg]
              refine hK22 _ _ ?_
              refine awp_ret ?_
              show closeA _ _ = _
              simp (disch := first | assumption | omega | (simp [maxLen, avs_len] <;> omega) | decide) only [closeA, retV, deep_d, Nat.reduceAdd, Nat.zero_add, D.fix, frL_get, ↓reduceIte, Option.map_some, List.length_cons, List.length_nil]
          · have hs2 : seeG (heldR r) (reportR r v) = (heldR r, 0) := held_see (by
              rw [inB_allC, decide_eq_true_eq] at k1
              rintro (h | ⟨h, _⟩)
              · exact k1 h
              · exact h k2)
            simp -dsimp -implicitDefEqProofs (disch := first | assumption | omega | (simp [maxLen, avs_len] <;> omega) | decide) only [sT_load, sT_fa, sT_call0, oK_some, q_o, loadF, fieldAddrF, ↓reduceIte, q_b, ifp, q_f, q_s, q_l, q_n, Nat.reduceEqDiff, takeD_zero, takeD_cs, takeD_all, Nat.reduceAdd, fo_40_0, sz_29, ag_29, sz_31, ag_31]
            refine kc_by (see_v (held_ok hvr g) (p := reportR r v) (rep_i64 hvr hv) hs2) rfl ?_
            simp -dsimp -implicitDefEqProofs (disch := first | assumption | omega | (simp [maxLen, avs_len] <;> omega) | decide) only [sT_alloc, sT_store, deadH, sT_nil, oK_some, q_o, layF, storeF, ↓reduceIte, q_b, ifp, q_f, q_s, q_l, as_dagg, q_a, D.one, Value.oneCell', q_n, Nat.reduceEqDiff, map_d, avs_nil, avs_cons, iD, intsD, intssD, Nat.reduceAdd, deadH, gotD, heldR, sz_40, za_40]
            refine hK17 _ _ ?_
            refine awp_seq_s KT_ok hc rfl fun K23 hK23 => ?_
            simp -dsimp -implicitDefEqProofs (disch := first | assumption | omega | (simp [maxLen, avs_len] <;> omega) | decide) only [sT_load, sT_fa, sT_call0, oK_some, q_o, loadF, fieldAddrF, ↓reduceIte, q_b, ifp, q_f, q_s, q_l, q_n, Nat.reduceEqDiff, takeD_zero, takeD_cs, Nat.reduceAdd, fo_40_0, sz_29, ag_29]
            refine kc_by (ex_resume (held_resume g)) rfl ?_
            simp -dsimp -implicitDefEqProofs (disch := first | assumption | omega | (simp [maxLen, avs_len] <;> omega) | decide) only [sT_alloc, sT_store, deadH, sT_nil, oK_some, q_o, layF, storeF, ↓reduceIte, q_b, ifp, q_f, q_s, q_l, as_dagg, q_a, D.one, Value.oneCell', q_n, Nat.reduceEqDiff, map_d, avs_nil, avs_cons, iD, intsD, intssD, Nat.reduceAdd, deadH, gotD, sz_40, za_40]
            refine hK23 _ _ ?_
            refine awp_seq_s KT_ok hc rfl fun K24 hK24 => ?_
            simp -dsimp -implicitDefEqProofs (disch := first | assumption | omega | (simp [maxLen, avs_len] <;> omega) | decide) only [sT_move, sT_load, sT_fa, sT_call0, oK_some, loadF, fieldAddrF, ↓reduceIte, q_b, ifp, q_f, q_s, q_l, q_n, Nat.reduceEqDiff, Nat.reduceAdd, fo_31_0, sz_3, ag_3]
            refine kc_by (in_c (allC r) (reportR r v).chip (by omega)) rfl ?_
            simp -dsimp -implicitDefEqProofs (disch := first | assumption | omega | (simp [maxLen, avs_len] <;> omega) | decide) only [sT_move, sT_assign, sT_pick, sT_load, sT_fa, sT_bin, sT_nil, sT_g, oK_some, q_o, loadF, fieldAddrF, binF_v, v_eql, ↓reduceIte, q_b, ifp, guardA_some, guardV_t, guardV_f, q_f, q_l, q_n, Nat.reduceEqDiff, Nat.reduceAdd, beq_t, nb_f, gK_tt, gK_ff, sz_3, ag_3, fo_31_1, fo_29_0]
            refine hK24 _ _ ?_
            refine awp_seq_k fun K25 hK25 => ?_
            refine awp_seq_s KT_ok hc rfl fun K26 hK26 => ?_
            simp -dsimp -implicitDefEqProofs (disch := first | assumption | omega | (simp [maxLen, avs_len] <;> omega) | decide) only [sT_move, sT_load, sT_fa, sT_bin, sT_call0, sT_g, oK_some, gK_t, q_o, loadF, fieldAddrF, binF_v, v_neq, ↓reduceIte, q_b, ifp, guardA_some, guardV_f, q_f, q_s, q_l, q_n, Nat.reduceEqDiff, takeD_zero, takeD_cs, Nat.reduceAdd, bne_self_eq_false, nb_t, fo_40_0, fo_29_6, sz_29, ag_29, sz_3, ag_3]
            refine kc_by (show PCalls Try.prog 19 [rolD (heldR r)] (.d (intsD [])) from held_ready (r := r) ▸ ready_v (held_ok hvr g)) rfl ?_
            simp -dsimp -implicitDefEqProofs (disch := first | assumption | omega | (simp [maxLen, avs_len] <;> omega) | decide) only [sT_move, sT_pick, sT_load, sT_fa, sT_bin, sT_len, sT_call0, sT_g, oK_some, gK_t, q_o, loadF, fieldAddrF, binF_v, lenF, builtinF, v_eql, v_neq, v_bneq, ↓reduceIte, q_b, ifp, guardA_some, guardV_t, guardV_f, q_f, q_s, q_l, q_n, Nat.reduceEqDiff, takeD_zero, takeD_cs, intsD, Nat.reduceAdd, bne_self_eq_false, beq_self_eq_true, bne_f, nb_t, fo_40_0, sz_29, ag_29, eo_27, fo_40_1, sz_38, ag_38, bt_4]
            refine kc_by (same_refl (held_ok hvr g).short) rfl ?_
            simp -dsimp -implicitDefEqProofs (disch := first | assumption | omega | (simp [maxLen, avs_len] <;> omega) | decide) only [sT_pick, sT_un, sT_nil, sT_g, oK_some, gK_t, q_o, u_not, ↓reduceIte, q_b, guardA_some, guardV_t, guardV_f, q_f, q_l, Nat.reduceEqDiff, nb_t, nb_f]
            refine hK26 _ _ ?_
            refine awp_cond rfl (fun ht => ?_) (fun ht => ?_)
            · cases ht
            · refine awp_skip (hK25 _ _ ?_)
              refine awp_seq_se KT_ok hc mixed rfl (q := 0) (by kernel_rfl) (by kernel_rfl) fun K27 hK27 => ?_
              simp -dsimp -implicitDefEqProofs (disch := first | assumption | omega | (simp [maxLen, avs_len] <;> omega) | decide) only [sE_move, sE_load, sE_fa, sE_bin, sE_call0, oK_some, gK_t, q_o, loadF, fieldAddrF, binF_v, v_eql, ↓reduceIte, q_b, ifp, guardA_some, guardV_t, q_f, q_s, q_l, List.append_nil, List.replicate_zero, q_n, Nat.reduceEqDiff, takeD_zero, takeD_cs, takeD_all, Nat.reduceAdd, sE_gg, beq_self_eq_true, fo_40_1, sz_38, ag_38, fo_40_0, sz_29, ag_29]
              refine kc_by (same_refl hvr.short) rfl ?_
              simp -dsimp -implicitDefEqProofs (disch := first | assumption | omega | (simp [maxLen, avs_len] <;> omega) | decide) only [sE_move, sE_pick, sE_load, sE_fa, sE_call0, oK_some, gK_t, q_o, loadF, fieldAddrF, ↓reduceIte, q_b, ifp, guardA_some, guardV_t, q_f, q_s, q_l, q_n, Nat.reduceEqDiff, takeD_zero, takeD_cs, Nat.reduceAdd, sE_gg, fo_40_0, sz_29, ag_29]
              refine kc_by (ready_v hvr) rfl ?_
              simp -dsimp -implicitDefEqProofs (disch := first | assumption | omega | (simp [maxLen, avs_len] <;> omega) | decide) only [sE_load, sE_call0, oK_some, gK_t, q_o, loadF, ↓reduceIte, q_b, ifp, guardA_some, guardV_t, q_f, q_s, q_l, Nat.reduceEqDiff, takeD_all, intsD, Nat.reduceAdd, sE_gg, sz_29, ag_29]
              refine kc_by (ready_v hvr) rfl ?_
              simp -dsimp -implicitDefEqProofs (disch := first | assumption | omega | (simp [maxLen, avs_len] <;> omega) | decide) only [sE_call0, gK_t, q_o, ↓reduceIte, q_b, guardA_some, guardV_t, q_f, q_s, q_l, Nat.reduceEqDiff, intsD, Nat.reduceAdd, sE_gg]
              refine kc_by (ex_ints (readyG r) (by have := ready_len hvr; omega)) rfl ?_
              simp -dsimp -implicitDefEqProofs (disch := first | assumption | omega | (simp [maxLen, avs_len] <;> omega) | decide) only [sE_move, sE_assign, sE_pick, sE_nil, oK_some, gK_t, q_o, ↓reduceIte, q_b, guardA_some, guardV_t, q_f, q_l, Nat.reduceEqDiff, killAll, Nat.reduceAdd, sE_gg]
              refine hK27 _ _ ?_
              refine awp_ret ?_
              show closeA _ _ = _
              simp (disch := first | assumption | omega | (simp [maxLen, avs_len] <;> omega) | decide) only [closeA, retV, deep_d, Nat.reduceAdd, Nat.zero_add, D.fix, frL_get, ↓reduceIte, Option.map_some, List.length_cons, List.length_nil]
          · have hs2 : seeG (heldR r) (reportR r v) = (heldR r, 0) := held_see (by
              rw [inB_allC, decide_eq_true_eq] at k1
              rintro (h | ⟨_, h⟩)
              · exact k1 h
              · exact h k3)
            simp -dsimp -implicitDefEqProofs (disch := first | assumption | omega | (simp [maxLen, avs_len] <;> omega) | decide) only [sT_load, sT_fa, sT_call0, oK_some, q_o, loadF, fieldAddrF, ↓reduceIte, q_b, ifp, q_f, q_s, q_l, q_n, Nat.reduceEqDiff, takeD_zero, takeD_cs, takeD_all, Nat.reduceAdd, fo_40_0, sz_29, ag_29, sz_31, ag_31]
            refine kc_by (see_v (held_ok hvr g) (p := reportR r v) (rep_i64 hvr hv) hs2) rfl ?_
            simp -dsimp -implicitDefEqProofs (disch := first | assumption | omega | (simp [maxLen, avs_len] <;> omega) | decide) only [sT_alloc, sT_store, deadH, sT_nil, oK_some, q_o, layF, storeF, ↓reduceIte, q_b, ifp, q_f, q_s, q_l, as_dagg, q_a, D.one, Value.oneCell', q_n, Nat.reduceEqDiff, map_d, avs_nil, avs_cons, iD, intsD, intssD, Nat.reduceAdd, deadH, gotD, heldR, sz_40, za_40]
            refine hK17 _ _ ?_
            refine awp_seq_s KT_ok hc rfl fun K28 hK28 => ?_
            simp -dsimp -implicitDefEqProofs (disch := first | assumption | omega | (simp [maxLen, avs_len] <;> omega) | decide) only [sT_load, sT_fa, sT_call0, oK_some, q_o, loadF, fieldAddrF, ↓reduceIte, q_b, ifp, q_f, q_s, q_l, q_n, Nat.reduceEqDiff, takeD_zero, takeD_cs, Nat.reduceAdd, fo_40_0, sz_29, ag_29]
            refine kc_by (ex_resume (held_resume g)) rfl ?_
            simp -dsimp -implicitDefEqProofs (disch := first | assumption | omega | (simp [maxLen, avs_len] <;> omega) | decide) only [sT_alloc, sT_store, deadH, sT_nil, oK_some, q_o, layF, storeF, ↓reduceIte, q_b, ifp, q_f, q_s, q_l, as_dagg, q_a, D.one, Value.oneCell', q_n, Nat.reduceEqDiff, map_d, avs_nil, avs_cons, iD, intsD, intssD, Nat.reduceAdd, deadH, gotD, sz_40, za_40]
            refine hK28 _ _ ?_
            refine awp_seq_s KT_ok hc rfl fun K29 hK29 => ?_
            simp -dsimp -implicitDefEqProofs (disch := first | assumption | omega | (simp [maxLen, avs_len] <;> omega) | decide) only [sT_move, sT_load, sT_fa, sT_call0, oK_some, loadF, fieldAddrF, ↓reduceIte, q_b, ifp, q_f, q_s, q_l, q_n, Nat.reduceEqDiff, Nat.reduceAdd, fo_31_0, sz_3, ag_3]
            refine kc_by (in_c (allC r) (reportR r v).chip (by omega)) rfl ?_
            simp -dsimp -implicitDefEqProofs (disch := first | assumption | omega | (simp [maxLen, avs_len] <;> omega) | decide) only [sT_move, sT_assign, sT_pick, sT_load, sT_fa, sT_bin, sT_nil, sT_g, oK_some, q_o, loadF, fieldAddrF, binF_v, v_eql, ↓reduceIte, q_b, ifp, guardA_some, guardV_t, guardV_f, q_f, q_l, q_n, Nat.reduceEqDiff, Nat.reduceAdd, beq_t, beq_f, nb_t, gK_tt, sz_3, ag_3, fo_31_1, fo_29_0, fo_29_1]
            refine hK29 _ _ ?_
            refine awp_seq_k fun K30 hK30 => ?_
            refine awp_seq_s KT_ok hc rfl fun K31 hK31 => ?_
            simp -dsimp -implicitDefEqProofs (disch := first | assumption | omega | (simp [maxLen, avs_len] <;> omega) | decide) only [sT_move, sT_load, sT_fa, sT_bin, sT_call0, sT_g, oK_some, gK_t, q_o, loadF, fieldAddrF, binF_v, v_neq, ↓reduceIte, q_b, ifp, guardA_some, guardV_f, q_f, q_s, q_l, q_n, Nat.reduceEqDiff, takeD_zero, takeD_cs, Nat.reduceAdd, bne_self_eq_false, nb_t, fo_40_0, fo_29_6, sz_29, ag_29, sz_3, ag_3]
            refine kc_by (show PCalls Try.prog 19 [rolD (heldR r)] (.d (intsD [])) from held_ready (r := r) ▸ ready_v (held_ok hvr g)) rfl ?_
            simp -dsimp -implicitDefEqProofs (disch := first | assumption | omega | (simp [maxLen, avs_len] <;> omega) | decide) only [sT_move, sT_pick, sT_load, sT_fa, sT_bin, sT_len, sT_call0, sT_g, oK_some, gK_t, q_o, loadF, fieldAddrF, binF_v, lenF, builtinF, v_eql, v_neq, v_bneq, ↓reduceIte, q_b, ifp, guardA_some, guardV_t, guardV_f, q_f, q_s, q_l, q_n, Nat.reduceEqDiff, takeD_zero, takeD_cs, intsD, Nat.reduceAdd, bne_self_eq_false, beq_self_eq_true, bne_f, nb_t, fo_40_0, sz_29, ag_29, eo_27, fo_40_1, sz_38, ag_38, bt_4]
            refine kc_by (same_refl (held_ok hvr g).short) rfl ?_
            simp -dsimp -implicitDefEqProofs (disch := first | assumption | omega | (simp [maxLen, avs_len] <;> omega) | decide) only [sT_pick, sT_un, sT_nil, sT_g, oK_some, gK_t, q_o, u_not, ↓reduceIte, q_b, guardA_some, guardV_t, guardV_f, q_f, q_l, Nat.reduceEqDiff, nb_t, nb_f]
            refine hK31 _ _ ?_
            refine awp_cond rfl (fun ht => ?_) (fun ht => ?_)
            · cases ht
            · refine awp_skip (hK30 _ _ ?_)
              refine awp_seq_se KT_ok hc mixed rfl (q := 0) (by kernel_rfl) (by kernel_rfl) fun K32 hK32 => ?_
              simp -dsimp -implicitDefEqProofs (disch := first | assumption | omega | (simp [maxLen, avs_len] <;> omega) | decide) only [sE_move, sE_load, sE_fa, sE_bin, sE_call0, oK_some, gK_t, q_o, loadF, fieldAddrF, binF_v, v_eql, ↓reduceIte, q_b, ifp, guardA_some, guardV_t, q_f, q_s, q_l, List.append_nil, List.replicate_zero, q_n, Nat.reduceEqDiff, takeD_zero, takeD_cs, takeD_all, Nat.reduceAdd, sE_gg, beq_self_eq_true, fo_40_1, sz_38, ag_38, fo_40_0, sz_29, ag_29]
              refine kc_by (same_refl hvr.short) rfl ?_
              simp -dsimp -implicitDefEqProofs (disch := first | assumption | omega | (simp [maxLen, avs_len] <;> omega) | decide) only [sE_move, sE_pick, sE_load, sE_fa, sE_call0, oK_some, gK_t, q_o, loadF, fieldAddrF, ↓reduceIte, q_b, ifp, guardA_some, guardV_t, q_f, q_s, q_l, q_n, Nat.reduceEqDiff, takeD_zero, takeD_cs, Nat.reduceAdd, sE_gg, fo_40_0, sz_29, ag_29]
              refine kc_by (ready_v hvr) rfl ?_
              simp -dsimp -implicitDefEqProofs (disch := first | assumption | omega | (simp [maxLen, avs_len] <;> omega) | decide) only [sE_load, sE_call0, oK_some, gK_t, q_o, loadF, ↓reduceIte, q_b, ifp, guardA_some, guardV_t, q_f, q_s, q_l, Nat.reduceEqDiff, takeD_all, intsD, Nat.reduceAdd, sE_gg, sz_29, ag_29]
              refine kc_by (ready_v hvr) rfl ?_
              simp -dsimp -implicitDefEqProofs (disch := first | assumption | omega | (simp [maxLen, avs_len] <;> omega) | decide) only [sE_call0, gK_t, q_o, ↓reduceIte, q_b, guardA_some, guardV_t, q_f, q_s, q_l, Nat.reduceEqDiff, intsD, Nat.reduceAdd, sE_gg]
              refine kc_by (ex_ints (readyG r) (by have := ready_len hvr; omega)) rfl ?_
              simp -dsimp -implicitDefEqProofs (disch := first | assumption | omega | (simp [maxLen, avs_len] <;> omega) | decide) only [sE_move, sE_assign, sE_pick, sE_nil, oK_some, gK_t, q_o, ↓reduceIte, q_b, guardA_some, guardV_t, q_f, q_l, Nat.reduceEqDiff, killAll, Nat.reduceAdd, sE_gg]
              refine hK32 _ _ ?_
              refine awp_ret ?_
              show closeA _ _ = _
              simp (disch := first | assumption | omega | (simp [maxLen, avs_len] <;> omega) | decide) only [closeA, retV, deep_d, Nat.reduceAdd, Nat.zero_add, D.fix, frL_get, ↓reduceIte, Option.map_some, List.length_cons, List.length_nil]
          · have hs2 : seeG (heldR r) (reportR r v) = (noRol, 510) := see_bad (.inr ⟨k2, k3⟩)
            simp -dsimp -implicitDefEqProofs (disch := first | assumption | omega | (simp [maxLen, avs_len] <;> omega) | decide) only [sT_load, sT_fa, sT_call0, oK_some, q_o, loadF, fieldAddrF, ↓reduceIte, q_b, ifp, q_f, q_s, q_l, q_n, Nat.reduceEqDiff, takeD_zero, takeD_cs, takeD_all, Nat.reduceAdd, fo_40_0, sz_29, ag_29, sz_31, ag_31]
            refine kc_by (see_v (held_ok hvr g) (p := reportR r v) (rep_i64 hvr hv) hs2) rfl ?_
            simp -dsimp -implicitDefEqProofs (disch := first | assumption | omega | (simp [maxLen, avs_len] <;> omega) | decide) only [sT_alloc, sT_store, deadH, sT_nil, oK_some, q_o, layF, storeF, ↓reduceIte, q_b, ifp, q_f, q_s, q_l, as_dagg, q_a, D.one, Value.oneCell', q_n, Nat.reduceEqDiff, map_d, avs_nil, avs_cons, iD, intsD, intssD, Nat.reduceAdd, deadH, gotD, noRol, sz_40, za_40]
            refine hK17 _ _ ?_
            refine awp_seq_s KT_ok hc rfl fun K33 hK33 => ?_
            simp -dsimp -implicitDefEqProofs (disch := first | assumption | omega | (simp [maxLen, avs_len] <;> omega) | decide) only [sT_load, sT_fa, sT_call0, oK_some, q_o, loadF, fieldAddrF, ↓reduceIte, q_b, ifp, q_f, q_s, q_l, q_n, Nat.reduceEqDiff, takeD_zero, takeD_cs, Nat.reduceAdd, fo_40_0, sz_29, ag_29]
            refine kc_by (ex_resume (held_resume g)) rfl ?_
            simp -dsimp -implicitDefEqProofs (disch := first | assumption | omega | (simp [maxLen, avs_len] <;> omega) | decide) only [sT_alloc, sT_store, deadH, sT_nil, oK_some, q_o, layF, storeF, ↓reduceIte, q_b, ifp, q_f, q_s, q_l, as_dagg, q_a, D.one, Value.oneCell', q_n, Nat.reduceEqDiff, map_d, avs_nil, avs_cons, iD, intsD, intssD, Nat.reduceAdd, deadH, gotD, sz_40, za_40]
            refine hK33 _ _ ?_
            refine awp_seq_s KT_ok hc rfl fun K34 hK34 => ?_
            simp -dsimp -implicitDefEqProofs (disch := first | assumption | omega | (simp [maxLen, avs_len] <;> omega) | decide) only [sT_move, sT_load, sT_fa, sT_call0, oK_some, loadF, fieldAddrF, ↓reduceIte, q_b, ifp, q_f, q_s, q_l, q_n, Nat.reduceEqDiff, Nat.reduceAdd, fo_31_0, sz_3, ag_3]
            refine kc_by (in_c (allC r) (reportR r v).chip (by omega)) rfl ?_
            simp -dsimp -implicitDefEqProofs (disch := first | assumption | omega | (simp [maxLen, avs_len] <;> omega) | decide) only [sT_move, sT_assign, sT_pick, sT_load, sT_fa, sT_bin, sT_nil, sT_g, oK_some, q_o, loadF, fieldAddrF, binF_v, v_eql, ↓reduceIte, q_b, ifp, guardA_some, guardV_t, guardV_f, q_f, q_l, q_n, Nat.reduceEqDiff, Nat.reduceAdd, beq_f, nb_t, gK_tt, sz_3, ag_3, fo_31_1, fo_29_0, fo_29_1]
            refine hK34 _ _ ?_
            refine awp_seq_k fun K35 hK35 => ?_
            refine awp_seq_s KT_ok hc rfl fun K36 hK36 => ?_
            simp -dsimp -implicitDefEqProofs (disch := first | assumption | omega | (simp [maxLen, avs_len] <;> omega) | decide) only [sT_move, sT_load, sT_fa, sT_bin, sT_call0, sT_g, oK_some, gK_t, q_o, loadF, fieldAddrF, binF_v, v_neq, ↓reduceIte, q_b, ifp, guardA_some, guardV_f, q_f, q_s, q_l, q_n, Nat.reduceEqDiff, takeD_zero, takeD_cs, Nat.reduceAdd, bne_self_eq_false, nb_t, fo_40_0, fo_29_6, sz_29, ag_29, sz_3, ag_3]
            refine kc_by (show PCalls Try.prog 19 [rolD (heldR r)] (.d (intsD [])) from held_ready (r := r) ▸ ready_v (held_ok hvr g)) rfl ?_
            simp -dsimp -implicitDefEqProofs (disch := first | assumption | omega | (simp [maxLen, avs_len] <;> omega) | decide) only [sT_move, sT_pick, sT_load, sT_fa, sT_bin, sT_len, sT_nil, sT_g, oK_some, gK_t, gK_f, q_o, loadF, fieldAddrF, binF_v, lenF, builtinF, v_eql, v_neq, v_bneq, ↓reduceIte, q_b, ifp, guardA_some, guardV_t, guardV_f, q_f, q_s, q_l, q_n, Nat.reduceEqDiff, intsD, Nat.reduceAdd, bne_self_eq_false, beq_f, bne_f, nb_t, eo_27, fo_40_1, sz_38, ag_38, bt_4]
            refine hK36 _ _ ?_
            refine awp_cond rfl (fun ht => ?_) (fun ht => ?_)
            · cases ht
            · refine awp_skip (hK35 _ _ ?_)
              refine awp_seq_se KT_ok hc mixed rfl (q := 0) (by kernel_rfl) (by kernel_rfl) fun K37 hK37 => ?_
              simp -dsimp -implicitDefEqProofs (disch := first | assumption | omega | (simp [maxLen, avs_len] <;> omega) | decide) only [sE_move, sE_load, sE_fa, sE_bin, sE_call0, oK_some, gK_t, q_o, loadF, fieldAddrF, binF_v, v_eql, ↓reduceIte, q_b, ifp, guardA_some, guardV_t, q_f, q_s, q_l, List.append_nil, List.replicate_zero, q_n, Nat.reduceEqDiff, takeD_zero, takeD_cs, takeD_all, Nat.reduceAdd, sE_gg, beq_self_eq_true, fo_40_1, sz_38, ag_38, fo_40_0, sz_29, ag_29]
              refine kc_by (same_refl hvr.short) rfl ?_
              simp -dsimp -implicitDefEqProofs (disch := first | assumption | omega | (simp [maxLen, avs_len] <;> omega) | decide) only [sE_move, sE_pick, sE_load, sE_fa, sE_call0, oK_some, gK_t, q_o, loadF, fieldAddrF, ↓reduceIte, q_b, ifp, guardA_some, guardV_t, q_f, q_s, q_l, q_n, Nat.reduceEqDiff, takeD_zero, takeD_cs, Nat.reduceAdd, sE_gg, fo_40_0, sz_29, ag_29]
              refine kc_by (ready_v hvr) rfl ?_
              simp -dsimp -implicitDefEqProofs (disch := first | assumption | omega | (simp [maxLen, avs_len] <;> omega) | decide) only [sE_load, sE_call0, oK_some, gK_t, q_o, loadF, ↓reduceIte, q_b, ifp, guardA_some, guardV_t, q_f, q_s, q_l, Nat.reduceEqDiff, takeD_all, intsD, Nat.reduceAdd, sE_gg, sz_29, ag_29]
              refine kc_by (ready_v hvr) rfl ?_
              simp -dsimp -implicitDefEqProofs (disch := first | assumption | omega | (simp [maxLen, avs_len] <;> omega) | decide) only [sE_call0, gK_t, q_o, ↓reduceIte, q_b, guardA_some, guardV_t, q_f, q_s, q_l, Nat.reduceEqDiff, intsD, Nat.reduceAdd, sE_gg]
              refine kc_by (ex_ints (readyG r) (by have := ready_len hvr; omega)) rfl ?_
              simp -dsimp -implicitDefEqProofs (disch := first | assumption | omega | (simp [maxLen, avs_len] <;> omega) | decide) only [sE_move, sE_assign, sE_pick, sE_nil, oK_some, gK_t, q_o, ↓reduceIte, q_b, guardA_some, guardV_t, q_f, q_l, Nat.reduceEqDiff, killAll, Nat.reduceAdd, sE_gg]
              refine hK37 _ _ ?_
              refine awp_ret ?_
              show closeA _ _ = _
              simp (disch := first | assumption | omega | (simp [maxLen, avs_len] <;> omega) | decide) only [closeA, retV, deep_d, Nat.reduceAdd, Nat.zero_add, D.fix, frL_get, ↓reduceIte, Option.map_some, List.length_cons, List.length_nil]
    · have hsee := badP_see hvr hu g (.inr (.inl g2))
      simp -dsimp -implicitDefEqProofs (disch := first | assumption | omega | (simp [maxLen, avs_len] <;> omega) | decide) only [sT_move, sT_pick, sT_load, sT_fa, sT_bin, sT_nil, sT_g, oK_some, q_o, loadF, fieldAddrF, binF_v, v_neq, ↓reduceIte, q_b, ifp, guardA_some, guardV_t, guardV_f, q_f, q_l, q_n, Nat.reduceEqDiff, Nat.reduceAdd, bne_f, nb_t, rep_slk, rep_same, rep_runs, gK_tt, gK_ff, ifb_f, fo_29_6, sz_3, ag_3, fo_31_4, sz_4, ag_4, fo_31_3]
      refine hK11 _ _ ?_
      refine awp_cond rfl (fun ht => ?_) (fun ht => ?_)
      · cases ht
      · refine awp_skip (hK10 _ _ ?_)
        refine awp_seq_s KT_ok hc rfl fun K38 hK38 => ?_
        simp -dsimp -implicitDefEqProofs (disch := first | assumption | omega | (simp [maxLen, avs_len] <;> omega) | decide) only [sT_load, sT_call0, oK_some, q_o, loadF, ↓reduceIte, q_b, ifp, q_f, q_s, q_l, q_n, Nat.reduceEqDiff, takeD_all, Nat.reduceAdd, sz_29, ag_29, sz_31, ag_31]
        refine kc_by (see_v hvr (p := badP r u) (badP_i64 hvr hu) hsee) rfl ?_
        simp -dsimp -implicitDefEqProofs (disch := first | assumption | omega | (simp [maxLen, avs_len] <;> omega) | decide) only [sT_alloc, sT_store, deadH, sT_nil, oK_some, q_o, layF, storeF, ↓reduceIte, q_b, ifp, q_f, q_s, q_l, as_dagg, q_a, D.one, Value.oneCell', q_n, Nat.reduceEqDiff, map_d, avs_nil, avs_cons, iD, intsD, intssD, Nat.reduceAdd, deadH, gotD, heldR, sz_40, za_40]
        refine hK38 _ _ ?_
        refine awp_seq_k fun K39 hK39 => ?_
        refine awp_seq_s KT_ok hc rfl fun K40 hK40 => ?_
        simp -dsimp -implicitDefEqProofs (disch := first | assumption | omega | (simp [maxLen, avs_len] <;> omega) | decide) only [sT_move, sT_load, sT_fa, sT_bin, sT_call0, sT_g, oK_some, gK_t, q_o, loadF, fieldAddrF, binF_v, v_neq, ↓reduceIte, q_b, ifp, guardA_some, guardV_f, q_f, q_s, q_l, q_n, Nat.reduceEqDiff, takeD_zero, takeD_cs, Nat.reduceAdd, bne_self_eq_false, nb_t, fo_40_1, sz_38, ag_38, fo_40_0, sz_29, ag_29]
        refine kc_by (validp_v (held_ok hvr g)) rfl ?_
        simp -dsimp -implicitDefEqProofs (disch := first | assumption | omega | (simp [maxLen, avs_len] <;> omega) | decide) only [sT_pick, sT_un, sT_nil, sT_g, oK_some, gK_t, q_o, u_not, ↓reduceIte, q_b, guardA_some, guardV_f, q_f, q_l, Nat.reduceEqDiff, nb_t, nb_f]
        refine hK40 _ _ ?_
        refine awp_cond rfl (fun ht => ?_) (fun ht => ?_)
        · cases ht
        · refine awp_skip (hK39 _ _ ?_)
          refine awp_seq_s KT_ok hc rfl fun K41 hK41 => ?_
          simp -dsimp -implicitDefEqProofs (disch := first | assumption | omega | (simp [maxLen, avs_len] <;> omega) | decide) only [sT_load, sT_ia, sT_call0, oK_some, q_o, loadF, ixO, indexAddrF, ↓reduceIte, q_b, ifp, q_f, q_s, q_l, q_n, Nat.reduceEqDiff, takeD_cd, takeD_all, Nat.reduceAdd, Int.reduceToNat, Nat.reduceMul, sz_29, ag_29, eo_55, sz_45, ag_45]
          refine kc_by (report_c r v hvr hv) rfl ?_
          simp -dsimp -implicitDefEqProofs (disch := first | assumption | omega | (simp [maxLen, avs_len] <;> omega) | decide) only [sT_alloc, sT_store, deadH, sT_nil, oK_some, q_o, layF, storeF, ↓reduceIte, q_b, ifp, q_f, q_s, q_l, as_dagg, q_a, D.one, Value.oneCell', q_n, Nat.reduceEqDiff, map_d, avs_nil, avs_cons, iD, oD, Nat.reduceAdd, deadH, repD, repC, sz_31, za_31]
          refine hK41 _ _ ?_
          refine awp_seq_s KT_ok hc rfl fun K42 hK42 => ?_
          rcases (show inB (reportR r v).chip (allC r) = false ∨ (inB (reportR r v).chip (allC r) = true ∧ (reportR r v).no = r.frm) ∨ ((inB (reportR r v).chip (allC r) = true ∧ (reportR r v).no ≠ r.frm) ∧ (reportR r v).no = r.to) ∨ ((inB (reportR r v).chip (allC r) = true ∧ (reportR r v).no ≠ r.frm) ∧ (reportR r v).no ≠ r.to) from by cases inB (reportR r v).chip (allC r) <;> simp <;> omega) with k1 | ⟨k1, k2⟩ | ⟨⟨k1, k2⟩, k3⟩ | ⟨⟨k1, k2⟩, k3⟩
          · have hs2 : seeG (heldR r) (reportR r v) = (noRol, 510) := see_bad (.inl (by rw [inB_allC, decide_eq_false_iff_not, Decidable.not_not] at k1; exact k1))
            simp -dsimp -implicitDefEqProofs (disch := first | assumption | omega | (simp [maxLen, avs_len] <;> omega) | decide) only [sT_load, sT_fa, sT_call0, oK_some, q_o, loadF, fieldAddrF, ↓reduceIte, q_b, ifp, q_f, q_s, q_l, q_n, Nat.reduceEqDiff, takeD_zero, takeD_cs, takeD_all, Nat.reduceAdd, fo_40_0, sz_29, ag_29, sz_31, ag_31]
            refine kc_by (see_v (held_ok hvr g) (p := reportR r v) (rep_i64 hvr hv) hs2) rfl ?_
            simp -dsimp -implicitDefEqProofs (disch := first | assumption | omega | (simp [maxLen, avs_len] <;> omega) | decide) only [sT_alloc, sT_store, deadH, sT_nil, oK_some, q_o, layF, storeF, ↓reduceIte, q_b, ifp, q_f, q_s, q_l, as_dagg, q_a, D.one, Value.oneCell', q_n, Nat.reduceEqDiff, map_d, avs_nil, avs_cons, iD, intsD, intssD, Nat.reduceAdd, deadH, gotD, noRol, sz_40, za_40]
            refine hK42 _ _ ?_
            refine awp_seq_s KT_ok hc rfl fun K43 hK43 => ?_
            simp -dsimp -implicitDefEqProofs (disch := first | assumption | omega | (simp [maxLen, avs_len] <;> omega) | decide) only [sT_load, sT_fa, sT_call0, oK_some, q_o, loadF, fieldAddrF, ↓reduceIte, q_b, ifp, q_f, q_s, q_l, q_n, Nat.reduceEqDiff, takeD_zero, takeD_cs, Nat.reduceAdd, fo_40_0, sz_29, ag_29]
            refine kc_by (ex_resume (held_resume g)) rfl ?_
            simp -dsimp -implicitDefEqProofs (disch := first | assumption | omega | (simp [maxLen, avs_len] <;> omega) | decide) only [sT_alloc, sT_store, deadH, sT_nil, oK_some, q_o, layF, storeF, ↓reduceIte, q_b, ifp, q_f, q_s, q_l, as_dagg, q_a, D.one, Value.oneCell', q_n, Nat.reduceEqDiff, map_d, avs_nil, avs_cons, iD, intsD, intssD, Nat.reduceAdd, deadH, gotD, sz_40, za_40]
            refine hK43 _ _ ?_
            refine awp_seq_s KT_ok hc rfl fun K44 hK44 => ?_
            simp -dsimp -implicitDefEqProofs (disch := first | assumption | omega | (simp [maxLen, avs_len] <;> omega) | decide) only [sT_move, sT_load, sT_fa, sT_call0, oK_some, loadF, fieldAddrF, ↓reduceIte, q_b, ifp, q_f, q_s, q_l, q_n, Nat.reduceEqDiff, Nat.reduceAdd, fo_31_0, sz_3, ag_3]
            refine kc_by (in_c (allC r) (reportR r v).chip (by omega)) rfl ?_
            simp -dsimp -implicitDefEqProofs (disch := first | assumption | omega | (simp [maxLen, avs_len] <;> omega) | decide) only [sT_move, sT_assign, sT_pick, sT_nil, sT_g, oK_some, q_o, ↓reduceIte, q_b, guardA_some, guardV_t, guardV_u, q_f, q_l, Nat.reduceEqDiff, gK_ff, ifb_f]
            refine hK44 _ _ ?_
            refine awp_seq_k fun K45 hK45 => ?_
            refine awp_seq_s KT_ok hc rfl fun K46 hK46 => ?_
            simp -dsimp -implicitDefEqProofs (disch := first | assumption | omega | (simp [maxLen, avs_len] <;> omega) | decide) only [sT_move, sT_load, sT_fa, sT_bin, sT_call0, sT_g, oK_some, gK_t, q_o, loadF, fieldAddrF, binF_v, v_neq, ↓reduceIte, q_b, ifp, guardA_some, guardV_f, q_f, q_s, q_l, q_n, Nat.reduceEqDiff, takeD_zero, takeD_cs, Nat.reduceAdd, bne_self_eq_false, nb_t, fo_40_0, fo_29_6, sz_29, ag_29, sz_3, ag_3]
            refine kc_by (show PCalls Try.prog 19 [rolD (heldR r)] (.d (intsD [])) from held_ready (r := r) ▸ ready_v (held_ok hvr g)) rfl ?_
            simp -dsimp -implicitDefEqProofs (disch := first | assumption | omega | (simp [maxLen, avs_len] <;> omega) | decide) only [sT_move, sT_pick, sT_load, sT_fa, sT_bin, sT_len, sT_nil, sT_g, oK_some, gK_t, gK_f, q_o, loadF, fieldAddrF, binF_v, lenF, builtinF, v_eql, v_neq, v_bneq, ↓reduceIte, q_b, ifp, guardA_some, guardV_t, guardV_f, q_f, q_s, q_l, q_n, Nat.reduceEqDiff, intsD, Nat.reduceAdd, bne_self_eq_false, beq_f, bne_f, nb_t, eo_27, fo_40_1, sz_38, ag_38, bt_4]
            refine hK46 _ _ ?_
            refine awp_cond rfl (fun ht => ?_) (fun ht => ?_)
            · cases ht
            · refine awp_skip (hK45 _ _ ?_)
              refine awp_seq_se KT_ok hc mixed rfl (q := 0) (by kernel_rfl) (by kernel_rfl) fun K47 hK47 => ?_
              simp -dsimp -implicitDefEqProofs (disch := first | assumption | omega | (simp [maxLen, avs_len] <;> omega) | decide) only [sE_move, sE_load, sE_fa, sE_bin, sE_call0, oK_some, gK_t, q_o, loadF, fieldAddrF, binF_v, v_eql, ↓reduceIte, q_b, ifp, guardA_some, guardV_t, q_f, q_s, q_l, List.append_nil, List.replicate_zero, q_n, Nat.reduceEqDiff, takeD_zero, takeD_cs, takeD_all, Nat.reduceAdd, sE_gg, beq_self_eq_true, fo_40_1, sz_38, ag_38, fo_40_0, sz_29, ag_29]
              refine kc_by (same_refl hvr.short) rfl ?_
              simp -dsimp -implicitDefEqProofs (disch := first | assumption | omega | (simp [maxLen, avs_len] <;> omega) | decide) only [sE_move, sE_pick, sE_load, sE_fa, sE_call0, oK_some, gK_t, q_o, loadF, fieldAddrF, ↓reduceIte, q_b, ifp, guardA_some, guardV_t, q_f, q_s, q_l, q_n, Nat.reduceEqDiff, takeD_zero, takeD_cs, Nat.reduceAdd, sE_gg, fo_40_0, sz_29, ag_29]
              refine kc_by (ready_v hvr) rfl ?_
              simp -dsimp -implicitDefEqProofs (disch := first | assumption | omega | (simp [maxLen, avs_len] <;> omega) | decide) only [sE_load, sE_call0, oK_some, gK_t, q_o, loadF, ↓reduceIte, q_b, ifp, guardA_some, guardV_t, q_f, q_s, q_l, Nat.reduceEqDiff, takeD_all, intsD, Nat.reduceAdd, sE_gg, sz_29, ag_29]
              refine kc_by (ready_v hvr) rfl ?_
              simp -dsimp -implicitDefEqProofs (disch := first | assumption | omega | (simp [maxLen, avs_len] <;> omega) | decide) only [sE_call0, gK_t, q_o, ↓reduceIte, q_b, guardA_some, guardV_t, q_f, q_s, q_l, Nat.reduceEqDiff, intsD, Nat.reduceAdd, sE_gg]
              refine kc_by (ex_ints (readyG r) (by have := ready_len hvr; omega)) rfl ?_
              simp -dsimp -implicitDefEqProofs (disch := first | assumption | omega | (simp [maxLen, avs_len] <;> omega) | decide) only [sE_move, sE_assign, sE_pick, sE_nil, oK_some, gK_t, q_o, ↓reduceIte, q_b, guardA_some, guardV_t, q_f, q_l, Nat.reduceEqDiff, killAll, Nat.reduceAdd, sE_gg]
              refine hK47 _ _ ?_
              refine awp_ret ?_
              show closeA _ _ = _
              simp (disch := first | assumption | omega | (simp [maxLen, avs_len] <;> omega) | decide) only [closeA, retV, deep_d, Nat.reduceAdd, Nat.zero_add, D.fix, frL_get, ↓reduceIte, Option.map_some, List.length_cons, List.length_nil]
          · have hs2 : seeG (heldR r) (reportR r v) = (heldR r, 0) := held_see (by
              rw [inB_allC, decide_eq_true_eq] at k1
              rintro (h | ⟨h, _⟩)
              · exact k1 h
              · exact h k2)
            simp -dsimp -implicitDefEqProofs (disch := first | assumption | omega | (simp [maxLen, avs_len] <;> omega) | decide) only [sT_load, sT_fa, sT_call0, oK_some, q_o, loadF, fieldAddrF, ↓reduceIte, q_b, ifp, q_f, q_s, q_l, q_n, Nat.reduceEqDiff, takeD_zero, takeD_cs, takeD_all, Nat.reduceAdd, fo_40_0, sz_29, ag_29, sz_31, ag_31]
            refine kc_by (see_v (held_ok hvr g) (p := reportR r v) (rep_i64 hvr hv) hs2) rfl ?_
            simp -dsimp -implicitDefEqProofs (disch := first | assumption | omega | (simp [maxLen, avs_len] <;> omega) | decide) only [sT_alloc, sT_store, deadH, sT_nil, oK_some, q_o, layF, storeF, ↓reduceIte, q_b, ifp, q_f, q_s, q_l, as_dagg, q_a, D.one, Value.oneCell', q_n, Nat.reduceEqDiff, map_d, avs_nil, avs_cons, iD, intsD, intssD, Nat.reduceAdd, deadH, gotD, heldR, sz_40, za_40]
            refine hK42 _ _ ?_
            refine awp_seq_s KT_ok hc rfl fun K48 hK48 => ?_
            simp -dsimp -implicitDefEqProofs (disch := first | assumption | omega | (simp [maxLen, avs_len] <;> omega) | decide) only [sT_load, sT_fa, sT_call0, oK_some, q_o, loadF, fieldAddrF, ↓reduceIte, q_b, ifp, q_f, q_s, q_l, q_n, Nat.reduceEqDiff, takeD_zero, takeD_cs, Nat.reduceAdd, fo_40_0, sz_29, ag_29]
            refine kc_by (ex_resume (held_resume g)) rfl ?_
            simp -dsimp -implicitDefEqProofs (disch := first | assumption | omega | (simp [maxLen, avs_len] <;> omega) | decide) only [sT_alloc, sT_store, deadH, sT_nil, oK_some, q_o, layF, storeF, ↓reduceIte, q_b, ifp, q_f, q_s, q_l, as_dagg, q_a, D.one, Value.oneCell', q_n, Nat.reduceEqDiff, map_d, avs_nil, avs_cons, iD, intsD, intssD, Nat.reduceAdd, deadH, gotD, sz_40, za_40]
            refine hK48 _ _ ?_
            refine awp_seq_s KT_ok hc rfl fun K49 hK49 => ?_
            simp -dsimp -implicitDefEqProofs (disch := first | assumption | omega | (simp [maxLen, avs_len] <;> omega) | decide) only [sT_move, sT_load, sT_fa, sT_call0, oK_some, loadF, fieldAddrF, ↓reduceIte, q_b, ifp, q_f, q_s, q_l, q_n, Nat.reduceEqDiff, Nat.reduceAdd, fo_31_0, sz_3, ag_3]
            refine kc_by (in_c (allC r) (reportR r v).chip (by omega)) rfl ?_
            simp -dsimp -implicitDefEqProofs (disch := first | assumption | omega | (simp [maxLen, avs_len] <;> omega) | decide) only [sT_move, sT_assign, sT_pick, sT_load, sT_fa, sT_bin, sT_nil, sT_g, oK_some, q_o, loadF, fieldAddrF, binF_v, v_eql, ↓reduceIte, q_b, ifp, guardA_some, guardV_t, guardV_f, q_f, q_l, q_n, Nat.reduceEqDiff, Nat.reduceAdd, beq_t, nb_f, gK_tt, gK_ff, sz_3, ag_3, fo_31_1, fo_29_0]
            refine hK49 _ _ ?_
            refine awp_seq_k fun K50 hK50 => ?_
            refine awp_seq_s KT_ok hc rfl fun K51 hK51 => ?_
            simp -dsimp -implicitDefEqProofs (disch := first | assumption | omega | (simp [maxLen, avs_len] <;> omega) | decide) only [sT_move, sT_load, sT_fa, sT_bin, sT_call0, sT_g, oK_some, gK_t, q_o, loadF, fieldAddrF, binF_v, v_neq, ↓reduceIte, q_b, ifp, guardA_some, guardV_f, q_f, q_s, q_l, q_n, Nat.reduceEqDiff, takeD_zero, takeD_cs, Nat.reduceAdd, bne_self_eq_false, nb_t, fo_40_0, fo_29_6, sz_29, ag_29, sz_3, ag_3]
            refine kc_by (show PCalls Try.prog 19 [rolD (heldR r)] (.d (intsD [])) from held_ready (r := r) ▸ ready_v (held_ok hvr g)) rfl ?_
            simp -dsimp -implicitDefEqProofs (disch := first | assumption | omega | (simp [maxLen, avs_len] <;> omega) | decide) only [sT_move, sT_pick, sT_load, sT_fa, sT_bin, sT_len, sT_call0, sT_g, oK_some, gK_t, q_o, loadF, fieldAddrF, binF_v, lenF, builtinF, v_eql, v_neq, v_bneq, ↓reduceIte, q_b, ifp, guardA_some, guardV_t, guardV_f, q_f, q_s, q_l, q_n, Nat.reduceEqDiff, takeD_zero, takeD_cs, intsD, Nat.reduceAdd, bne_self_eq_false, beq_self_eq_true, bne_f, nb_t, fo_40_0, sz_29, ag_29, eo_27, fo_40_1, sz_38, ag_38, bt_4]
            refine kc_by (same_refl (held_ok hvr g).short) rfl ?_
            simp -dsimp -implicitDefEqProofs (disch := first | assumption | omega | (simp [maxLen, avs_len] <;> omega) | decide) only [sT_pick, sT_un, sT_nil, sT_g, oK_some, gK_t, q_o, u_not, ↓reduceIte, q_b, guardA_some, guardV_t, guardV_f, q_f, q_l, Nat.reduceEqDiff, nb_t, nb_f]
            refine hK51 _ _ ?_
            refine awp_cond rfl (fun ht => ?_) (fun ht => ?_)
            · cases ht
            · refine awp_skip (hK50 _ _ ?_)
              refine awp_seq_se KT_ok hc mixed rfl (q := 0) (by kernel_rfl) (by kernel_rfl) fun K52 hK52 => ?_
              simp -dsimp -implicitDefEqProofs (disch := first | assumption | omega | (simp [maxLen, avs_len] <;> omega) | decide) only [sE_move, sE_load, sE_fa, sE_bin, sE_call0, oK_some, gK_t, q_o, loadF, fieldAddrF, binF_v, v_eql, ↓reduceIte, q_b, ifp, guardA_some, guardV_t, q_f, q_s, q_l, List.append_nil, List.replicate_zero, q_n, Nat.reduceEqDiff, takeD_zero, takeD_cs, takeD_all, Nat.reduceAdd, sE_gg, beq_self_eq_true, fo_40_1, sz_38, ag_38, fo_40_0, sz_29, ag_29]
              refine kc_by (same_refl hvr.short) rfl ?_
              simp -dsimp -implicitDefEqProofs (disch := first | assumption | omega | (simp [maxLen, avs_len] <;> omega) | decide) only [sE_move, sE_pick, sE_load, sE_fa, sE_call0, oK_some, gK_t, q_o, loadF, fieldAddrF, ↓reduceIte, q_b, ifp, guardA_some, guardV_t, q_f, q_s, q_l, q_n, Nat.reduceEqDiff, takeD_zero, takeD_cs, Nat.reduceAdd, sE_gg, fo_40_0, sz_29, ag_29]
              refine kc_by (ready_v hvr) rfl ?_
              simp -dsimp -implicitDefEqProofs (disch := first | assumption | omega | (simp [maxLen, avs_len] <;> omega) | decide) only [sE_load, sE_call0, oK_some, gK_t, q_o, loadF, ↓reduceIte, q_b, ifp, guardA_some, guardV_t, q_f, q_s, q_l, Nat.reduceEqDiff, takeD_all, intsD, Nat.reduceAdd, sE_gg, sz_29, ag_29]
              refine kc_by (ready_v hvr) rfl ?_
              simp -dsimp -implicitDefEqProofs (disch := first | assumption | omega | (simp [maxLen, avs_len] <;> omega) | decide) only [sE_call0, gK_t, q_o, ↓reduceIte, q_b, guardA_some, guardV_t, q_f, q_s, q_l, Nat.reduceEqDiff, intsD, Nat.reduceAdd, sE_gg]
              refine kc_by (ex_ints (readyG r) (by have := ready_len hvr; omega)) rfl ?_
              simp -dsimp -implicitDefEqProofs (disch := first | assumption | omega | (simp [maxLen, avs_len] <;> omega) | decide) only [sE_move, sE_assign, sE_pick, sE_nil, oK_some, gK_t, q_o, ↓reduceIte, q_b, guardA_some, guardV_t, q_f, q_l, Nat.reduceEqDiff, killAll, Nat.reduceAdd, sE_gg]
              refine hK52 _ _ ?_
              refine awp_ret ?_
              show closeA _ _ = _
              simp (disch := first | assumption | omega | (simp [maxLen, avs_len] <;> omega) | decide) only [closeA, retV, deep_d, Nat.reduceAdd, Nat.zero_add, D.fix, frL_get, ↓reduceIte, Option.map_some, List.length_cons, List.length_nil]
          · have hs2 : seeG (heldR r) (reportR r v) = (heldR r, 0) := held_see (by
              rw [inB_allC, decide_eq_true_eq] at k1
              rintro (h | ⟨_, h⟩)
              · exact k1 h
              · exact h k3)
            simp -dsimp -implicitDefEqProofs (disch := first | assumption | omega | (simp [maxLen, avs_len] <;> omega) | decide) only [sT_load, sT_fa, sT_call0, oK_some, q_o, loadF, fieldAddrF, ↓reduceIte, q_b, ifp, q_f, q_s, q_l, q_n, Nat.reduceEqDiff, takeD_zero, takeD_cs, takeD_all, Nat.reduceAdd, fo_40_0, sz_29, ag_29, sz_31, ag_31]
            refine kc_by (see_v (held_ok hvr g) (p := reportR r v) (rep_i64 hvr hv) hs2) rfl ?_
            simp -dsimp -implicitDefEqProofs (disch := first | assumption | omega | (simp [maxLen, avs_len] <;> omega) | decide) only [sT_alloc, sT_store, deadH, sT_nil, oK_some, q_o, layF, storeF, ↓reduceIte, q_b, ifp, q_f, q_s, q_l, as_dagg, q_a, D.one, Value.oneCell', q_n, Nat.reduceEqDiff, map_d, avs_nil, avs_cons, iD, intsD, intssD, Nat.reduceAdd, deadH, gotD, heldR, sz_40, za_40]
            refine hK42 _ _ ?_
            refine awp_seq_s KT_ok hc rfl fun K53 hK53 => ?_
            simp -dsimp -implicitDefEqProofs (disch := first | assumption | omega | (simp [maxLen, avs_len] <;> omega) | decide) only [sT_load, sT_fa, sT_call0, oK_some, q_o, loadF, fieldAddrF, ↓reduceIte, q_b, ifp, q_f, q_s, q_l, q_n, Nat.reduceEqDiff, takeD_zero, takeD_cs, Nat.reduceAdd, fo_40_0, sz_29, ag_29]
            refine kc_by (ex_resume (held_resume g)) rfl ?_
            simp -dsimp -implicitDefEqProofs (disch := first | assumption | omega | (simp [maxLen, avs_len] <;> omega) | decide) only [sT_alloc, sT_store, deadH, sT_nil, oK_some, q_o, layF, storeF, ↓reduceIte, q_b, ifp, q_f, q_s, q_l, as_dagg, q_a, D.one, Value.oneCell', q_n, Nat.reduceEqDiff, map_d, avs_nil, avs_cons, iD, intsD, intssD, Nat.reduceAdd, deadH, gotD, sz_40, za_40]
            refine hK53 _ _ ?_
            refine awp_seq_s KT_ok hc rfl fun K54 hK54 => ?_
            simp -dsimp -implicitDefEqProofs (disch := first | assumption | omega | (simp [maxLen, avs_len] <;> omega) | decide) only [sT_move, sT_load, sT_fa, sT_call0, oK_some, loadF, fieldAddrF, ↓reduceIte, q_b, ifp, q_f, q_s, q_l, q_n, Nat.reduceEqDiff, Nat.reduceAdd, fo_31_0, sz_3, ag_3]
            refine kc_by (in_c (allC r) (reportR r v).chip (by omega)) rfl ?_
            simp -dsimp -implicitDefEqProofs (disch := first | assumption | omega | (simp [maxLen, avs_len] <;> omega) | decide) only [sT_move, sT_assign, sT_pick, sT_load, sT_fa, sT_bin, sT_nil, sT_g, oK_some, q_o, loadF, fieldAddrF, binF_v, v_eql, ↓reduceIte, q_b, ifp, guardA_some, guardV_t, guardV_f, q_f, q_l, q_n, Nat.reduceEqDiff, Nat.reduceAdd, beq_t, beq_f, nb_t, gK_tt, sz_3, ag_3, fo_31_1, fo_29_0, fo_29_1]
            refine hK54 _ _ ?_
            refine awp_seq_k fun K55 hK55 => ?_
            refine awp_seq_s KT_ok hc rfl fun K56 hK56 => ?_
            simp -dsimp -implicitDefEqProofs (disch := first | assumption | omega | (simp [maxLen, avs_len] <;> omega) | decide) only [sT_move, sT_load, sT_fa, sT_bin, sT_call0, sT_g, oK_some, gK_t, q_o, loadF, fieldAddrF, binF_v, v_neq, ↓reduceIte, q_b, ifp, guardA_some, guardV_f, q_f, q_s, q_l, q_n, Nat.reduceEqDiff, takeD_zero, takeD_cs, Nat.reduceAdd, bne_self_eq_false, nb_t, fo_40_0, fo_29_6, sz_29, ag_29, sz_3, ag_3]
            refine kc_by (show PCalls Try.prog 19 [rolD (heldR r)] (.d (intsD [])) from held_ready (r := r) ▸ ready_v (held_ok hvr g)) rfl ?_
            simp -dsimp -implicitDefEqProofs (disch := first | assumption | omega | (simp [maxLen, avs_len] <;> omega) | decide) only [sT_move, sT_pick, sT_load, sT_fa, sT_bin, sT_len, sT_call0, sT_g, oK_some, gK_t, q_o, loadF, fieldAddrF, binF_v, lenF, builtinF, v_eql, v_neq, v_bneq, ↓reduceIte, q_b, ifp, guardA_some, guardV_t, guardV_f, q_f, q_s, q_l, q_n, Nat.reduceEqDiff, takeD_zero, takeD_cs, intsD, Nat.reduceAdd, bne_self_eq_false, beq_self_eq_true, bne_f, nb_t, fo_40_0, sz_29, ag_29, eo_27, fo_40_1, sz_38, ag_38, bt_4]
            refine kc_by (same_refl (held_ok hvr g).short) rfl ?_
            simp -dsimp -implicitDefEqProofs (disch := first | assumption | omega | (simp [maxLen, avs_len] <;> omega) | decide) only [sT_pick, sT_un, sT_nil, sT_g, oK_some, gK_t, q_o, u_not, ↓reduceIte, q_b, guardA_some, guardV_t, guardV_f, q_f, q_l, Nat.reduceEqDiff, nb_t, nb_f]
            refine hK56 _ _ ?_
            refine awp_cond rfl (fun ht => ?_) (fun ht => ?_)
            · cases ht
            · refine awp_skip (hK55 _ _ ?_)
              refine awp_seq_se KT_ok hc mixed rfl (q := 0) (by kernel_rfl) (by kernel_rfl) fun K57 hK57 => ?_
              simp -dsimp -implicitDefEqProofs (disch := first | assumption | omega | (simp [maxLen, avs_len] <;> omega) | decide) only [sE_move, sE_load, sE_fa, sE_bin, sE_call0, oK_some, gK_t, q_o, loadF, fieldAddrF, binF_v, v_eql, ↓reduceIte, q_b, ifp, guardA_some, guardV_t, q_f, q_s, q_l, List.append_nil, List.replicate_zero, q_n, Nat.reduceEqDiff, takeD_zero, takeD_cs, takeD_all, Nat.reduceAdd, sE_gg, beq_self_eq_true, fo_40_1, sz_38, ag_38, fo_40_0, sz_29, ag_29]
              refine kc_by (same_refl hvr.short) rfl ?_
              simp -dsimp -implicitDefEqProofs (disch := first | assumption | omega | (simp [maxLen, avs_len] <;> omega) | decide) only [sE_move, sE_pick, sE_load, sE_fa, sE_call0, oK_some, gK_t, q_o, loadF, fieldAddrF, ↓reduceIte, q_b, ifp, guardA_some, guardV_t, q_f, q_s, q_l, q_n, Nat.reduceEqDiff, takeD_zero, takeD_cs, Nat.reduceAdd, sE_gg, fo_40_0, sz_29, ag_29]
              refine kc_by (ready_v hvr) rfl ?_
              simp -dsimp -implicitDefEqProofs (disch := first | assumption | omega | (simp [maxLen, avs_len] <;> omega) | decide) only [sE_load, sE_call0, oK_some, gK_t, q_o, loadF, ↓reduceIte, q_b, ifp, guardA_some, guardV_t, q_f, q_s, q_l, Nat.reduceEqDiff, takeD_all, intsD, Nat.reduceAdd, sE_gg, sz_29, ag_29]
              refine kc_by (ready_v hvr) rfl ?_
              simp -dsimp -implicitDefEqProofs (disch := first | assumption | omega | (simp [maxLen, avs_len] <;> omega) | decide) only [sE_call0, gK_t, q_o, ↓reduceIte, q_b, guardA_some, guardV_t, q_f, q_s, q_l, Nat.reduceEqDiff, intsD, Nat.reduceAdd, sE_gg]
              refine kc_by (ex_ints (readyG r) (by have := ready_len hvr; omega)) rfl ?_
              simp -dsimp -implicitDefEqProofs (disch := first | assumption | omega | (simp [maxLen, avs_len] <;> omega) | decide) only [sE_move, sE_assign, sE_pick, sE_nil, oK_some, gK_t, q_o, ↓reduceIte, q_b, guardA_some, guardV_t, q_f, q_l, Nat.reduceEqDiff, killAll, Nat.reduceAdd, sE_gg]
              refine hK57 _ _ ?_
              refine awp_ret ?_
              show closeA _ _ = _
              simp (disch := first | assumption | omega | (simp [maxLen, avs_len] <;> omega) | decide) only [closeA, retV, deep_d, Nat.reduceAdd, Nat.zero_add, D.fix, frL_get, ↓reduceIte, Option.map_some, List.length_cons, List.length_nil]
          · have hs2 : seeG (heldR r) (reportR r v) = (noRol, 510) := see_bad (.inr ⟨k2, k3⟩)
            simp -dsimp -implicitDefEqProofs (disch := first | assumption | omega | (simp [maxLen, avs_len] <;> omega) | decide) only [sT_load, sT_fa, sT_call0, oK_some, q_o, loadF, fieldAddrF, ↓reduceIte, q_b, ifp, q_f, q_s, q_l, q_n, Nat.reduceEqDiff, takeD_zero, takeD_cs, takeD_all, Nat.reduceAdd, fo_40_0, sz_29, ag_29, sz_31, ag_31]
            refine kc_by (see_v (held_ok hvr g) (p := reportR r v) (rep_i64 hvr hv) hs2) rfl ?_
            simp -dsimp -implicitDefEqProofs (disch := first | assumption | omega | (simp [maxLen, avs_len] <;> omega) | decide) only [sT_alloc, sT_store, deadH, sT_nil, oK_some, q_o, layF, storeF, ↓reduceIte, q_b, ifp, q_f, q_s, q_l, as_dagg, q_a, D.one, Value.oneCell', q_n, Nat.reduceEqDiff, map_d, avs_nil, avs_cons, iD, intsD, intssD, Nat.reduceAdd, deadH, gotD, noRol, sz_40, za_40]
            refine hK42 _ _ ?_
            refine awp_seq_s KT_ok hc rfl fun K58 hK58 => ?_
            simp -dsimp -implicitDefEqProofs (disch := first | assumption | omega | (simp [maxLen, avs_len] <;> omega) | decide) only [sT_load, sT_fa, sT_call0, oK_some, q_o, loadF, fieldAddrF, ↓reduceIte, q_b, ifp, q_f, q_s, q_l, q_n, Nat.reduceEqDiff, takeD_zero, takeD_cs, Nat.reduceAdd, fo_40_0, sz_29, ag_29]
            refine kc_by (ex_resume (held_resume g)) rfl ?_
            simp -dsimp -implicitDefEqProofs (disch := first | assumption | omega | (simp [maxLen, avs_len] <;> omega) | decide) only [sT_alloc, sT_store, deadH, sT_nil, oK_some, q_o, layF, storeF, ↓reduceIte, q_b, ifp, q_f, q_s, q_l, as_dagg, q_a, D.one, Value.oneCell', q_n, Nat.reduceEqDiff, map_d, avs_nil, avs_cons, iD, intsD, intssD, Nat.reduceAdd, deadH, gotD, sz_40, za_40]
            refine hK58 _ _ ?_
            refine awp_seq_s KT_ok hc rfl fun K59 hK59 => ?_
            simp -dsimp -implicitDefEqProofs (disch := first | assumption | omega | (simp [maxLen, avs_len] <;> omega) | decide) only [sT_move, sT_load, sT_fa, sT_call0, oK_some, loadF, fieldAddrF, ↓reduceIte, q_b, ifp, q_f, q_s, q_l, q_n, Nat.reduceEqDiff, Nat.reduceAdd, fo_31_0, sz_3, ag_3]
            refine kc_by (in_c (allC r) (reportR r v).chip (by omega)) rfl ?_
            simp -dsimp -implicitDefEqProofs (disch := first | assumption | omega | (simp [maxLen, avs_len] <;> omega) | decide) only [sT_move, sT_assign, sT_pick, sT_load, sT_fa, sT_bin, sT_nil, sT_g, oK_some, q_o, loadF, fieldAddrF, binF_v, v_eql, ↓reduceIte, q_b, ifp, guardA_some, guardV_t, guardV_f, q_f, q_l, q_n, Nat.reduceEqDiff, Nat.reduceAdd, beq_f, nb_t, gK_tt, sz_3, ag_3, fo_31_1, fo_29_0, fo_29_1]
            refine hK59 _ _ ?_
            refine awp_seq_k fun K60 hK60 => ?_
            refine awp_seq_s KT_ok hc rfl fun K61 hK61 => ?_
            simp -dsimp -implicitDefEqProofs (disch := first | assumption | omega | (simp [maxLen, avs_len] <;> omega) | decide) only [sT_move, sT_load, sT_fa, sT_bin, sT_call0, sT_g, oK_some, gK_t, q_o, loadF, fieldAddrF, binF_v, v_neq, ↓reduceIte, q_b, ifp, guardA_some, guardV_f, q_f, q_s, q_l, q_n, Nat.reduceEqDiff, takeD_zero, takeD_cs, Nat.reduceAdd, bne_self_eq_false, nb_t, fo_40_0, fo_29_6, sz_29, ag_29, sz_3, ag_3]
            refine kc_by (show PCalls Try.prog 19 [rolD (heldR r)] (.d (intsD [])) from held_ready (r := r) ▸ ready_v (held_ok hvr g)) rfl ?_
            simp -dsimp -implicitDefEqProofs (disch := first | assumption | omega | (simp [maxLen, avs_len] <;> omega) | decide) only [sT_move, sT_pick, sT_load, sT_fa, sT_bin, sT_len, sT_nil, sT_g, oK_some, gK_t, gK_f, q_o, loadF, fieldAddrF, binF_v, lenF, builtinF, v_eql, v_neq, v_bneq, ↓reduceIte, q_b, ifp, guardA_some, guardV_t, guardV_f, q_f, q_s, q_l, q_n, Nat.reduceEqDiff, intsD, Nat.reduceAdd, bne_self_eq_false, beq_f, bne_f, nb_t, eo_27, fo_40_1, sz_38, ag_38, bt_4]
            refine hK61 _ _ ?_
            refine awp_cond rfl (fun ht => ?_) (fun ht => ?_)
            · cases ht
            · refine awp_skip (hK60 _ _ ?_)
              refine awp_seq_se KT_ok hc mixed rfl (q := 0) (by kernel_rfl) (by kernel_rfl) fun K62 hK62 => ?_
              simp -dsimp -implicitDefEqProofs (disch := first | assumption | omega | (simp [maxLen, avs_len] <;> omega) | decide) only [sE_move, sE_load, sE_fa, sE_bin, sE_call0, oK_some, gK_t, q_o, loadF, fieldAddrF, binF_v, v_eql, ↓reduceIte, q_b, ifp, guardA_some, guardV_t, q_f, q_s, q_l, List.append_nil, List.replicate_zero, q_n, Nat.reduceEqDiff, takeD_zero, takeD_cs, takeD_all, Nat.reduceAdd, sE_gg, beq_self_eq_true, fo_40_1, sz_38, ag_38, fo_40_0, sz_29, ag_29]
              refine kc_by (same_refl hvr.short) rfl ?_
              simp -dsimp -implicitDefEqProofs (disch := first | assumption | omega | (simp [maxLen, avs_len] <;> omega) | decide) only [sE_move, sE_pick, sE_load, sE_fa, sE_call0, oK_some, gK_t, q_o, loadF, fieldAddrF, ↓reduceIte, q_b, ifp, guardA_some, guardV_t, q_f, q_s, q_l, q_n, Nat.reduceEqDiff, takeD_zero, takeD_cs, Nat.reduceAdd, sE_gg, fo_40_0, sz_29, ag_29]
              refine kc_by (ready_v hvr) rfl ?_
              simp -dsimp -implicitDefEqProofs (disch := first | assumption | omega | (simp [maxLen, avs_len] <;> omega) | decide) only [sE_load, sE_call0, oK_some, gK_t, q_o, loadF, ↓reduceIte, q_b, ifp, guardA_some, guardV_t, q_f, q_s, q_l, Nat.reduceEqDiff, takeD_all, intsD, Nat.reduceAdd, sE_gg, sz_29, ag_29]
              refine kc_by (ready_v hvr) rfl ?_
              simp -dsimp -implicitDefEqProofs (disch := first | assumption | omega | (simp [maxLen, avs_len] <;> omega) | decide) only [sE_call0, gK_t, q_o, ↓reduceIte, q_b, guardA_some, guardV_t, q_f, q_s, q_l, Nat.reduceEqDiff, intsD, Nat.reduceAdd, sE_gg]
              refine kc_by (ex_ints (readyG r) (by have := ready_len hvr; omega)) rfl ?_
              simp -dsimp -implicitDefEqProofs (disch := first | assumption | omega | (simp [maxLen, avs_len] <;> omega) | decide) only [sE_move, sE_assign, sE_pick, sE_nil, oK_some, gK_t, q_o, ↓reduceIte, q_b, guardA_some, guardV_t, q_f, q_l, Nat.reduceEqDiff, killAll, Nat.reduceAdd, sE_gg]
              refine hK62 _ _ ?_
              refine awp_ret ?_
              show closeA _ _ = _
              simp (disch := first | assumption | omega | (simp [maxLen, avs_len] <;> omega) | decide) only [closeA, retV, deep_d, Nat.reduceAdd, Nat.zero_add, D.fix, frL_get, ↓reduceIte, Option.map_some, List.length_cons, List.length_nil]
    · have hsee := badP_see hvr hu g (.inr (.inr g3))
      simp -dsimp -implicitDefEqProofs (disch := first | assumption | omega | (simp [maxLen, avs_len] <;> omega) | decide) only [sT_move, sT_pick, sT_load, sT_fa, sT_bin, sT_nil, sT_g, oK_some, q_o, loadF, fieldAddrF, binF_v, v_neq, v_geq, ↓reduceIte, q_b, ifp, guardA_some, guardV_t, guardV_f, q_f, q_l, q_n, Nat.reduceEqDiff, Nat.reduceAdd, dec_f, bne_f, nb_t, rep_slk, rep_same, rep_runs, gK_tt, fo_29_6, sz_3, ag_3, fo_31_4, sz_4, ag_4, fo_31_3, fo_31_2, fo_29_3]
      refine hK11 _ _ ?_
      refine awp_cond rfl (fun ht => ?_) (fun ht => ?_)
      · cases ht
      · refine awp_skip (hK10 _ _ ?_)
        refine awp_seq_s KT_ok hc rfl fun K63 hK63 => ?_
        simp -dsimp -implicitDefEqProofs (disch := first | assumption | omega | (simp [maxLen, avs_len] <;> omega) | decide) only [sT_load, sT_call0, oK_some, q_o, loadF, ↓reduceIte, q_b, ifp, q_f, q_s, q_l, q_n, Nat.reduceEqDiff, takeD_all, Nat.reduceAdd, sz_29, ag_29, sz_31, ag_31]
        refine kc_by (see_v hvr (p := badP r u) (badP_i64 hvr hu) hsee) rfl ?_
        simp -dsimp -implicitDefEqProofs (disch := first | assumption | omega | (simp [maxLen, avs_len] <;> omega) | decide) only [sT_alloc, sT_store, deadH, sT_nil, oK_some, q_o, layF, storeF, ↓reduceIte, q_b, ifp, q_f, q_s, q_l, as_dagg, q_a, D.one, Value.oneCell', q_n, Nat.reduceEqDiff, map_d, avs_nil, avs_cons, iD, intsD, intssD, Nat.reduceAdd, deadH, gotD, heldR, sz_40, za_40]
        refine hK63 _ _ ?_
        refine awp_seq_k fun K64 hK64 => ?_
        refine awp_seq_s KT_ok hc rfl fun K65 hK65 => ?_
        simp -dsimp -implicitDefEqProofs (disch := first | assumption | omega | (simp [maxLen, avs_len] <;> omega) | decide) only [sT_move, sT_load, sT_fa, sT_bin, sT_call0, sT_g, oK_some, gK_t, q_o, loadF, fieldAddrF, binF_v, v_neq, ↓reduceIte, q_b, ifp, guardA_some, guardV_f, q_f, q_s, q_l, q_n, Nat.reduceEqDiff, takeD_zero, takeD_cs, Nat.reduceAdd, bne_self_eq_false, nb_t, fo_40_1, sz_38, ag_38, fo_40_0, sz_29, ag_29]
        refine kc_by (validp_v (held_ok hvr g)) rfl ?_
        simp -dsimp -implicitDefEqProofs (disch := first | assumption | omega | (simp [maxLen, avs_len] <;> omega) | decide) only [sT_pick, sT_un, sT_nil, sT_g, oK_some, gK_t, q_o, u_not, ↓reduceIte, q_b, guardA_some, guardV_f, q_f, q_l, Nat.reduceEqDiff, nb_t, nb_f]
        refine hK65 _ _ ?_
        refine awp_cond rfl (fun ht => ?_) (fun ht => ?_)
        · cases ht
        · refine awp_skip (hK64 _ _ ?_)
          refine awp_seq_s KT_ok hc rfl fun K66 hK66 => ?_
          simp -dsimp -implicitDefEqProofs (disch := first | assumption | omega | (simp [maxLen, avs_len] <;> omega) | decide) only [sT_load, sT_ia, sT_call0, oK_some, q_o, loadF, ixO, indexAddrF, ↓reduceIte, q_b, ifp, q_f, q_s, q_l, q_n, Nat.reduceEqDiff, takeD_cd, takeD_all, Nat.reduceAdd, Int.reduceToNat, Nat.reduceMul, sz_29, ag_29, eo_55, sz_45, ag_45]
          refine kc_by (report_c r v hvr hv) rfl ?_
          simp -dsimp -implicitDefEqProofs (disch := first | assumption | omega | (simp [maxLen, avs_len] <;> omega) | decide) only [sT_alloc, sT_store, deadH, sT_nil, oK_some, q_o, layF, storeF, ↓reduceIte, q_b, ifp, q_f, q_s, q_l, as_dagg, q_a, D.one, Value.oneCell', q_n, Nat.reduceEqDiff, map_d, avs_nil, avs_cons, iD, oD, Nat.reduceAdd, deadH, repD, repC, sz_31, za_31]
          refine hK66 _ _ ?_
          refine awp_seq_s KT_ok hc rfl fun K67 hK67 => ?_
          rcases (show inB (reportR r v).chip (allC r) = false ∨ (inB (reportR r v).chip (allC r) = true ∧ (reportR r v).no = r.frm) ∨ ((inB (reportR r v).chip (allC r) = true ∧ (reportR r v).no ≠ r.frm) ∧ (reportR r v).no = r.to) ∨ ((inB (reportR r v).chip (allC r) = true ∧ (reportR r v).no ≠ r.frm) ∧ (reportR r v).no ≠ r.to) from by cases inB (reportR r v).chip (allC r) <;> simp <;> omega) with k1 | ⟨k1, k2⟩ | ⟨⟨k1, k2⟩, k3⟩ | ⟨⟨k1, k2⟩, k3⟩
          · have hs2 : seeG (heldR r) (reportR r v) = (noRol, 510) := see_bad (.inl (by rw [inB_allC, decide_eq_false_iff_not, Decidable.not_not] at k1; exact k1))
            simp -dsimp -implicitDefEqProofs (disch := first | assumption | omega | (simp [maxLen, avs_len] <;> omega) | decide) only [sT_load, sT_fa, sT_call0, oK_some, q_o, loadF, fieldAddrF, ↓reduceIte, q_b, ifp, q_f, q_s, q_l, q_n, Nat.reduceEqDiff, takeD_zero, takeD_cs, takeD_all, Nat.reduceAdd, fo_40_0, sz_29, ag_29, sz_31, ag_31]
            refine kc_by (see_v (held_ok hvr g) (p := reportR r v) (rep_i64 hvr hv) hs2) rfl ?_
            simp -dsimp -implicitDefEqProofs (disch := first | assumption | omega | (simp [maxLen, avs_len] <;> omega) | decide) only [sT_alloc, sT_store, deadH, sT_nil, oK_some, q_o, layF, storeF, ↓reduceIte, q_b, ifp, q_f, q_s, q_l, as_dagg, q_a, D.one, Value.oneCell', q_n, Nat.reduceEqDiff, map_d, avs_nil, avs_cons, iD, intsD, intssD, Nat.reduceAdd, deadH, gotD, noRol, sz_40, za_40]
            refine hK67 _ _ ?_
            refine awp_seq_s KT_ok hc rfl fun K68 hK68 => ?_
            simp -dsimp -implicitDefEqProofs (disch := first | assumption | omega | (simp [maxLen, avs_len] <;> omega) | decide) only [sT_load, sT_fa, sT_call0, oK_some, q_o, loadF, fieldAddrF, ↓reduceIte, q_b, ifp, q_f, q_s, q_l, q_n, Nat.reduceEqDiff, takeD_zero, takeD_cs, Nat.reduceAdd, fo_40_0, sz_29, ag_29]
            refine kc_by (ex_resume (held_resume g)) rfl ?_
            simp -dsimp -implicitDefEqProofs (disch := first | assumption | omega | (simp [maxLen, avs_len] <;> omega) | decide) only [sT_alloc, sT_store, deadH, sT_nil, oK_some, q_o, layF, storeF, ↓reduceIte, q_b, ifp, q_f, q_s, q_l, as_dagg, q_a, D.one, Value.oneCell', q_n, Nat.reduceEqDiff, map_d, avs_nil, avs_cons, iD, intsD, intssD, Nat.reduceAdd, deadH, gotD, sz_40, za_40]
            refine hK68 _ _ ?_
            refine awp_seq_s KT_ok hc rfl fun K69 hK69 => ?_
            simp -dsimp -implicitDefEqProofs (disch := first | assumption | omega | (simp [maxLen, avs_len] <;> omega) | decide) only [sT_move, sT_load, sT_fa, sT_call0, oK_some, loadF, fieldAddrF, ↓reduceIte, q_b, ifp, q_f, q_s, q_l, q_n, Nat.reduceEqDiff, Nat.reduceAdd, fo_31_0, sz_3, ag_3]
            refine kc_by (in_c (allC r) (reportR r v).chip (by omega)) rfl ?_
            simp -dsimp -implicitDefEqProofs (disch := first | assumption | omega | (simp [maxLen, avs_len] <;> omega) | decide) only [sT_move, sT_assign, sT_pick, sT_nil, sT_g, oK_some, q_o, ↓reduceIte, q_b, guardA_some, guardV_t, guardV_u, q_f, q_l, Nat.reduceEqDiff, gK_ff, ifb_f]
            refine hK69 _ _ ?_
            refine awp_seq_k fun K70 hK70 => ?_
            refine awp_seq_s KT_ok hc rfl fun K71 hK71 => ?_
            simp -dsimp -implicitDefEqProofs (disch := first | assumption | omega | (simp [maxLen, avs_len] <;> omega) | decide) only [sT_move, sT_load, sT_fa, sT_bin, sT_call0, sT_g, oK_some, gK_t, q_o, loadF, fieldAddrF, binF_v, v_neq, ↓reduceIte, q_b, ifp, guardA_some, guardV_f, q_f, q_s, q_l, q_n, Nat.reduceEqDiff, takeD_zero, takeD_cs, Nat.reduceAdd, bne_self_eq_false, nb_t, fo_40_0, fo_29_6, sz_29, ag_29, sz_3, ag_3]
            refine kc_by (show PCalls Try.prog 19 [rolD (heldR r)] (.d (intsD [])) from held_ready (r := r) ▸ ready_v (held_ok hvr g)) rfl ?_
            simp -dsimp -implicitDefEqProofs (disch := first | assumption | omega | (simp [maxLen, avs_len] <;> omega) | decide) only [sT_move, sT_pick, sT_load, sT_fa, sT_bin, sT_len, sT_nil, sT_g, oK_some, gK_t, gK_f, q_o, loadF, fieldAddrF, binF_v, lenF, builtinF, v_eql, v_neq, v_bneq, ↓reduceIte, q_b, ifp, guardA_some, guardV_t, guardV_f, q_f, q_s, q_l, q_n, Nat.reduceEqDiff, intsD, Nat.reduceAdd, bne_self_eq_false, beq_f, bne_f, nb_t, eo_27, fo_40_1, sz_38, ag_38, bt_4]
            refine hK71 _ _ ?_
            refine awp_cond rfl (fun ht => ?_) (fun ht => ?_)
            · cases ht
            · refine awp_skip (hK70 _ _ ?_)
              refine awp_seq_se KT_ok hc mixed rfl (q := 0) (by kernel_rfl) (by kernel_rfl) fun K72 hK72 => ?_
              simp -dsimp -implicitDefEqProofs (disch := first | assumption | omega | (simp [maxLen, avs_len] <;> omega) | decide) only [sE_move, sE_load, sE_fa, sE_bin, sE_call0, oK_some, gK_t, q_o, loadF, fieldAddrF, binF_v, v_eql, ↓reduceIte, q_b, ifp, guardA_some, guardV_t, q_f, q_s, q_l, List.append_nil, List.replicate_zero, q_n, Nat.reduceEqDiff, takeD_zero, takeD_cs, takeD_all, Nat.reduceAdd, sE_gg, beq_self_eq_true, fo_40_1, sz_38, ag_38, fo_40_0, sz_29, ag_29]
              refine kc_by (same_refl hvr.short) rfl ?_
              simp -dsimp -implicitDefEqProofs (disch := first | assumption | omega | (simp [maxLen, avs_len] <;> omega) | decide) only [sE_move, sE_pick, sE_load, sE_fa, sE_call0, oK_some, gK_t, q_o, loadF, fieldAddrF, ↓reduceIte, q_b, ifp, guardA_some, guardV_t, q_f, q_s, q_l, q_n, Nat.reduceEqDiff, takeD_zero, takeD_cs, Nat.reduceAdd, sE_gg, fo_40_0, sz_29, ag_29]
              refine kc_by (ready_v hvr) rfl ?_
              simp -dsimp -implicitDefEqProofs (disch := first | assumption | omega | (simp [maxLen, avs_len] <;> omega) | decide) only [sE_load, sE_call0, oK_some, gK_t, q_o, loadF, ↓reduceIte, q_b, ifp, guardA_some, guardV_t, q_f, q_s, q_l, Nat.reduceEqDiff, takeD_all, intsD, Nat.reduceAdd, sE_gg, sz_29, ag_29]
              refine kc_by (ready_v hvr) rfl ?_
              simp -dsimp -implicitDefEqProofs (disch := first | assumption | omega | (simp [maxLen, avs_len] <;> omega) | decide) only [sE_call0, gK_t, q_o, ↓reduceIte, q_b, guardA_some, guardV_t, q_f, q_s, q_l, Nat.reduceEqDiff, intsD, Nat.reduceAdd, sE_gg]
              refine kc_by (ex_ints (readyG r) (by have := ready_len hvr; omega)) rfl ?_
              simp -dsimp -implicitDefEqProofs (disch := first | assumption | omega | (simp [maxLen, avs_len] <;> omega) | decide) only [sE_move, sE_assign, sE_pick, sE_nil, oK_some, gK_t, q_o, ↓reduceIte, q_b, guardA_some, guardV_t, q_f, q_l, Nat.reduceEqDiff, killAll, Nat.reduceAdd, sE_gg]
              refine hK72 _ _ ?_
              refine awp_ret ?_
              show closeA _ _ = _
              simp (disch := first | assumption | omega | (simp [maxLen, avs_len] <;> omega) | decide) only [closeA, retV, deep_d, Nat.reduceAdd, Nat.zero_add, D.fix, frL_get, ↓reduceIte, Option.map_some, List.length_cons, List.length_nil]
          · have hs2 : seeG (heldR r) (reportR r v) = (heldR r, 0) := held_see (by
              rw [inB_allC, decide_eq_true_eq] at k1
              rintro (h | ⟨h, _⟩)
              · exact k1 h
              · exact h k2)
            simp -dsimp -implicitDefEqProofs (disch := first | assumption | omega | (simp [maxLen, avs_len] <;> omega) | decide) only [sT_load, sT_fa, sT_call0, oK_some, q_o, loadF, fieldAddrF, ↓reduceIte, q_b, ifp, q_f, q_s, q_l, q_n, Nat.reduceEqDiff, takeD_zero, takeD_cs, takeD_all, Nat.reduceAdd, fo_40_0, sz_29, ag_29, sz_31, ag_31]
            refine kc_by (see_v (held_ok hvr g) (p := reportR r v) (rep_i64 hvr hv) hs2) rfl ?_
            simp -dsimp -implicitDefEqProofs (disch := first | assumption | omega | (simp [maxLen, avs_len] <;> omega) | decide) only [sT_alloc, sT_store, deadH, sT_nil, oK_some, q_o, layF, storeF, ↓reduceIte, q_b, ifp, q_f, q_s, q_l, as_dagg, q_a, D.one, Value.oneCell', q_n, Nat.reduceEqDiff, map_d, avs_nil, avs_cons, iD, intsD, intssD, Nat.reduceAdd, deadH, gotD, heldR, sz_40, za_40]
            refine hK67 _ _ ?_
            refine awp_seq_s KT_ok hc rfl fun K73 hK73 => ?_
            simp -dsimp -implicitDefEqProofs (disch := first | assumption | omega | (simp [maxLen, avs_len] <;> omega) | decide) only [sT_load, sT_fa, sT_call0, oK_some, q_o, loadF, fieldAddrF, ↓reduceIte, q_b, ifp, q_f, q_s, q_l, q_n, Nat.reduceEqDiff, takeD_zero, takeD_cs, Nat.reduceAdd, fo_40_0, sz_29, ag_29]
            refine kc_by (ex_resume (held_resume g)) rfl ?_
            simp -dsimp -implicitDefEqProofs (disch := first | assumption | omega | (simp [maxLen, avs_len] <;> omega) | decide) only [sT_alloc, sT_store, deadH, sT_nil, oK_some, q_o, layF, storeF, ↓reduceIte, q_b, ifp, q_f, q_s, q_l, as_dagg, q_a, D.one, Value.oneCell', q_n, Nat.reduceEqDiff, map_d, avs_nil, avs_cons, iD, intsD, intssD, Nat.reduceAdd, deadH, gotD, sz_40, za_40]
            refine hK73 _ _ ?_
            refine awp_seq_s KT_ok hc rfl fun K74 hK74 => ?_
            simp -dsimp -implicitDefEqProofs (disch := first | assumption | omega | (simp [maxLen, avs_len] <;> omega) | decide) only [sT_move, sT_load, sT_fa, sT_call0, oK_some, loadF, fieldAddrF, ↓reduceIte, q_b, ifp, q_f, q_s, q_l, q_n, Nat.reduceEqDiff, Nat.reduceAdd, fo_31_0, sz_3, ag_3]
            refine kc_by (in_c (allC r) (reportR r v).chip (by omega)) rfl ?_
            simp -dsimp -implicitDefEqProofs (disch := first | assumption | omega | (simp [maxLen, avs_len] <;> omega) | decide) only [sT_move, sT_assign, sT_pick, sT_load, sT_fa, sT_bin, sT_nil, sT_g, oK_some, q_o, loadF, fieldAddrF, binF_v, v_eql, ↓reduceIte, q_b, ifp, guardA_some, guardV_t, guardV_f, q_f, q_l, q_n, Nat.reduceEqDiff, Nat.reduceAdd, beq_t, nb_f, gK_tt, gK_ff, sz_3, ag_3, fo_31_1, fo_29_0]
            refine hK74 _ _ ?_
            refine awp_seq_k fun K75 hK75 => ?_
            refine awp_seq_s KT_ok hc rfl fun K76 hK76 => ?_
            simp -dsimp -implicitDefEqProofs (disch := first | assumption | omega | (simp [maxLen, avs_len] <;> omega) | decide) only [sT_move, sT_load, sT_fa, sT_bin, sT_call0, sT_g, oK_some, gK_t, q_o, loadF, fieldAddrF, binF_v, v_neq, ↓reduceIte, q_b, ifp, guardA_some, guardV_f, q_f, q_s, q_l, q_n, Nat.reduceEqDiff, takeD_zero, takeD_cs, Nat.reduceAdd, bne_self_eq_false, nb_t, fo_40_0, fo_29_6, sz_29, ag_29, sz_3, ag_3]
            refine kc_by (show PCalls Try.prog 19 [rolD (heldR r)] (.d (intsD [])) from held_ready (r := r) ▸ ready_v (held_ok hvr g)) rfl ?_
            simp -dsimp -implicitDefEqProofs (disch := first | assumption | omega | (simp [maxLen, avs_len] <;> omega) | decide) only [sT_move, sT_pick, sT_load, sT_fa, sT_bin, sT_len, sT_call0, sT_g, oK_some, gK_t, q_o, loadF, fieldAddrF, binF_v, lenF, builtinF, v_eql, v_neq, v_bneq, ↓reduceIte, q_b, ifp, guardA_some, guardV_t, guardV_f, q_f, q_s, q_l, q_n, Nat.reduceEqDiff, takeD_zero, takeD_cs, intsD, Nat.reduceAdd, bne_self_eq_false, beq_self_eq_true, bne_f, nb_t, fo_40_0, sz_29, ag_29, eo_27, fo_40_1, sz_38, ag_38, bt_4]
            refine kc_by (same_refl (held_ok hvr g).short) rfl ?_
            simp -dsimp -implicitDefEqProofs (disch := first | assumption | omega | (simp [maxLen, avs_len] <;> omega) | decide) only [sT_pick, sT_un, sT_nil, sT_g, oK_some, gK_t, q_o, u_not, ↓reduceIte, q_b, guardA_some, guardV_t, guardV_f, q_f, q_l, Nat.reduceEqDiff, nb_t, nb_f]
            refine hK76 _ _ ?_
            refine awp_cond rfl (fun ht => ?_) (fun ht => ?_)
            · cases ht
            · refine awp_skip (hK75 _ _ ?_)
              refine awp_seq_se KT_ok hc mixed rfl (q := 0) (by kernel_rfl) (by kernel_rfl) fun K77 hK77 => ?_
              simp -dsimp -implicitDefEqProofs (disch := first | assumption | omega | (simp [maxLen, avs_len] <;> omega) | decide) only [sE_move, sE_load, sE_fa, sE_bin, sE_call0, oK_some, gK_t, q_o, loadF, fieldAddrF, binF_v, v_eql, ↓reduceIte, q_b, ifp, guardA_some, guardV_t, q_f, q_s, q_l, List.append_nil, List.replicate_zero, q_n, Nat.reduceEqDiff, takeD_zero, takeD_cs, takeD_all, Nat.reduceAdd, sE_gg, beq_self_eq_true, fo_40_1, sz_38, ag_38, fo_40_0, sz_29, ag_29]
              refine kc_by (same_refl hvr.short) rfl ?_
              simp -dsimp -implicitDefEqProofs (disch := first | assumption | omega | (simp [maxLen, avs_len] <;> omega) | decide) only [sE_move, sE_pick, sE_load, sE_fa, sE_call0, oK_some, gK_t, q_o, loadF, fieldAddrF, ↓reduceIte, q_b, ifp, guardA_some, guardV_t, q_f, q_s, q_l, q_n, Nat.reduceEqDiff, takeD_zero, takeD_cs, Nat.reduceAdd, sE_gg, fo_40_0, sz_29, ag_29]
              refine kc_by (ready_v hvr) rfl ?_
              simp -dsimp -implicitDefEqProofs (disch := first | assumption | omega | (simp [maxLen, avs_len] <;> omega) | decide) only [sE_load, sE_call0, oK_some, gK_t, q_o, loadF, ↓reduceIte, q_b, ifp, guardA_some, guardV_t, q_f, q_s, q_l, Nat.reduceEqDiff, takeD_all, intsD, Nat.reduceAdd, sE_gg, sz_29, ag_29]
              refine kc_by (ready_v hvr) rfl ?_
              simp -dsimp -implicitDefEqProofs (disch := first | assumption | omega | (simp [maxLen, avs_len] <;> omega) | decide) only [sE_call0, gK_t, q_o, ↓reduceIte, q_b, guardA_some, guardV_t, q_f, q_s, q_l, Nat.reduceEqDiff, intsD, Nat.reduceAdd, sE_gg]
              refine kc_by (ex_ints (readyG r) (by have := ready_len hvr; omega)) rfl ?_
              simp -dsimp -implicitDefEqProofs (disch := first | assumption | omega | (simp [maxLen, avs_len] <;> omega) | decide) only [sE_move, sE_assign, sE_pick, sE_nil, oK_some, gK_t, q_o, ↓reduceIte, q_b, guardA_some, guardV_t, q_f, q_l, Nat.reduceEqDiff, killAll, Nat.reduceAdd, sE_gg]
              refine hK77 _ _ ?_
              refine awp_ret ?_
              show closeA _ _ = _
              simp (disch := first | assumption | omega | (simp [maxLen, avs_len] <;> omega) | decide) only [closeA, retV, deep_d, Nat.reduceAdd, Nat.zero_add, D.fix, frL_get, ↓reduceIte, Option.map_some, List.length_cons, List.length_nil]
          · have hs2 : seeG (heldR r) (reportR r v) = (heldR r, 0) := held_see (by
              rw [inB_allC, decide_eq_true_eq] at k1
              rintro (h | ⟨_, h⟩)
              · exact k1 h
              · exact h k3)
            simp -dsimp -implicitDefEqProofs (disch := first | assumption | omega | (simp [maxLen, avs_len] <;> omega) | decide) only [sT_load, sT_fa, sT_call0, oK_some, q_o, loadF, fieldAddrF, ↓reduceIte, q_b, ifp, q_f, q_s, q_l, q_n, Nat.reduceEqDiff, takeD_zero, takeD_cs, takeD_all, Nat.reduceAdd, fo_40_0, sz_29, ag_29, sz_31, ag_31]
            refine kc_by (see_v (held_ok hvr g) (p := reportR r v) (rep_i64 hvr hv) hs2) rfl ?_
            simp -dsimp -implicitDefEqProofs (disch := first | assumption | omega | (simp [maxLen, avs_len] <;> omega) | decide) only [sT_alloc, sT_store, deadH, sT_nil, oK_some, q_o, layF, storeF, ↓reduceIte, q_b, ifp, q_f, q_s, q_l, as_dagg, q_a, D.one, Value.oneCell', q_n, Nat.reduceEqDiff, map_d, avs_nil, avs_cons, iD, intsD, intssD, Nat.reduceAdd, deadH, gotD, heldR, sz_40, za_40]
            refine hK67 _ _ ?_
            refine awp_seq_s KT_ok hc rfl fun K78 hK78 => ?_
            simp -dsimp -implicitDefEqProofs (disch := first | assumption | omega | (simp [maxLen, avs_len] <;> omega) | decide) only [sT_load, sT_fa, sT_call0, oK_some, q_o, loadF, fieldAddrF, ↓reduceIte, q_b, ifp, q_f, q_s, q_l, q_n, Nat.reduceEqDiff, takeD_zero, takeD_cs, Nat.reduceAdd, fo_40_0, sz_29, ag_29]
            refine kc_by (ex_resume (held_resume g)) rfl ?_
            simp -dsimp -implicitDefEqProofs (disch := first | assumption | omega | (simp [maxLen, avs_len] <;> omega) | decide) only [sT_alloc, sT_store, deadH, sT_nil, oK_some, q_o, layF, storeF, ↓reduceIte, q_b, ifp, q_f, q_s, q_l, as_dagg, q_a, D.one, Value.oneCell', q_n, Nat.reduceEqDiff, map_d, avs_nil, avs_cons, iD, intsD, intssD, Nat.reduceAdd, deadH, gotD, sz_40, za_40]
            refine hK78 _ _ ?_
            refine awp_seq_s KT_ok hc rfl fun K79 hK79 => ?_
            simp -dsimp -implicitDefEqProofs (disch := first | assumption | omega | (simp [maxLen, avs_len] <;> omega) | decide) only [sT_move, sT_load, sT_fa, sT_call0, oK_some, loadF, fieldAddrF, ↓reduceIte, q_b, ifp, q_f, q_s, q_l, q_n, Nat.reduceEqDiff, Nat.reduceAdd, fo_31_0, sz_3, ag_3]
            refine kc_by (in_c (allC r) (reportR r v).chip (by omega)) rfl ?_
            simp -dsimp -implicitDefEqProofs (disch := first | assumption | omega | (simp [maxLen, avs_len] <;> omega) | decide) only [sT_move, sT_assign, sT_pick, sT_load, sT_fa, sT_bin, sT_nil, sT_g, oK_some, q_o, loadF, fieldAddrF, binF_v, v_eql, ↓reduceIte, q_b, ifp, guardA_some, guardV_t, guardV_f, q_f, q_l, q_n, Nat.reduceEqDiff, Nat.reduceAdd, beq_t, beq_f, nb_t, gK_tt, sz_3, ag_3, fo_31_1, fo_29_0, fo_29_1]
            refine hK79 _ _ ?_
            refine awp_seq_k fun K80 hK80 => ?_
            refine awp_seq_s KT_ok hc rfl fun K81 hK81 => ?_
            simp -dsimp -implicitDefEqProofs (disch := first | assumption | omega | (simp [maxLen, avs_len] <;> omega) | decide) only [sT_move, sT_load, sT_fa, sT_bin, sT_call0, sT_g, oK_some, gK_t, q_o, loadF, fieldAddrF, binF_v, v_neq, ↓reduceIte, q_b, ifp, guardA_some, guardV_f, q_f, q_s, q_l, q_n, Nat.reduceEqDiff, takeD_zero, takeD_cs, Nat.reduceAdd, bne_self_eq_false, nb_t, fo_40_0, fo_29_6, sz_29, ag_29, sz_3, ag_3]
            refine kc_by (show PCalls Try.prog 19 [rolD (heldR r)] (.d (intsD [])) from held_ready (r := r) ▸ ready_v (held_ok hvr g)) rfl ?_
            simp -dsimp -implicitDefEqProofs (disch := first | assumption | omega | (simp [maxLen, avs_len] <;> omega) | decide) only [sT_move, sT_pick, sT_load, sT_fa, sT_bin, sT_len, sT_call0, sT_g, oK_some, gK_t, q_o, loadF, fieldAddrF, binF_v, lenF, builtinF, v_eql, v_neq, v_bneq, ↓reduceIte, q_b, ifp, guardA_some, guardV_t, guardV_f, q_f, q_s, q_l, q_n, Nat.reduceEqDiff, takeD_zero, takeD_cs, intsD, Nat.reduceAdd, bne_self_eq_false, beq_self_eq_true, bne_f, nb_t, fo_40_0, sz_29, ag_29, eo_27, fo_40_1, sz_38, ag_38, bt_4]
            refine kc_by (same_refl (held_ok hvr g).short) rfl ?_
            simp -dsimp -implicitDefEqProofs (disch := first | assumption | omega | (simp [maxLen, avs_len] <;> omega) | decide) only [sT_pick, sT_un, sT_nil, sT_g, oK_some, gK_t, q_o, u_not, ↓reduceIte, q_b, guardA_some, guardV_t, guardV_f, q_f, q_l, Nat.reduceEqDiff, nb_t, nb_f]
            refine hK81 _ _ ?_
            refine awp_cond rfl (fun ht => ?_) (fun ht => ?_)
            · cases ht
            · refine awp_skip (hK80 _ _ ?_)
              refine awp_seq_se KT_ok hc mixed rfl (q := 0) (by kernel_rfl) (by kernel_rfl) fun K82 hK82 => ?_
              simp -dsimp -implicitDefEqProofs (disch := first | assumption | omega | (simp [maxLen, avs_len] <;> omega) | decide) only [sE_move, sE_load, sE_fa, sE_bin, sE_call0, oK_some, gK_t, q_o, loadF, fieldAddrF, binF_v, v_eql, ↓reduceIte, q_b, ifp, guardA_some, guardV_t, q_f, q_s, q_l, List.append_nil, List.replicate_zero, q_n, Nat.reduceEqDiff, takeD_zero, takeD_cs, takeD_all, Nat.reduceAdd, sE_gg, beq_self_eq_true, fo_40_1, sz_38, ag_38, fo_40_0, sz_29, ag_29]
              refine kc_by (same_refl hvr.short) rfl ?_
              simp -dsimp -implicitDefEqProofs (disch := first | assumption | omega | (simp [maxLen, avs_len] <;> omega) | decide) only [sE_move, sE_pick, sE_load, sE_fa, sE_call0, oK_some, gK_t, q_o, loadF, fieldAddrF, ↓reduceIte, q_b, ifp, guardA_some, guardV_t, q_f, q_s, q_l, q_n, Nat.reduceEqDiff, takeD_zero, takeD_cs, Nat.reduceAdd, sE_gg, fo_40_0, sz_29, ag_29]
              refine kc_by (ready_v hvr) rfl ?_
              simp -dsimp -implicitDefEqProofs (disch := first | assumption | omega | (simp [maxLen, avs_len] <;> omega) | decide) only [sE_load, sE_call0, oK_some, gK_t, q_o, loadF, ↓reduceIte, q_b, ifp, guardA_some, guardV_t, q_f, q_s, q_l, Nat.reduceEqDiff, takeD_all, intsD, Nat.reduceAdd, sE_gg, sz_29, ag_29]
              refine kc_by (ready_v hvr) rfl ?_
              simp -dsimp -implicitDefEqProofs (disch := first | assumption | omega | (simp [maxLen, avs_len] <;> omega) | decide) only [sE_call0, gK_t, q_o, ↓reduceIte, q_b, guardA_some, guardV_t, q_f, q_s, q_l, Nat.reduceEqDiff, intsD, Nat.reduceAdd, sE_gg]
              refine kc_by (ex_ints (readyG r) (by have := ready_len hvr; omega)) rfl ?_
              simp -dsimp -implicitDefEqProofs (disch := first | assumption | omega | (simp [maxLen, avs_len] <;> omega) | decide) only [sE_move, sE_assign, sE_pick, sE_nil, oK_some, gK_t, q_o, ↓reduceIte, q_b, guardA_some, guardV_t, q_f, q_l, Nat.reduceEqDiff, killAll, Nat.reduceAdd, sE_gg]
              refine hK82 _ _ ?_
              refine awp_ret ?_
              show closeA _ _ = _
              simp (disch := first | assumption | omega | (simp [maxLen, avs_len] <;> omega) | decide) only [closeA, retV, deep_d, Nat.reduceAdd, Nat.zero_add, D.fix, frL_get, ↓reduceIte, Option.map_some, List.length_cons, List.length_nil]
          · have hs2 : seeG (heldR r) (reportR r v) = (noRol, 510) := see_bad (.inr ⟨k2, k3⟩)
            simp -dsimp -implicitDefEqProofs (disch := first | assumption | omega | (simp [maxLen, avs_len] <;> omega) | decide) only [sT_load, sT_fa, sT_call0, oK_some, q_o, loadF, fieldAddrF, ↓reduceIte, q_b, ifp, q_f, q_s, q_l, q_n, Nat.reduceEqDiff, takeD_zero, takeD_cs, takeD_all, Nat.reduceAdd, fo_40_0, sz_29, ag_29, sz_31, ag_31]
            refine kc_by (see_v (held_ok hvr g) (p := reportR r v) (rep_i64 hvr hv) hs2) rfl ?_
            simp -dsimp -implicitDefEqProofs (disch := first | assumption | omega | (simp [maxLen, avs_len] <;> omega) | decide) only [sT_alloc, sT_store, deadH, sT_nil, oK_some, q_o, layF, storeF, ↓reduceIte, q_b, ifp, q_f, q_s, q_l, as_dagg, q_a, D.one, Value.oneCell', q_n, Nat.reduceEqDiff, map_d, avs_nil, avs_cons, iD, intsD, intssD, Nat.reduceAdd, deadH, gotD, noRol, sz_40, za_40]
            refine hK67 _ _ ?_
            refine awp_seq_s KT_ok hc rfl fun K83 hK83 => ?_
            simp -dsimp -implicitDefEqProofs (disch := first | assumption | omega | (simp [maxLen, avs_len] <;> omega) | decide) only [sT_load, sT_fa, sT_call0, oK_some, q_o, loadF, fieldAddrF, ↓reduceIte, q_b, ifp, q_f, q_s, q_l, q_n, Nat.reduceEqDiff, takeD_zero, takeD_cs, Nat.reduceAdd, fo_40_0, sz_29, ag_29]
            refine kc_by (ex_resume (held_resume g)) rfl ?_
            simp -dsimp -implicitDefEqProofs (disch := first | assumption | omega | (simp [maxLen, avs_len] <;> omega) | decide) only [sT_alloc, sT_store, deadH, sT_nil, oK_some, q_o, layF, storeF, ↓reduceIte, q_b, ifp, q_f, q_s, q_l, as_dagg, q_a, D.one, Value.oneCell', q_n, Nat.reduceEqDiff, map_d, avs_nil, avs_cons, iD, intsD, intssD, Nat.reduceAdd, deadH, gotD, sz_40, za_40]
            refine hK83 _ _ ?_
            refine awp_seq_s KT_ok hc rfl fun K84 hK84 => ?_
            simp -dsimp -implicitDefEqProofs (disch := first | assumption | omega | (simp [maxLen, avs_len] <;> omega) | decide) only [sT_move, sT_load, sT_fa, sT_call0, oK_some, loadF, fieldAddrF, ↓reduceIte, q_b, ifp, q_f, q_s, q_l, q_n, Nat.reduceEqDiff, Nat.reduceAdd, fo_31_0, sz_3, ag_3]
            refine kc_by (in_c (allC r) (reportR r v).chip (by omega)) rfl ?_
            simp -dsimp -implicitDefEqProofs (disch := first | assumption | omega | (simp [maxLen, avs_len] <;> omega) | decide) only [sT_move, sT_assign, sT_pick, sT_load, sT_fa, sT_bin, sT_nil, sT_g, oK_some, q_o, loadF, fieldAddrF, binF_v, v_eql, ↓reduceIte, q_b, ifp, guardA_some, guardV_t, guardV_f, q_f, q_l, q_n, Nat.reduceEqDiff, Nat.reduceAdd, beq_f, nb_t, gK_tt, sz_3, ag_3, fo_31_1, fo_29_0, fo_29_1]
            refine hK84 _ _ ?_
            refine awp_seq_k fun K85 hK85 => ?_
            refine awp_seq_s KT_ok hc rfl fun K86 hK86 => ?_
            simp -dsimp -implicitDefEqProofs (disch := first | assumption | omega | (simp [maxLen, avs_len] <;> omega) | decide) only [sT_move, sT_load, sT_fa, sT_bin, sT_call0, sT_g, oK_some, gK_t, q_o, loadF, fieldAddrF, binF_v, v_neq, ↓reduceIte, q_b, ifp, guardA_some, guardV_f, q_f, q_s, q_l, q_n, Nat.reduceEqDiff, takeD_zero, takeD_cs, Nat.reduceAdd, bne_self_eq_false, nb_t, fo_40_0, fo_29_6, sz_29, ag_29, sz_3, ag_3]
            refine kc_by (show PCalls Try.prog 19 [rolD (heldR r)] (.d (intsD [])) from held_ready (r := r) ▸ ready_v (held_ok hvr g)) rfl ?_
            simp -dsimp -implicitDefEqProofs (disch := first | assumption | omega | (simp [maxLen, avs_len] <;> omega) | decide) only [sT_move, sT_pick, sT_load, sT_fa, sT_bin, sT_len, sT_nil, sT_g, oK_some, gK_t, gK_f, q_o, loadF, fieldAddrF, binF_v, lenF, builtinF, v_eql, v_neq, v_bneq, ↓reduceIte, q_b, ifp, guardA_some, guardV_t, guardV_f, q_f, q_s, q_l, q_n, Nat.reduceEqDiff, intsD, Nat.reduceAdd, bne_self_eq_false, beq_f, bne_f, nb_t, eo_27, fo_40_1, sz_38, ag_38, bt_4]
            refine hK86 _ _ ?_
            refine awp_cond rfl (fun ht => ?_) (fun ht => ?_)
            · cases ht
            · refine awp_skip (hK85 _ _ ?_)
              refine awp_seq_se KT_ok hc mixed rfl (q := 0) (by kernel_rfl) (by kernel_rfl) fun K87 hK87 => ?_
              simp -dsimp -implicitDefEqProofs (disch := first | assumption | omega | (simp [maxLen, avs_len] <;> omega) | decide) only [sE_move, sE_load, sE_fa, sE_bin, sE_call0, oK_some, gK_t, q_o, loadF, fieldAddrF, binF_v, v_eql, ↓reduceIte, q_b, ifp, guardA_some, guardV_t, q_f, q_s, q_l, List.append_nil, List.replicate_zero, q_n, Nat.reduceEqDiff, takeD_zero, takeD_cs, takeD_all, Nat.reduceAdd, sE_gg, beq_self_eq_true, fo_40_1, sz_38, ag_38, fo_40_0, sz_29, ag_29]
              refine kc_by (same_refl hvr.short) rfl ?_
              simp -dsimp -implicitDefEqProofs (disch := first | assumption | omega | (simp [maxLen, avs_len] <;> omega) | decide) only [sE_move, sE_pick, sE_load, sE_fa, sE_call0, oK_some, gK_t, q_o, loadF, fieldAddrF, ↓reduceIte, q_b, ifp, guardA_some, guardV_t, q_f, q_s, q_l, q_n, Nat.reduceEqDiff, takeD_zero, takeD_cs, Nat.reduceAdd, sE_gg, fo_40_0, sz_29, ag_29]
              refine kc_by (ready_v hvr) rfl ?_
              simp -dsimp -implicitDefEqProofs (disch := first | assumption | omega | (simp [maxLen, avs_len] <;> omega) | decide) only [sE_load, sE_call0, oK_some, gK_t, q_o, loadF, ↓reduceIte, q_b, ifp, guardA_some, guardV_t, q_f, q_s, q_l, Nat.reduceEqDiff, takeD_all, intsD, Nat.reduceAdd, sE_gg, sz_29, ag_29]
              refine kc_by (ready_v hvr) rfl ?_
              simp -dsimp -implicitDefEqProofs (disch := first | assumption | omega | (simp [maxLen, avs_len] <;> omega) | decide) only [sE_call0, gK_t, q_o, ↓reduceIte, q_b, guardA_some, guardV_t, q_f, q_s, q_l, Nat.reduceEqDiff, intsD, Nat.reduceAdd, sE_gg]
              refine kc_by (ex_ints (readyG r) (by have := ready_len hvr; omega)) rfl ?_
              simp -dsimp -implicitDefEqProofs (disch := first | assumption | omega | (simp [maxLen, avs_len] <;> omega) | decide) only [sE_move, sE_assign, sE_pick, sE_nil, oK_some, gK_t, q_o, ↓reduceIte, q_b, guardA_some, guardV_t, q_f, q_l, Nat.reduceEqDiff, killAll, Nat.reduceAdd, sE_gg]
              refine hK87 _ _ ?_
              refine awp_ret ?_
              show closeA _ _ = _
              simp (disch := first | assumption | omega | (simp [maxLen, avs_len] <;> omega) | decide) only [closeA, retV, deep_d, Nat.reduceAdd, Nat.zero_add, D.fix, frL_get, ↓reduceIte, Option.map_some, List.length_cons, List.length_nil]
    · simp -dsimp -implicitDefEqProofs (disch := first | assumption | omega | (simp [maxLen, avs_len] <;> omega) | decide) only [sT_move, sT_pick, sT_load, sT_fa, sT_bin, sT_nil, sT_g, oK_some, q_o, loadF, fieldAddrF, binF_v, v_neq, v_geq, ↓reduceIte, q_b, ifp, guardA_some, guardV_t, guardV_f, q_f, q_l, q_n, Nat.reduceEqDiff, Nat.reduceAdd, dec_t, bne_f, nb_t, rep_slk, rep_same, rep_runs, gK_tt, fo_29_6, sz_3, ag_3, fo_31_4, sz_4, ag_4, fo_31_3, fo_31_2, fo_29_3]
      refine hK11 _ _ ?_
      refine awp_cond rfl (fun ht => ?_) (fun ht => ?_)
      · refine awp_seq_s KT_ok hc rfl fun K88 hK88 => ?_
        simp -dsimp -implicitDefEqProofs (disch := first | assumption | omega | (simp [maxLen, avs_len] <;> omega) | decide) only [sT_move, sT_assign, sT_nil, ↓reduceIte, q_b, q_f, Nat.reduceEqDiff]
        refine hK88 _ _ ?_
        refine awp_ret ?_
        show closeA _ _ = _
        simp (disch := first | assumption | omega | (simp [maxLen, avs_len] <;> omega) | decide) only [closeA, retV, deep_d, Nat.reduceAdd, Nat.zero_add, D.fix, frL_get, ↓reduceIte, Option.map_some, List.length_cons, List.length_nil]
      · cases ht
end Go.Proofs.Ytinefghmmbggeaa
