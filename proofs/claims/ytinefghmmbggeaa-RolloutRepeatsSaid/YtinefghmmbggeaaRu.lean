/- The law RolloutRepeats. -/
import Derived.Test.YtinefghmmbggeaaQ
import Derived.Test.YtinefghmmbggeaaRt
set_option linter.unusedVariables false
set_option linter.unusedSimpArgs false
namespace Go.Proofs.Ytinefghmmbggeaa
open Go Go.RowKit
theorem eq_same {a : Rol × Int} (ha : ShortR a.1) : PCalls Try.prog 14 [gotD a, gotD a] (.d (.val (.bool true))) := by
  have := same_c a a ha ha
  simpa [oD] using this
theorem got_bad : PCalls Try.prog 14 [gotD (noRol, 510), gotD (noRol, 510)] (.d (.val (.bool true))) := eq_same noRol_short
set_option maxRecDepth 100000 in
set_option linter.unusedVariables false in
set_option maxHeartbeats 4000000 in
theorem repeats_law (x : Rw) (hx : RwOk x) (s : Sp) (hs : SpOk s) (k : Int × Int) (hk0 : B8 k.1) (hk1 : B8 k.2) : PCalls Try.prog 8 [rwD x, spD s, .agg [bD k.1, bD k.2]] (.d (.val (.bool true))) := by
  refine pcalls_of0 (fn := Try.f8) (by kernel_rfl) Try.func8 rfl (Nat.le_of_ble_eq_true rfl) fun c hc hp => ?_
  refine awp_less (τ' := frL [(0, .d (rwD x)), (1, .d (spD s)), (2, .d (.agg [bD k.1, bD k.2]))]) (less_cons (less_cons (less_cons (less_nil _) rfl) rfl) rfl) ?_
  obtain ⟨r, hmr⟩ : ∃ r, madeR x = r := ⟨_, rfl⟩
  have hvr : VR r := hmr ▸ madeK_ok hx 24
  have hal := allC_len hvr
  have hk0a := hk0.1
  have hk0b := hk0.2
  have hk1a := hk1.1
  have hk1b := hk1.2
  obtain ⟨p, hpr⟩ : ∃ p, reportR r s = p := ⟨_, rfl⟩
  obtain ⟨g, hg⟩ : ∃ g, seeG r p = g := ⟨_, rfl⟩
  have hpi : I64 p.chip := hpr ▸ rep_i64 hvr hs
  have hrl := ready_len hvr
  refine awp_seq_s KT_ok hc rfl fun K1 hK1 => ?_
  simp -dsimp -implicitDefEqProofs (disch := first | assumption | omega | (simp [maxLen, avs_len] <;> omega) | decide) only [sT_assign, sT_box, deadH, sT_nil, oK_some, q_o, layF, ↓reduceIte, q_b, q_f, q_s, q_l, as_dagg, D.one, Value.oneCell', q_n, Nat.reduceEqDiff, bD, oD, bytesD, Nat.reduceAdd, deadH, rwD, bytesD, spsD, spD, spC]
  refine hK1 _ _ ?_
  refine awp_seq_s KT_ok hc rfl fun K2 hK2 => ?_
  simp -dsimp -implicitDefEqProofs (disch := first | assumption | omega | (simp [maxLen, avs_len] <;> omega) | decide) only [sT_call0, q_f, q_s, q_l, q_n, Nat.reduceAdd]
  refine kc_by (examples_c) rfl ?_
  simp -dsimp -implicitDefEqProofs (disch := first | assumption | omega | (simp [maxLen, avs_len] <;> omega) | decide) only [sT_assign, sT_nil, ↓reduceIte, q_b, q_f]
  refine hK2 _ _ ?_
  refine awp_seq_k fun K3 hK3 => ?_
  refine awp_seq_s KT_ok hc rfl fun K4 hK4 => ?_
  simp -dsimp -implicitDefEqProofs (disch := first | assumption | omega | (simp [maxLen, avs_len] <;> omega) | decide) only [sT_move, sT_un, sT_nil, oK_some, u_not, ↓reduceIte, q_b, q_f]
  refine hK4 _ _ ?_
  refine awp_cond rfl (fun ht => ?_) (fun ht => ?_)
  · cases ht
  · refine awp_skip (hK3 _ _ ?_)
    refine awp_seq_s KT_ok hc rfl fun K5 hK5 => ?_
    simp -dsimp -implicitDefEqProofs (disch := first | assumption | omega | (simp [maxLen, avs_len] <;> omega) | decide) only [sT_load, sT_call0, oK_some, q_o, loadF, ↓reduceIte, q_b, ifp, q_f, q_s, q_l, q_n, Nat.reduceEqDiff, takeD_all, Nat.reduceAdd, sz_25, ag_25]
    refine kc_by (show PCalls Try.prog 11 [rwD x] (.d (rolD r)) from hmr ▸ madex_c x hx) rfl ?_
    simp -dsimp -implicitDefEqProofs (disch := first | assumption | omega | (simp [maxLen, avs_len] <;> omega) | decide) only [sT_alloc, sT_store, deadH, sT_nil, oK_some, q_o, layF, storeF, ↓reduceIte, q_b, ifp, q_f, q_s, q_l, as_dagg, q_a, D.one, Value.oneCell', q_n, Nat.reduceEqDiff, map_d, avs_nil, avs_cons, iD, intsD, intssD, Nat.reduceAdd, deadH, rolD, rolC, sz_29, za_29]
    refine hK5 _ _ ?_
    refine awp_seq_s KT_ok hc rfl fun K6 hK6 => ?_
    simp -dsimp -implicitDefEqProofs (disch := first | assumption | omega | (simp [maxLen, avs_len] <;> omega) | decide) only [sT_load, sT_call0, oK_some, q_o, loadF, ↓reduceIte, q_b, ifp, q_f, q_s, q_l, q_n, Nat.reduceEqDiff, takeD_all, Nat.reduceAdd, sz_29, ag_29, sz_45, ag_45]
    refine kc_by (show PCalls Try.prog 17 [rolD r, spD s] (.d (repD p)) from hpr ▸ report_c r s hvr hs) rfl ?_
    simp -dsimp -implicitDefEqProofs (disch := first | assumption | omega | (simp [maxLen, avs_len] <;> omega) | decide) only [sT_alloc, sT_store, deadH, sT_nil, oK_some, q_o, layF, storeF, ↓reduceIte, q_b, ifp, q_f, q_s, q_l, as_dagg, q_a, D.one, Value.oneCell', q_n, Nat.reduceEqDiff, map_d, avs_nil, avs_cons, iD, oD, Nat.reduceAdd, deadH, repD, repC, sz_31, za_31]
    refine hK6 _ _ ?_
    refine awp_seq_s KT_ok hc rfl fun K7 hK7 => ?_
    simp -dsimp -implicitDefEqProofs (disch := first | assumption | omega | (simp [maxLen, avs_len] <;> omega) | decide) only [sT_load, sT_call0, oK_some, q_o, loadF, ↓reduceIte, q_b, ifp, q_f, q_s, q_l, q_n, Nat.reduceEqDiff, takeD_all, Nat.reduceAdd, sz_29, ag_29, sz_31, ag_31]
    refine kc_by (see_v hvr (p := p) hpi hg) rfl ?_
    simp -dsimp -implicitDefEqProofs (disch := first | assumption | omega | (simp [maxLen, avs_len] <;> omega) | decide) only [sT_alloc, sT_store, deadH, sT_nil, oK_some, q_o, layF, storeF, ↓reduceIte, q_b, ifp, q_f, q_s, q_l, as_dagg, q_a, D.one, Value.oneCell', q_n, Nat.reduceEqDiff, map_d, avs_nil, avs_cons, iD, intsD, intssD, Nat.reduceAdd, deadH, gotD, sz_40, za_40]
    refine hK7 _ _ ?_
    refine awp_seq_s KT_ok hc rfl fun K8 hK8 => ?_
    simp -dsimp -implicitDefEqProofs (disch := first | assumption | omega | (simp [maxLen, avs_len] <;> omega) | decide) only [sT_load, sT_fa, sT_len, sT_call0, oK_some, q_o, loadF, fieldAddrF, lenF, builtinF, ↓reduceIte, q_b, ifp, q_f, q_s, q_l, q_n, Nat.reduceEqDiff, takeD_all, Nat.reduceAdd, sz_29, ag_29, fo_29_2, sz_26, ag_26, eo_26]
    refine kc_by (show PCalls Try.prog 30 [rolD r, iD r.wv.length] (.d (intsD (allC r))) from uptop_c r r.wv.length hvr.short) rfl ?_
    simp -dsimp -implicitDefEqProofs (disch := first | assumption | omega | (simp [maxLen, avs_len] <;> omega) | decide) only [sT_assign, sT_nil, ↓reduceIte, q_b, q_f, intsD]
    refine hK8 _ _ ?_
    refine awp_seq_k fun K9 hK9 => ?_
    refine awp_seq_se KT_ok hc mixed rfl (q := 0) (by kernel_rfl) (by kernel_rfl) fun K10 hK10 => ?_
    have hJ10 : ∀ τ' H', (∃ τ1 H1, ((g = (noRol, 510)) ∨ (g.2 = 0 ∧ seeG g.1 p = g ∧ VR g.1)) ∧ H1 = [.cells [.d (bytesD x.ws), .d (bD x.slk), .d (spsD x.steps)], .cells (avs (spC s)), .cells [.d (bD k.1), .d (bD k.2)], .cells (avs (rolC r)), .cells (avs (repC p)), .cells (avs (gotC g))] ∧ τ1 = frL [(3, .op 0 0), (4, .op 1 0), (5, .op 2 0), (7, .d (.val (.bool true))), (8, .op 3 0), (9, .op 4 0), (10, .op 5 0), (65, .d (.val (.bool false)))] ∧ Rt τ' H' τ1 H1) → K10 τ' H' := by
      rintro τ' H' ⟨_, _, hgg, rfl, rfl, hrt⟩
      refine hK10 _ _ (awp_rt hp hrt ?_)
      clear hrt
      refine awp_cond rfl (fun ht => ?_) (fun ht => ?_)
      · cases ht
      · refine awp_skip (hK9 _ _ ?_)
        refine awp_seq_k fun K11 hK11 => ?_
        refine awp_seq_se KT_ok hc mixed rfl (q := 0) (by kernel_rfl) (by kernel_rfl) fun K12 hK12 => ?_
        have hJ12 : ∀ τ' H', (∃ τ1 H1, H1 = [.cells [.d (bytesD x.ws), .d (bD x.slk), .d (spsD x.steps)], .cells (avs (spC s)), .cells [.d (bD k.1), .d (bD k.2)], .cells (avs (rolC r)), .cells (avs (repC p)), .cells (avs (gotC g))] ∧ τ1 = frL [(3, .op 0 0), (4, .op 1 0), (5, .op 2 0), (7, .d (.val (.bool true))), (8, .op 3 0), (83, .d (.val (.bool false)))] ∧ Rt τ' H' τ1 H1) → K12 τ' H' := by
          rintro τ' H' ⟨_, _, rfl, rfl, hrt⟩
          refine hK12 _ _ (awp_rt hp hrt ?_)
          clear hrt
          refine awp_cond rfl (fun ht => ?_) (fun ht => ?_)
          · cases ht
          · refine awp_skip (hK11 _ _ ?_)
            refine awp_seq_s KT_ok hc rfl fun K13 hK13 => ?_
            simp -dsimp -implicitDefEqProofs (disch := first | assumption | omega | (simp [maxLen, avs_len] <;> omega) | decide) only [sT_load, sT_call0, oK_some, q_o, loadF, ↓reduceIte, q_b, ifp, q_f, q_s, q_l, q_n, Nat.reduceEqDiff, avs_nil, avs_cons, takeD_all, iD, bD, oD, intsD, bytesD, intssD, Nat.reduceAdd, gotC, bytesD, spsD, spC, rolC, repC, sz_29, ag_29]
            refine kc_by (ready_v hvr) rfl ?_
            simp -dsimp -implicitDefEqProofs (disch := first | assumption | omega | (simp [maxLen, avs_len] <;> omega) | decide) only [sT_assign, sT_nil, ↓reduceIte, q_b, q_f, intsD]
            refine hK13 _ _ ?_
            refine awp_seq_k fun K14 hK14 => ?_
            refine awp_seq_s KT_ok hc rfl fun K15 hK15 => ?_
            rcases (show (readyG r).length = 0 ∨ ((readyG r).length ≠ 0 ∧ r.st ≠ 0) ∨ ((readyG r).length ≠ 0 ∧ r.st = 0) from by omega) with e1 | ⟨e1, e2⟩ | ⟨e1, e2⟩
            · simp -dsimp -implicitDefEqProofs (disch := first | assumption | omega | (simp [maxLen, avs_len] <;> omega) | decide) only [sT_move, sT_pick, sT_bin, sT_len, sT_nil, sT_g, oK_some, q_o, binF_v, lenF, builtinF, v_eql, ↓reduceIte, q_b, guardA_some, guardV_f, q_f, q_s, q_l, Nat.reduceEqDiff, beq_t, nb_f, gK_ff, eo_27]
              refine hK15 _ _ ?_
              refine awp_cond rfl (fun ht => ?_) (fun ht => ?_)
              · refine awp_seq_s KT_ok hc rfl fun K16 hK16 => ?_
                simp -dsimp -implicitDefEqProofs (disch := first | assumption | omega | (simp [maxLen, avs_len] <;> omega) | decide) only [sT_move, sT_assign, sT_nil, ↓reduceIte, q_b, q_f, Nat.reduceEqDiff]
                refine hK16 _ _ ?_
                refine awp_ret ?_
                show closeA _ _ = _
                simp (disch := first | assumption | omega | (simp [maxLen, avs_len] <;> omega) | decide) only [closeA, retV, deep_d, Nat.reduceAdd, Nat.zero_add, D.fix, frL_get, ↓reduceIte, Option.map_some, List.length_cons, List.length_nil]
              · cases ht
            · simp -dsimp -implicitDefEqProofs (disch := first | assumption | omega | (simp [maxLen, avs_len] <;> omega) | decide) only [sT_move, sT_pick, sT_load, sT_fa, sT_bin, sT_len, sT_nil, sT_g, oK_some, q_o, loadF, fieldAddrF, binF_v, lenF, builtinF, v_eql, v_neq, ↓reduceIte, q_b, ifp, guardA_some, guardV_f, q_f, q_s, q_l, q_n, Nat.reduceEqDiff, Nat.reduceAdd, beq_f, bne_t, nb_t, gK_tt, eo_27, sz_3, ag_3, fo_29_6]
              refine hK15 _ _ ?_
              refine awp_cond rfl (fun ht => ?_) (fun ht => ?_)
              · refine awp_seq_s KT_ok hc rfl fun K17 hK17 => ?_
                simp -dsimp -implicitDefEqProofs (disch := first | assumption | omega | (simp [maxLen, avs_len] <;> omega) | decide) only [sT_move, sT_assign, sT_nil, ↓reduceIte, q_b, q_f, Nat.reduceEqDiff]
                refine hK17 _ _ ?_
                refine awp_ret ?_
                show closeA _ _ = _
                simp (disch := first | assumption | omega | (simp [maxLen, avs_len] <;> omega) | decide) only [closeA, retV, deep_d, Nat.reduceAdd, Nat.zero_add, D.fix, frL_get, ↓reduceIte, Option.map_some, List.length_cons, List.length_nil]
              · cases ht
            · have hn0 : 0 ≤ k.1 % ((readyG r).length : Int) := Int.emod_nonneg _ (by omega)
              have hn1 : k.1 % ((readyG r).length : Int) < (readyG r).length := Int.emod_lt_of_pos _ (by omega)
              have hn2 : 0 ≤ k.2 % ((readyG r).length : Int) := Int.emod_nonneg _ (by omega)
              have hn3 : k.2 % ((readyG r).length : Int) < (readyG r).length := Int.emod_lt_of_pos _ (by omega)
              obtain ⟨a, ha⟩ : ∃ a, nth (readyG r) (k.1 % ((readyG r).length : Int)).toNat = a := ⟨_, rfl⟩
              obtain ⟨b, hb⟩ : ∃ b, nth (readyG r) (k.2 % ((readyG r).length : Int)).toNat = b := ⟨_, rfl⟩
              have ham : a ∈ readyG r := ha ▸ nth_mem (by omega)
              have hbm : b ∈ readyG r := hb ▸ nth_mem (by omega)
              have ue := see_order2 hvr e2 ham
              have ve := see_order2 hvr e2 hbm
              have uv := hvr.seeG ue
              have vv := hvr.seeG ve
              have we := see_order3 hvr e2 ham hbm
              have wv := uv.seeG we
              have wo := see_order hvr e2 ham hbm
              obtain ⟨u, hu⟩ : ∃ u, seeG r (goodR r a) = u := ⟨_, rfl⟩
              obtain ⟨v, hv⟩ : ∃ v, seeG r (goodR r b) = v := ⟨_, rfl⟩
              rw [hu, hv] at wo
              rw [hu] at uv we wv
              rw [hv] at vv
              obtain ⟨w, hw⟩ : ∃ w, seeG u.1 (goodR r b) = w := ⟨_, rfl⟩
              rw [hw] at we wv wo
              simp -dsimp -implicitDefEqProofs (disch := first | assumption | omega | (simp [maxLen, avs_len] <;> omega) | decide) only [sT_move, sT_pick, sT_load, sT_fa, sT_bin, sT_len, sT_nil, sT_g, oK_some, q_o, loadF, fieldAddrF, binF_v, lenF, builtinF, v_eql, v_neq, ↓reduceIte, q_b, ifp, guardA_some, guardV_f, q_f, q_s, q_l, q_n, Nat.reduceEqDiff, Nat.reduceAdd, beq_f, bne_f, nb_t, gK_tt, eo_27, sz_3, ag_3, fo_29_6]
              refine hK15 _ _ ?_
              refine awp_cond rfl (fun ht => ?_) (fun ht => ?_)
              · cases ht
              · refine awp_skip (hK14 _ _ ?_)
                refine awp_seq_se KT_ok hc mixed rfl (q := 2) (by kernel_rfl) (by kernel_rfl) fun K18 hK18 => ?_
                simp -dsimp -implicitDefEqProofs (disch := first | assumption | omega | (simp [maxLen, avs_len] <;> omega) | decide) only [sE_move, sE_load, sE_ia, sE_bin, sE_conv, sE_len, sE_call0, oK_some, q_o, loadF, ixO, indexAddrF, binF_v, convF, lenF, builtinF, v_rem, ↓reduceIte, q_b, ifp, q_f, q_s, q_l, List.replicate_zero, List.replicate_succ, q_n, Nat.reduceEqDiff, takeD_all, get_map, w_i64, iD, Nat.reduceAdd, Int.toNat_zero, ha, sz_29, ag_29, eo_61, sz_5, ag_5, ik_5, sz_3, ag_3, ik_3, eo_27]
                refine kc_by (show PCalls Try.prog 33 [rolD r, iD a] (.d (repD (goodR r a))) from goodr_c r a) rfl ?_
                simp -dsimp -implicitDefEqProofs (disch := first | assumption | omega | (simp [maxLen, avs_len] <;> omega) | decide) only [sE_move, sE_load, sE_ia, sE_bin, sE_conv, sE_len, sE_call0, oK_some, q_o, loadF, ixO, indexAddrF, binF_v, convF, lenF, builtinF, v_rem, ↓reduceIte, q_b, ifp, q_f, q_s, q_l, q_n, Nat.reduceEqDiff, takeD_all, get_map, w_i64, iD, oD, Nat.reduceAdd, Int.reduceToNat, goodR, repD, repC, hb, sz_29, ag_29, eo_61, sz_5, ag_5, ik_5, sz_3, ag_3, ik_3, eo_27]
                refine kc_by (show PCalls Try.prog 33 [rolD r, iD b] (.d (repD (goodR r b))) from goodr_c r b) rfl ?_
                simp -dsimp -implicitDefEqProofs (disch := first | assumption | omega | (simp [maxLen, avs_len] <;> omega) | decide) only [sE_alloc, sE_store, sE_nil, oK_some, q_o, layF, layEF, storeF, ↓reduceIte, q_b, ifp, q_f, q_s, q_l, as_dagg, q_a, D.one, Value.oneCell', q_n, Nat.reduceEqDiff, shB, appB, killAll, map_d, avs_nil, avs_cons, iD, oD, Nat.reduceAdd, layEF, frzF, goodR, repD, repC, sz_31, za_31]
                refine hK18 _ _ ?_
                refine awp_seq_se KT_ok hc mixed rfl (q := 2) (by kernel_rfl) (by kernel_rfl) fun K19 hK19 => ?_
                simp -dsimp -implicitDefEqProofs (disch := first | assumption | omega | (simp [maxLen, avs_len] <;> omega) | decide) only [sE_load, sE_call0, oK_some, q_o, loadF, ↓reduceIte, q_b, ifp, q_f, q_s, q_l, List.replicate_zero, List.replicate_succ, q_n, Nat.reduceEqDiff, takeD_all, Nat.reduceAdd, sz_29, ag_29, sz_31, ag_31]
                refine kc_by (see_v hvr (p := goodR r a) (good_i64 hvr ham) hu) rfl ?_
                simp -dsimp -implicitDefEqProofs (disch := first | assumption | omega | (simp [maxLen, avs_len] <;> omega) | decide) only [sE_load, sE_call0, oK_some, q_o, loadF, ↓reduceIte, q_b, ifp, q_f, q_s, q_l, Nat.reduceEqDiff, takeD_all, iD, intsD, intssD, Nat.reduceAdd, gotD, sz_29, ag_29, sz_31, ag_31]
                refine kc_by (see_v hvr (p := goodR r b) (good_i64 hvr hbm) hv) rfl ?_
                simp -dsimp -implicitDefEqProofs (disch := first | assumption | omega | (simp [maxLen, avs_len] <;> omega) | decide) only [sE_alloc, sE_store, sE_nil, oK_some, q_o, layF, layEF, storeF, ↓reduceIte, q_b, ifp, q_f, q_s, q_l, as_dagg, q_a, D.one, Value.oneCell', and_self, q_n, Nat.reduceEqDiff, shB, appB, killAll, map_d, avs_nil, avs_cons, iD, intsD, intssD, Nat.reduceAdd, layEF, frzF, gotD, sz_40, za_40]
                refine hK19 _ _ ?_
                refine awp_seq_se KT_ok hc mixed rfl (q := 0) (by kernel_rfl) (by kernel_rfl) fun K20 hK20 => ?_
                simp -dsimp -implicitDefEqProofs (disch := first | assumption | omega | (simp [maxLen, avs_len] <;> omega) | decide) only [sE_load, sE_fa, sE_call0, oK_some, q_o, loadF, fieldAddrF, ↓reduceIte, q_b, ifp, q_f, q_s, q_l, List.append_nil, List.replicate_zero, q_n, Nat.reduceEqDiff, takeD_zero, takeD_cs, Nat.reduceAdd, fo_40_0, sz_29, ag_29]
                refine kc_by (validp_v uv) rfl ?_
                simp -dsimp -implicitDefEqProofs (disch := first | assumption | omega | (simp [maxLen, avs_len] <;> omega) | decide) only [sE_move, sE_load, sE_fa, sE_call0, oK_some, gK_t, q_o, loadF, fieldAddrF, ↓reduceIte, q_b, ifp, guardA_some, guardV_t, q_f, q_s, q_l, q_n, Nat.reduceEqDiff, takeD_zero, takeD_cs, Nat.reduceAdd, sE_gg, fo_40_0, sz_29, ag_29]
                refine kc_by (validp_v vv) rfl ?_
                simp -dsimp -implicitDefEqProofs (disch := first | assumption | omega | (simp [maxLen, avs_len] <;> omega) | decide) only [sE_move, sE_pick, sE_load, sE_fa, sE_call0, oK_some, gK_t, q_o, loadF, fieldAddrF, ↓reduceIte, q_b, ifp, guardA_some, guardV_t, q_f, q_s, q_l, q_n, Nat.reduceEqDiff, takeD_zero, takeD_cs, takeD_all, Nat.reduceAdd, sE_gg, fo_40_0, sz_29, ag_29, sz_31, ag_31]
                refine kc_by (see_v uv (p := goodR r b) (good_i64 hvr hbm) hw) rfl ?_
                simp -dsimp -implicitDefEqProofs (disch := first | assumption | omega | (simp [maxLen, avs_len] <;> omega) | decide) only [sE_load, sE_fa, sE_call0, oK_some, gK_t, q_o, loadF, fieldAddrF, ↓reduceIte, q_b, ifp, guardA_some, guardV_t, q_f, q_s, q_l, q_n, Nat.reduceEqDiff, takeD_zero, takeD_cs, takeD_all, iD, intsD, intssD, Nat.reduceAdd, sE_gg, gotD, fo_40_0, sz_29, ag_29, sz_31, ag_31]
                refine kc_by (see_v vv (p := goodR r a) (good_i64 hvr ham) wo.symm) rfl ?_
                simp -dsimp -implicitDefEqProofs (disch := first | assumption | omega | (simp [maxLen, avs_len] <;> omega) | decide) only [sE_call0, gK_t, q_o, ↓reduceIte, q_b, guardA_some, guardV_t, q_f, q_s, q_l, Nat.reduceEqDiff, iD, intsD, intssD, Nat.reduceAdd, sE_gg, gotD]
                refine kc_by (eq_same wv.short) rfl ?_
                simp -dsimp -implicitDefEqProofs (disch := first | assumption | omega | (simp [maxLen, avs_len] <;> omega) | decide) only [sE_move, sE_assign, sE_pick, sE_nil, oK_some, gK_t, q_o, ↓reduceIte, q_b, guardA_some, guardV_t, q_f, q_l, Nat.reduceEqDiff, killAll, Nat.reduceAdd, sE_gg]
                refine hK20 _ _ ?_
                refine awp_ret ?_
                show closeA _ _ = _
                simp (disch := first | assumption | omega | (simp [maxLen, avs_len] <;> omega) | decide) only [closeA, retV, deep_d, Nat.reduceAdd, Nat.zero_add, D.fix, frL_get, ↓reduceIte, Option.map_some, List.length_cons, List.length_nil]
        rcases hgg with rfl | ⟨hg2, hga, hgv⟩
        · simp -dsimp -implicitDefEqProofs (disch := first | assumption | omega | (simp [maxLen, avs_len] <;> omega) | decide) only [sE_move, sE_pick, sE_load, sE_fa, sE_bin, sE_nil, oK_some, q_o, loadF, fieldAddrF, binF_v, v_eql, ↓reduceIte, q_b, ifp, guardA_some, guardV_t, guardV_u, q_f, q_s, q_l, List.append_nil, List.replicate_zero, q_n, Nat.reduceEqDiff, killAll, avs_nil, avs_cons, iD, bD, oD, intsD, bytesD, intssD, Nat.reduceAdd, sE_gg, ly_move, ly_pick, ly_load, ly_fa, ly_un, ly_call0, gotC, bytesD, spsD, spC, rolC, repC, noRol, beq_f, gK_ff, fo_40_1, sz_38, ag_38]
          refine (hJ12 _ _ ⟨_, _, rfl, rfl, ?_⟩)
          refine Rt.end (less_cons (less_cons (less_cons (less_cons (less_cons (less_cons (less_nil _) rfl) rfl) rfl) rfl) rfl) rfl) ?_
          first | rfl | (simp only [intsD, boolsD, bytesD, intssD, bytessD, gcH, gcO, gcVs_avs, gcVs, gcV, gcV_d, fzH, fzO, fzVs_avs, fzVs, fzV, posN, avs_nil, avs_cons, List.map_cons, List.map_nil, List.getD_cons_zero, List.getD_cons_succ, ↓reduceIte, Nat.reduceEqDiff, Option.map_some, List.set_cons_zero, List.set_cons_succ, takeD_avs, takeD_all, Nat.mul_one, List.length_map, List.cons_append, List.nil_append, goodR, gotC, rwD, bytesD, spsD, spD, spC, rolD, rolC, repD, repC, gotD, List.cons_append, List.nil_append, noRol, bne_self_eq_false, beq_self_eq_true, Bool.bne_true, Bool.bne_false, Bool.true_bne, Bool.false_bne, Bool.not_true, Bool.not_false]; first | done | rfl)
        · obtain ⟨q, z⟩ := g
          have hz : z = 0 := hg2
          subst hz
          simp -dsimp -implicitDefEqProofs (disch := first | assumption | omega | (simp [maxLen, avs_len] <;> omega) | decide) only [sE_move, sE_load, sE_fa, sE_bin, sE_call0, oK_some, q_o, loadF, fieldAddrF, binF_v, v_eql, ↓reduceIte, q_b, ifp, guardA_some, guardV_t, q_f, q_s, q_l, List.append_nil, List.replicate_zero, q_n, Nat.reduceEqDiff, avs_nil, avs_cons, takeD_zero, takeD_cs, iD, bD, oD, intsD, bytesD, intssD, Nat.reduceAdd, sE_gg, gotC, bytesD, spsD, spC, rolC, repC, beq_self_eq_true, gK_tt, fo_40_1, sz_38, ag_38, fo_40_0, sz_29, ag_29]
          refine kc_by (validp_v hgv) rfl ?_
          simp -dsimp -implicitDefEqProofs (disch := first | assumption | omega | (simp [maxLen, avs_len] <;> omega) | decide) only [sE_move, sE_load, sE_fa, sE_un, sE_call0, oK_some, q_o, loadF, fieldAddrF, u_not, ↓reduceIte, q_b, ifp, guardA_some, guardV_t, guardV_f, q_f, q_s, q_l, q_n, Nat.reduceEqDiff, takeD_zero, takeD_cs, takeD_all, Nat.reduceAdd, sE_gg, nb_t, nb_f, gK_tt, fo_40_0, sz_29, ag_29, sz_31, ag_31]
          refine kc_by (see_v hgv (p := p) hpi hga) rfl ?_
          simp -dsimp -implicitDefEqProofs (disch := first | assumption | omega | (simp [maxLen, avs_len] <;> omega) | decide) only [sE_load, sE_call0, oK_some, q_o, loadF, ↓reduceIte, q_b, ifp, guardA_some, guardV_f, q_f, q_s, q_l, Nat.reduceEqDiff, takeD_all, iD, intsD, intssD, Nat.reduceAdd, sE_gg, gotD, nb_t, gK_tt, sz_40, ag_40]
          refine kc_by (eq_same (a := (q, 0)) hgv.short) rfl ?_
          simp -dsimp -implicitDefEqProofs (disch := first | assumption | omega | (simp [maxLen, avs_len] <;> omega) | decide) only [sE_pick, sE_un, sE_nil, oK_some, q_o, u_not, ↓reduceIte, q_b, guardA_some, guardV_t, guardV_f, q_f, q_l, Nat.reduceEqDiff, killAll, Nat.reduceAdd, sE_gg, nb_t, nb_f, gK_tt]
          refine (hJ12 _ _ ⟨_, _, rfl, rfl, ?_⟩)
          refine Rt.end (less_cons (less_cons (less_cons (less_cons (less_cons (less_cons (less_nil _) rfl) rfl) rfl) rfl) rfl) rfl) ?_
          first | rfl | (simp only [intsD, boolsD, bytesD, intssD, bytessD, gcH, gcO, gcVs_avs, gcVs, gcV, gcV_d, fzH, fzO, fzVs_avs, fzVs, fzV, posN, avs_nil, avs_cons, List.map_cons, List.map_nil, List.getD_cons_zero, List.getD_cons_succ, ↓reduceIte, Nat.reduceEqDiff, Option.map_some, List.set_cons_zero, List.set_cons_succ, takeD_avs, takeD_all, Nat.mul_one, List.length_map, List.cons_append, List.nil_append, goodR, gotC, rwD, bytesD, spsD, spD, spC, rolD, rolC, repD, repC, gotD, List.cons_append, List.nil_append, noRol, bne_self_eq_false, beq_self_eq_true, Bool.bne_true, Bool.bne_false, Bool.true_bne, Bool.false_bne, Bool.not_true, Bool.not_false]; first | done | rfl)
    rcases (show inB p.chip (allC r) = false ∨ (inB p.chip (allC r) = true ∧ p.no = r.frm) ∨ ((inB p.chip (allC r) = true ∧ p.no ≠ r.frm) ∧ p.no = r.to) ∨ ((inB p.chip (allC r) = true ∧ p.no ≠ r.frm) ∧ p.no ≠ r.to) from by cases inB p.chip (allC r) <;> simp <;> omega) with k1 | ⟨k1, k2⟩ | ⟨⟨k1, k2⟩, k3⟩ | ⟨⟨k1, k2⟩, k3⟩
    · have hgn : g = (noRol, 510) := by rw [← hg]; exact see_bad (.inl (by rw [inB_allC, decide_eq_false_iff_not, Decidable.not_not] at k1; exact k1))
      clear hg
      subst hgn
      simp -dsimp -implicitDefEqProofs (disch := first | assumption | omega | (simp [maxLen, avs_len] <;> omega) | decide) only [sE_move, sE_load, sE_fa, sE_bin, sE_call0, oK_some, q_o, loadF, fieldAddrF, binF_v, v_eql, ↓reduceIte, q_b, ifp, q_f, q_s, q_l, List.append_nil, List.replicate_zero, q_n, Nat.reduceEqDiff, Nat.reduceAdd, noRol, beq_f, fo_40_1, sz_38, ag_38, fo_31_0, sz_3, ag_3]
      refine kc_by (in_c (allC r) p.chip (by omega)) rfl ?_
      simp -dsimp -implicitDefEqProofs (disch := first | assumption | omega | (simp [maxLen, avs_len] <;> omega) | decide) only [sE_move, sE_pick, sE_load, sE_fa, sE_bin, sE_build, sE_call0, oK_some, q_o, loadF, fieldAddrF, binF_v, buildF, v_neq, v_bneq, ↓reduceIte, q_b, ifp, ifn, guardA_some, guardV_t, guardV_f, guardV_u, q_f, q_s, q_l, q_a, fill_cons, D.one, Value.oneCell', q_n, Nat.reduceEqDiff, takeD_all, Nat.reduceAdd, sE_gg, ly_move, ly_pick, ly_load, ly_fa, ly_bin, bne_self_eq_false, bne_t, nb_t, gK_tt, gK_ff, ifb_f, fo_40_1, sz_40, ag_40, sz_38, ag_38, bt_4, pa_40, pl_40_1, zc_40]
      refine kc_own (got_bad) ?_ ?_
      · simp (disch := first | assumption | omega | (simp [maxLen, avs_len] <;> omega) | decide) only [List.map_nil, deep_d, deep_agg, deepL_nil, deepL_cons, Nat.reduceAdd, D.fix, Option.map_some, Option.bind_some, List.length_nil, iD, intsD, intssD, gotD, noRol, noRol]
      simp -dsimp -implicitDefEqProofs (disch := first | assumption | omega | (simp [maxLen, avs_len] <;> omega) | decide) only [sE_pick, sE_un, sE_nil, oK_some, q_o, u_not, ↓reduceIte, q_b, guardA_some, guardV_t, guardV_f, q_f, q_l, Nat.reduceEqDiff, killAll, Nat.reduceAdd, sE_gg, nb_t, nb_f, gK_tt]
      refine (hJ10 _ _ ⟨_, _, .inl rfl, rfl, rfl, ?_⟩)
      refine Rt.end (less_cons (less_cons (less_cons (less_cons (less_cons (less_cons (less_cons (less_cons (less_nil _) rfl) rfl) rfl) rfl) rfl) rfl) rfl) rfl) ?_
      first | rfl | (simp only [intsD, boolsD, bytesD, intssD, bytessD, gcH, gcO, gcVs_avs, gcVs, gcV, gcV_d, fzH, fzO, fzVs_avs, fzVs, fzV, posN, avs_nil, avs_cons, List.map_cons, List.map_nil, List.getD_cons_zero, List.getD_cons_succ, ↓reduceIte, Nat.reduceEqDiff, Option.map_some, List.set_cons_zero, List.set_cons_succ, takeD_avs, takeD_all, Nat.mul_one, List.length_map, List.cons_append, List.nil_append, goodR, gotC, rwD, bytesD, spsD, spD, spC, rolD, rolC, repD, repC, gotD, List.cons_append, List.nil_append, noRol, bne_self_eq_false, beq_self_eq_true, Bool.bne_true, Bool.bne_false, Bool.true_bne, Bool.false_bne, Bool.not_true, Bool.not_false]; first | done | rfl)
    · have hg2 : (seeG r p).2 = 0 := see_err.2 (by
        rw [inB_allC, decide_eq_true_eq] at k1
        rintro (h | ⟨h, _⟩)
        · exact k1 h
        · exact h k2)
      have hga := see_again hvr hg2
      have hgv := hvr.seeG hg2
      rw [hg] at hg2 hga hgv
      simp -dsimp -implicitDefEqProofs (disch := first | assumption | omega | (simp [maxLen, avs_len] <;> omega) | decide) only [sE_move, sE_load, sE_fa, sE_bin, sE_call0, oK_some, q_o, loadF, fieldAddrF, binF_v, v_eql, ↓reduceIte, q_b, ifp, q_f, q_s, q_l, List.append_nil, List.replicate_zero, q_n, Nat.reduceEqDiff, Nat.reduceAdd, beq_t, fo_40_1, sz_38, ag_38, fo_31_0, sz_3, ag_3]
      refine kc_by (in_c (allC r) p.chip (by omega)) rfl ?_
      simp -dsimp -implicitDefEqProofs (disch := first | assumption | omega | (simp [maxLen, avs_len] <;> omega) | decide) only [sE_move, sE_pick, sE_load, sE_fa, sE_bin, sE_nil, oK_some, q_o, loadF, fieldAddrF, binF_v, v_eql, v_neq, v_bneq, ↓reduceIte, q_b, ifp, guardA_some, guardV_t, guardV_f, q_f, q_l, q_n, Nat.reduceEqDiff, killAll, Nat.reduceAdd, sE_gg, ly_load, ly_fa, ly_bin, ly_un, ly_build, ly_call0, bne_self_eq_false, beq_t, bne_f, nb_t, nb_f, gK_tt, gK_ff, fo_40_1, sz_38, ag_38, sz_3, ag_3, fo_31_1, fo_29_0, bt_4]
      refine (hJ10 _ _ ⟨_, _, .inr ⟨hg2, hga, hgv⟩, rfl, rfl, ?_⟩)
      refine Rt.end (less_cons (less_cons (less_cons (less_cons (less_cons (less_cons (less_cons (less_cons (less_nil _) rfl) rfl) rfl) rfl) rfl) rfl) rfl) rfl) ?_
      first | rfl | (simp only [intsD, boolsD, bytesD, intssD, bytessD, gcH, gcO, gcVs_avs, gcVs, gcV, gcV_d, fzH, fzO, fzVs_avs, fzVs, fzV, posN, avs_nil, avs_cons, List.map_cons, List.map_nil, List.getD_cons_zero, List.getD_cons_succ, ↓reduceIte, Nat.reduceEqDiff, Option.map_some, List.set_cons_zero, List.set_cons_succ, takeD_avs, takeD_all, Nat.mul_one, List.length_map, List.cons_append, List.nil_append, goodR, gotC, rwD, bytesD, spsD, spD, spC, rolD, rolC, repD, repC, gotD, List.cons_append, List.nil_append, noRol, bne_self_eq_false, beq_self_eq_true, Bool.bne_true, Bool.bne_false, Bool.true_bne, Bool.false_bne, Bool.not_true, Bool.not_false]; first | done | rfl)
    · have hg2 : (seeG r p).2 = 0 := see_err.2 (by
        rw [inB_allC, decide_eq_true_eq] at k1
        rintro (h | ⟨_, h⟩)
        · exact k1 h
        · exact h k3)
      have hga := see_again hvr hg2
      have hgv := hvr.seeG hg2
      rw [hg] at hg2 hga hgv
      simp -dsimp -implicitDefEqProofs (disch := first | assumption | omega | (simp [maxLen, avs_len] <;> omega) | decide) only [sE_move, sE_load, sE_fa, sE_bin, sE_call0, oK_some, q_o, loadF, fieldAddrF, binF_v, v_eql, ↓reduceIte, q_b, ifp, q_f, q_s, q_l, List.append_nil, List.replicate_zero, q_n, Nat.reduceEqDiff, Nat.reduceAdd, beq_t, fo_40_1, sz_38, ag_38, fo_31_0, sz_3, ag_3]
      refine kc_by (in_c (allC r) p.chip (by omega)) rfl ?_
      simp -dsimp -implicitDefEqProofs (disch := first | assumption | omega | (simp [maxLen, avs_len] <;> omega) | decide) only [sE_move, sE_pick, sE_load, sE_fa, sE_bin, sE_nil, oK_some, q_o, loadF, fieldAddrF, binF_v, v_eql, v_neq, v_bneq, ↓reduceIte, q_b, ifp, guardA_some, guardV_t, guardV_f, q_f, q_l, q_n, Nat.reduceEqDiff, killAll, Nat.reduceAdd, sE_gg, ly_load, ly_un, ly_build, ly_call0, bne_self_eq_false, beq_t, beq_f, bne_f, nb_t, gK_tt, gK_ff, fo_40_1, sz_38, ag_38, sz_3, ag_3, fo_31_1, fo_29_0, fo_29_1, bt_4]
      refine (hJ10 _ _ ⟨_, _, .inr ⟨hg2, hga, hgv⟩, rfl, rfl, ?_⟩)
      refine Rt.end (less_cons (less_cons (less_cons (less_cons (less_cons (less_cons (less_cons (less_cons (less_nil _) rfl) rfl) rfl) rfl) rfl) rfl) rfl) rfl) ?_
      first | rfl | (simp only [intsD, boolsD, bytesD, intssD, bytessD, gcH, gcO, gcVs_avs, gcVs, gcV, gcV_d, fzH, fzO, fzVs_avs, fzVs, fzV, posN, avs_nil, avs_cons, List.map_cons, List.map_nil, List.getD_cons_zero, List.getD_cons_succ, ↓reduceIte, Nat.reduceEqDiff, Option.map_some, List.set_cons_zero, List.set_cons_succ, takeD_avs, takeD_all, Nat.mul_one, List.length_map, List.cons_append, List.nil_append, goodR, gotC, rwD, bytesD, spsD, spD, spC, rolD, rolC, repD, repC, gotD, List.cons_append, List.nil_append, noRol, bne_self_eq_false, beq_self_eq_true, Bool.bne_true, Bool.bne_false, Bool.true_bne, Bool.false_bne, Bool.not_true, Bool.not_false]; first | done | rfl)
    · have hgn : g = (noRol, 510) := by rw [← hg]; exact see_bad (.inr ⟨k2, k3⟩)
      clear hg
      subst hgn
      simp -dsimp -implicitDefEqProofs (disch := first | assumption | omega | (simp [maxLen, avs_len] <;> omega) | decide) only [sE_move, sE_load, sE_fa, sE_bin, sE_call0, oK_some, q_o, loadF, fieldAddrF, binF_v, v_eql, ↓reduceIte, q_b, ifp, q_f, q_s, q_l, List.append_nil, List.replicate_zero, q_n, Nat.reduceEqDiff, Nat.reduceAdd, noRol, beq_f, fo_40_1, sz_38, ag_38, fo_31_0, sz_3, ag_3]
      refine kc_by (in_c (allC r) p.chip (by omega)) rfl ?_
      simp -dsimp -implicitDefEqProofs (disch := first | assumption | omega | (simp [maxLen, avs_len] <;> omega) | decide) only [sE_move, sE_pick, sE_load, sE_fa, sE_bin, sE_build, sE_call0, oK_some, q_o, loadF, fieldAddrF, binF_v, buildF, v_eql, v_neq, v_bneq, ↓reduceIte, q_b, ifp, ifn, guardA_some, guardV_t, guardV_f, q_f, q_s, q_l, q_a, fill_cons, D.one, Value.oneCell', q_n, Nat.reduceEqDiff, takeD_all, Nat.reduceAdd, sE_gg, bne_self_eq_false, beq_f, bne_t, nb_t, gK_tt, fo_40_1, sz_40, ag_40, sz_38, ag_38, sz_3, ag_3, fo_31_1, fo_29_0, fo_29_1, bt_4, pa_40, pl_40_1, zc_40]
      refine kc_own (got_bad) ?_ ?_
      · simp (disch := first | assumption | omega | (simp [maxLen, avs_len] <;> omega) | decide) only [List.map_nil, deep_d, deep_agg, deepL_nil, deepL_cons, Nat.reduceAdd, D.fix, Option.map_some, Option.bind_some, List.length_nil, iD, intsD, intssD, gotD, noRol, noRol]
      simp -dsimp -implicitDefEqProofs (disch := first | assumption | omega | (simp [maxLen, avs_len] <;> omega) | decide) only [sE_pick, sE_un, sE_nil, oK_some, q_o, u_not, ↓reduceIte, q_b, guardA_some, guardV_t, guardV_f, q_f, q_l, Nat.reduceEqDiff, killAll, Nat.reduceAdd, sE_gg, nb_t, nb_f, gK_tt]
      refine (hJ10 _ _ ⟨_, _, .inl rfl, rfl, rfl, ?_⟩)
      refine Rt.end (less_cons (less_cons (less_cons (less_cons (less_cons (less_cons (less_cons (less_cons (less_nil _) rfl) rfl) rfl) rfl) rfl) rfl) rfl) rfl) ?_
      first | rfl | (simp only [intsD, boolsD, bytesD, intssD, bytessD, gcH, gcO, gcVs_avs, gcVs, gcV, gcV_d, fzH, fzO, fzVs_avs, fzVs, fzV, posN, avs_nil, avs_cons, List.map_cons, List.map_nil, List.getD_cons_zero, List.getD_cons_succ, ↓reduceIte, Nat.reduceEqDiff, Option.map_some, List.set_cons_zero, List.set_cons_succ, takeD_avs, takeD_all, Nat.mul_one, List.length_map, List.cons_append, List.nil_append, goodR, gotC, rwD, bytesD, spsD, spD, spC, rolD, rolC, repD, repC, gotD, List.cons_append, List.nil_append, noRol, bne_self_eq_false, beq_self_eq_true, Bool.bne_true, Bool.bne_false, Bool.true_bne, Bool.false_bne, Bool.not_true, Bool.not_false]; first | done | rfl)
end Go.Proofs.Ytinefghmmbggeaa
