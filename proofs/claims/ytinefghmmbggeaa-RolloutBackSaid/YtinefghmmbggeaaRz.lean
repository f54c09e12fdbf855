/- The law RolloutBack: its walk. -/
import Derived.Test.YtinefghmmbggeaaQ
import Derived.Test.YtinefghmmbggeaaRy
set_option linter.unusedVariables false
set_option linter.unusedSimpArgs false
namespace Go.Proofs.Ytinefghmmbggeaa
open Go Go.RowKit
set_option maxRecDepth 100000 in
set_option linter.unusedVariables false in
set_option maxHeartbeats 4000000 in
theorem back_law (x : Rw) (hx : RwOk x) (b : List Int) (hb : b.length ≤ maxLen ∧ ∀ n ∈ b, B8 n) : PCalls Try.prog 6 [rwD x, bytesD b] (.d (.val (.bool true))) := by
  refine pcalls_of0 (fn := Try.f6) (by kernel_rfl) Try.func6 rfl (Nat.le_of_ble_eq_true rfl) fun c hc hp => ?_
  refine awp_less (τ' := frL [(0, .d (rwD x)), (1, .d (bytesD b))]) (less_cons (less_cons (less_nil _) rfl) rfl) ?_
  have hb1 := hb.1
  obtain ⟨r, hmr⟩ : ∃ r, madeR x = r := ⟨_, rfl⟩
  have hvr : VR r := hmr ▸ madeK_ok hx 24
  obtain ⟨T, hT⟩ : ∃ T, srtL (uptoL r (min r.pos ((r.wv.length : Int) - 1) + 1)) = T := ⟨_, rfl⟩
  have hTl : T.length ≤ 64 := hT ▸ touched_len hvr _
  obtain ⟨g, hg⟩ : ∃ g, backG r = g := ⟨_, rfl⟩
  obtain ⟨l, hl⟩ : ∃ l, ordL b T.length = l := ⟨_, rfl⟩
  have hlo : OrdOk l T.length := hl ▸ ord_ok b T.length
  have hll := hlo.len
  have hp0 := hvr.p0
  have hw1 := hvr.w.one
  have hw2 := hvr.w.few
  have hpo := hvr.ok.p
  have hpo1 := hpo.1
  have hpo2 := hpo.2
  refine awp_seq_s KT_ok hc rfl fun K1 hK1 => ?_
  simp -dsimp -implicitDefEqProofs (disch := first | assumption | omega | (simp [maxLen, avs_len] <;> omega) | decide) only [sT_assign, sT_box, deadH, sT_nil, oK_some, q_o, layF, ↓reduceIte, q_b, q_f, q_s, q_l, as_dagg, D.one, Value.oneCell', bD, bytesD, deadH, rwD, bytesD, spsD]
  refine hK1 _ _ ?_
  refine awp_seq_s KT_ok hc rfl fun K2 hK2 => ?_
  simp -dsimp -implicitDefEqProofs (disch := first | assumption | omega | (simp [maxLen, avs_len] <;> omega) | decide) only [sT_call0, q_f, q_s, q_l, q_n]
  refine kc_by (examples_c) rfl ?_
  simp -dsimp -implicitDefEqProofs (disch := first | assumption | omega | (simp [maxLen, avs_len] <;> omega) | decide) only [sT_assign, sT_nil, ↓reduceIte, q_b, q_f]
  refine hK2 _ _ ?_
  refine awp_seq_k fun K3 hK3 => ?_
  refine awp_seq_s KT_ok hc rfl fun K4 hK4 => ?_
  simp -dsimp -implicitDefEqProofs (disch := first | assumption | omega | (simp [maxLen, avs_len] <;> omega) | decide) only [sT_move, sT_un, sT_nil, oK_some, u_not, ↓reduceIte, q_b, q_f]
  refine hK4 _ _ ?_
  refine awp_cond rfl (fun ht => ?_) (fun ht => ?_)
  · cases ht
  · refine awp_skip (hK3 _ _ ?_)
    refine awp_seq_s KT_ok hc rfl fun K5 hK5 => ?_
    simp -dsimp -implicitDefEqProofs (disch := first | assumption | omega | (simp [maxLen, avs_len] <;> omega) | decide) only [sT_load, sT_call0, oK_some, q_o, loadF, ↓reduceIte, q_b, ifp, q_f, q_s, q_l, q_n, Nat.reduceEqDiff, takeD_all, sz_25, ag_25]
    refine kc_by (show PCalls Try.prog 11 [rwD x] (.d (rolD r)) from hmr ▸ madex_c x hx) rfl ?_
    simp -dsimp -implicitDefEqProofs (disch := first | assumption | omega | (simp [maxLen, avs_len] <;> omega) | decide) only [sT_alloc, sT_store, deadH, sT_nil, oK_some, q_o, layF, storeF, ↓reduceIte, q_b, ifp, q_f, q_s, q_l, as_dagg, q_a, D.one, Value.oneCell', q_n, Nat.reduceEqDiff, map_d, avs_nil, avs_cons, iD, intsD, intssD, Nat.reduceAdd, deadH, rolD, rolC, sz_29, za_29]
    refine hK5 _ _ ?_
    refine awp_seq_s KT_ok hc rfl fun K6 hK6 => ?_
    simp -dsimp -implicitDefEqProofs (disch := first | assumption | omega | (simp [maxLen, avs_len] <;> omega) | decide) only [sT_load, sT_call0, oK_some, q_o, loadF, ↓reduceIte, q_b, ifp, q_f, q_s, q_l, q_n, takeD_all, Nat.reduceAdd, sz_29, ag_29]
    refine kc_by (show PCalls Try.prog 25 [rolD r] (.d (gotD g)) from hg ▸ back1_c r hvr.short hvr.ok) rfl ?_
    simp -dsimp -implicitDefEqProofs (disch := first | assumption | omega | (simp [maxLen, avs_len] <;> omega) | decide) only [sT_alloc, sT_store, deadH, sT_nil, oK_some, q_o, layF, storeF, ↓reduceIte, q_b, ifp, q_f, q_s, q_l, as_dagg, q_a, D.one, Value.oneCell', q_n, Nat.reduceEqDiff, map_d, avs_nil, avs_cons, iD, intsD, intssD, Nat.reduceAdd, deadH, gotD, sz_40, za_40]
    refine hK6 _ _ ?_
    refine awp_seq_k fun K7 hK7 => ?_
    refine awp_seq_s KT_ok hc rfl fun K8 hK8 => ?_
    rcases (show r.st = 2 ∨ r.st = 4 ∨ (r.st ≠ 2 ∧ r.st ≠ 4) from by omega) with e1 | e1 | e1
    · have hgn : g = (noRol, 510) := hg ▸ back_no (.inl e1)
      clear hg
      subst hgn
      simp -dsimp -implicitDefEqProofs (disch := first | assumption | omega | (simp [maxLen, avs_len] <;> omega) | decide) only [sT_move, sT_pick, sT_load, sT_fa, sT_bin, sT_nil, sT_g, oK_some, q_o, loadF, fieldAddrF, binF_v, v_eql, ↓reduceIte, q_b, ifp, guardA_some, guardV_f, q_f, q_l, q_n, Nat.reduceEqDiff, Nat.reduceAdd, beq_t, nb_f, gK_ff, fo_29_6, sz_3, ag_3]
      refine hK8 _ _ ?_
      refine awp_cond rfl (fun ht => ?_) (fun ht => ?_)
      · refine awp_seq_s KT_ok hc rfl fun K9 hK9 => ?_
        simp -dsimp -implicitDefEqProofs (disch := first | assumption | omega | (simp [maxLen, avs_len] <;> omega) | decide) only [sT_move, sT_assign, sT_pick, sT_load, sT_fa, sT_bin, sT_nil, sT_g, oK_some, q_o, loadF, fieldAddrF, binF_v, v_eql, ↓reduceIte, q_b, ifp, guardA_some, guardV_t, q_f, q_l, q_n, Nat.reduceEqDiff, Nat.reduceAdd, beq_self_eq_true, gK_tt, beq_self_eq_true, fo_40_1, sz_38, ag_38]
        refine hK9 _ _ ?_
        refine awp_ret ?_
        show closeA _ _ = _
        simp (disch := first | assumption | omega | (simp [maxLen, avs_len] <;> omega) | decide) only [closeA, retV, deep_d, Nat.reduceAdd, Nat.zero_add, D.fix, frL_get, ↓reduceIte, Option.map_some, List.length_cons, List.length_nil]
      · cases ht
    · have hgn : g = (noRol, 510) := hg ▸ back_no (.inr e1)
      clear hg
      subst hgn
      simp -dsimp -implicitDefEqProofs (disch := first | assumption | omega | (simp [maxLen, avs_len] <;> omega) | decide) only [sT_move, sT_pick, sT_load, sT_fa, sT_bin, sT_nil, sT_g, oK_some, q_o, loadF, fieldAddrF, binF_v, v_eql, ↓reduceIte, q_b, ifp, guardA_some, guardV_f, q_f, q_l, q_n, Nat.reduceEqDiff, Nat.reduceAdd, beq_t, beq_f, nb_t, gK_tt, fo_29_6, sz_3, ag_3]
      refine hK8 _ _ ?_
      refine awp_cond rfl (fun ht => ?_) (fun ht => ?_)
      · refine awp_seq_s KT_ok hc rfl fun K10 hK10 => ?_
        simp -dsimp -implicitDefEqProofs (disch := first | assumption | omega | (simp [maxLen, avs_len] <;> omega) | decide) only [sT_move, sT_assign, sT_pick, sT_load, sT_fa, sT_bin, sT_nil, sT_g, oK_some, q_o, loadF, fieldAddrF, binF_v, v_eql, ↓reduceIte, q_b, ifp, guardA_some, guardV_t, q_f, q_l, q_n, Nat.reduceEqDiff, Nat.reduceAdd, beq_self_eq_true, gK_tt, beq_self_eq_true, fo_40_1, sz_38, ag_38]
        refine hK10 _ _ ?_
        refine awp_ret ?_
        show closeA _ _ = _
        simp (disch := first | assumption | omega | (simp [maxLen, avs_len] <;> omega) | decide) only [closeA, retV, deep_d, Nat.reduceAdd, Nat.zero_add, D.fix, frL_get, ↓reduceIte, Option.map_some, List.length_cons, List.length_nil]
      · cases ht
    · have hgn : g = (backR r, 0) := hg ▸ back_yes (by omega)
      clear hg
      subst hgn
      have hbs : BackI r.frm T l (backR r) 0 := hT ▸ BackI.start hvr l
      have hrd : readyG (backR r) = T := hT ▸ back_ready hvr
      have hq2 : (backR r).st = 2 := rfl
      obtain ⟨q0, hq0⟩ : ∃ q, backR r = q := ⟨_, rfl⟩
      rw [hq0] at hbs hrd hq2 ⊢
      simp -dsimp -implicitDefEqProofs (disch := first | assumption | omega | (simp [maxLen, avs_len] <;> omega) | decide) only [sT_move, sT_pick, sT_load, sT_fa, sT_bin, sT_nil, sT_g, oK_some, q_o, loadF, fieldAddrF, binF_v, v_eql, ↓reduceIte, q_b, ifp, guardA_some, guardV_f, q_f, q_l, q_n, Nat.reduceEqDiff, Nat.reduceAdd, beq_f, nb_t, gK_tt, fo_29_6, sz_3, ag_3]
      refine hK8 _ _ ?_
      refine awp_cond rfl (fun ht => ?_) (fun ht => ?_)
      · cases ht
      · refine awp_skip (hK7 _ _ ?_)
        refine awp_seq_s KT_ok hc rfl fun K11 hK11 => ?_
        simp -dsimp -implicitDefEqProofs (disch := first | assumption | omega | (simp [maxLen, avs_len] <;> omega) | decide) only [sT_load, sT_fa, sT_bin, sT_len, sT_min, sT_call0, oK_some, q_o, loadF, fieldAddrF, binF_v, lenF, builtinF, v_add, v_sub, ↓reduceIte, q_b, ifp, q_f, q_s, q_l, q_n, Nat.reduceEqDiff, takeD_all, Nat.reduceAdd, sz_29, ag_29, fo_29_4, sz_3, ag_3, fo_29_2, sz_26, ag_26, eo_26]
        refine kc_by (show PCalls Try.prog 30 [rolD r, iD (min r.pos ((r.wv.length : Int) - 1) + 1)] (.d (intsD T)) from hT ▸ uptop_c r _ hvr.short) rfl ?_
        simp -dsimp -implicitDefEqProofs (disch := first | assumption | omega | (simp [maxLen, avs_len] <;> omega) | decide) only [sT_assign, sT_nil, ↓reduceIte, q_b, q_f, intsD]
        refine hK11 _ _ ?_
        refine awp_seq_k fun K12 hK12 => ?_
        refine awp_seq_s KT_ok hc rfl fun K13 hK13 => ?_
        simp -dsimp -implicitDefEqProofs (disch := first | assumption | omega | (simp [maxLen, avs_len] <;> omega) | decide) only [sT_move, sT_load, sT_fa, sT_bin, sT_call0, sT_g, oK_some, q_o, loadF, fieldAddrF, binF_v, v_neq, ↓reduceIte, q_b, ifp, guardA_some, guardV_f, q_f, q_s, q_l, q_n, Nat.reduceEqDiff, takeD_zero, takeD_cs, Nat.reduceAdd, bne_self_eq_false, nb_t, gK_tt, bne_self_eq_false, fo_40_1, sz_38, ag_38, fo_40_0, sz_29, ag_29]
        refine kc_by (validp_v hbs.v) rfl ?_
        simp -dsimp -implicitDefEqProofs (disch := first | assumption | omega | (simp [maxLen, avs_len] <;> omega) | decide) only [sT_move, sT_pick, sT_load, sT_fa, sT_bin, sT_un, sT_call0, sT_g, oK_some, q_o, loadF, fieldAddrF, binF_v, u_not, v_neq, ↓reduceIte, q_b, ifp, guardA_some, guardV_f, q_f, q_s, q_l, q_n, Nat.reduceEqDiff, takeD_zero, takeD_cs, Nat.reduceAdd, bne_f, nb_t, nb_f, gK_tt, fo_40_0, sz_29, ag_29, fo_29_6, sz_3, ag_3]
        refine kc_by (show PCalls Try.prog 19 [rolD q0] (.d (intsD T)) from hrd ▸ ready_v hbs.v) rfl ?_
        simp -dsimp -implicitDefEqProofs (disch := first | assumption | omega | (simp [maxLen, avs_len] <;> omega) | decide) only [sT_move, sT_call0, sT_g, q_o, ↓reduceIte, q_b, guardA_some, guardV_f, q_f, q_s, q_l, q_n, Nat.reduceEqDiff, intsD, Nat.reduceAdd, nb_t, gK_tt]
        refine kc_by (ex_ints T (by omega)) rfl ?_
        simp -dsimp -implicitDefEqProofs (disch := first | assumption | omega | (simp [maxLen, avs_len] <;> omega) | decide) only [sT_pick, sT_un, sT_nil, sT_g, oK_some, q_o, u_not, ↓reduceIte, q_b, guardA_some, guardV_f, q_f, q_l, Nat.reduceEqDiff, nb_t, nb_f, gK_tt]
        refine hK13 _ _ ?_
        refine awp_cond rfl (fun ht => ?_) (fun ht => ?_)
        · cases ht
        · refine awp_skip (hK12 _ _ ?_)
          refine awp_seq_s KT_ok hc rfl fun K14 hK14 => ?_
          simp -dsimp -implicitDefEqProofs (disch := first | assumption | omega | (simp [maxLen, avs_len] <;> omega) | decide) only [sT_move, sT_len, sT_call0, oK_some, q_o, lenF, builtinF, ↓reduceIte, q_b, q_f, q_s, q_l, q_n, Nat.reduceEqDiff, Nat.reduceAdd, eo_27]
          refine kc_by (show PCalls Try.prog 32 [iD T.length, bytesD b] (.d (intsD l)) from hl ▸ order_c T.length b hTl hb) rfl ?_
          simp -dsimp -implicitDefEqProofs (disch := first | assumption | omega | (simp [maxLen, avs_len] <;> omega) | decide) only [sT_assign, sT_nil, ↓reduceIte, q_b, q_f, intsD]
          refine hK14 _ _ ?_
          refine awp_seq_s KT_ok hc rfl fun K15 hK15 => ?_
          simp -dsimp -implicitDefEqProofs (disch := first | assumption | omega | (simp [maxLen, avs_len] <;> omega) | decide) only [sT_load, sT_fa, sT_alloc, sT_store, deadH, sT_nil, oK_some, q_o, loadF, fieldAddrF, layF, storeF, ↓reduceIte, q_b, ifp, q_f, q_l, q_s, q_a, AV.one, D.one, Value.oneCell', q_n, Nat.reduceEqDiff, map_d, avs_nil, avs_cons, takeD_zero, takeD_cs, Nat.reduceAdd, deadH, fo_40_0, sz_29, ag_29, za_29]
          refine hK15 _ _ ?_
          refine awp_seq_k fun K16 hK16 => ?_
          refine awp_seq_s KT_ok hc rfl fun K17 hK17 => ?_
          simp -dsimp -implicitDefEqProofs (disch := first | assumption | omega | (simp [maxLen, avs_len] <;> omega) | decide) only [sT_assign, sT_nil, q_f]
          refine hK17 _ _ ?_
          refine awp_block ?_
          refine awp_loop_rt hp (fun τ' H' mm => ∃ (k : Nat) (q : Rol), (BackI r.frm T l q k ∧ k ≤ T.length) ∧ mm = 1000 - k ∧ H' = [.cells [.d (bytesD x.ws), .d (bD x.slk), .d (spsD x.steps)], .cells (avs (rolC r)), .cells (avs (rolC q))] ∧ τ' = frL [(1, .d (bytesD b)), (2, .op 0 0), (5, .d (.val (.bool true))), (6, .op 1 0), (8, .d (intsD T)), (9, .d (intsD l)), (10, .op 2 0), (11, .d (iD k))]) (1000) ?_ ⟨0, q0, ⟨hbs, Nat.zero_le _⟩, rfl, rfl, rfl⟩ ?_
          · refine Rt.trans (Rt.gc (keep := [0,1,3]) (by decide) (by simp [])) ?_
            refine Rt.end (less_cons (less_cons (less_cons (less_cons (less_cons (less_cons (less_cons (less_cons (less_nil _) rfl) rfl) rfl) rfl) rfl) rfl) rfl) rfl) ?_
            first | rfl | (simp only [intsD, boolsD, bytesD, intssD, bytessD, gcH, gcO, gcVs_avs, gcVs, gcV, gcV_d, fzH, fzO, fzVs_avs, fzVs, fzV, posN, avs_nil, avs_cons, List.map_cons, List.map_nil, List.getD_cons_zero, List.getD_cons_succ, ↓reduceIte, Nat.reduceEqDiff, Option.map_some, List.set_cons_zero, List.set_cons_succ, takeD_avs, takeD_all, Nat.mul_one, List.length_map, List.cons_append, List.nil_append, goodR, gotC, rwD, bytesD, spsD, spD, spC, rolD, rolC, repD, repC, gotD, List.cons_append, List.nil_append, bne_self_eq_false, beq_self_eq_true, Bool.bne_true, Bool.bne_false, Bool.true_bne, Bool.false_bne, Bool.not_true, Bool.not_false]; first | done | rfl)
          rintro τ' H' mm ⟨k, q, ⟨hi, hk⟩, rfl, rfl, rfl⟩
          refine awp_seq_k fun K18 hK18 => ?_
          refine awp_seq_s KT_ok hc rfl fun K19 hK19 => ?_
          simp -dsimp -implicitDefEqProofs (disch := first | assumption | omega | (simp [maxLen, avs_len] <;> omega) | decide) only [sT_move, sT_bin, sT_len, sT_nil, oK_some, q_o, binF_v, lenF, builtinF, v_lss, ↓reduceIte, q_b, q_f, q_s, Nat.reduceEqDiff, avs_nil, avs_cons, iD, bD, intsD, bytesD, intssD, bytesD, spsD, rolC, eo_27]
          refine hK19 _ _ ?_
          refine awp_cond rfl (fun ht => ?_) (fun ht => ?_)
          · have hkl : k < T.length := by
              have : k < l.length := by simpa using ht
              omega
            obtain ⟨n, hn⟩ : ∃ n, nth T (nth l k).toNat = n := ⟨_, rfl⟩
            have hjm := hlo.mem _ (nth_mem (show k < l.length by omega))
            have hjm1 := hjm.1
            have hjm2 := hjm.2
            obtain ⟨hci, hs1, q', hs2, hi', hin⟩ := hi.step hlo hkl hn
            have hleft := hi'.left hlo
            obtain ⟨R, hR⟩ : ∃ R, readyG q' = R := ⟨_, rfl⟩
            rw [hR] at hleft hin
            refine awp_skip (hK18 _ _ ?_)
            refine awp_seq_k fun K20 hK20 => ?_
            refine awp_block ?_
            refine awp_seq_s KT_ok hc rfl fun K21 hK21 => ?_
            simp -dsimp -implicitDefEqProofs (disch := first | assumption | omega | (simp [maxLen, avs_len] <;> omega) | decide) only [sT_move, sT_assign, sT_load, sT_ia, sT_nil, oK_some, q_o, loadF, ixO, indexAddrF, ↓reduceIte, q_b, ifp, q_f, Int.toNat_natCast, q_n, Nat.reduceEqDiff, get_map, iD, hn, eo_27, sz_3, ag_3]
            refine hK21 _ _ ?_
            refine awp_seq_s KT_ok hc rfl fun K22 hK22 => ?_
            simp -dsimp -implicitDefEqProofs (disch := first | assumption | omega | (simp [maxLen, avs_len] <;> omega) | decide) only [sT_move, sT_load, sT_fa, sT_build, sT_call0, oK_some, q_o, loadF, fieldAddrF, buildF, ↓reduceIte, q_b, ifp, ifn, q_f, q_s, q_l, q_a, fill_cons, D.one, Value.oneCell', q_n, Nat.reduceEqDiff, takeD_all, Nat.reduceAdd, sz_29, ag_29, fo_29_0, sz_3, ag_3, pa_31, pl_31_0, pl_31_1, zc_31]
            refine kc_by (see_v hi.v (p := stopP r.frm n) hci hs1) rfl ?_
            simp -dsimp -implicitDefEqProofs (disch := first | assumption | omega | (simp [maxLen, avs_len] <;> omega) | decide) only [sT_alloc, sT_store, deadH, sT_nil, oK_some, q_o, layF, storeF, ↓reduceIte, q_b, ifp, q_f, q_s, q_l, as_dagg, q_a, D.one, Value.oneCell', q_n, Nat.reduceEqDiff, map_d, avs_nil, avs_cons, iD, intsD, intssD, Nat.reduceAdd, deadH, gotD, sz_40, za_40]
            refine hK22 _ _ ?_
            refine awp_seq_s KT_ok hc rfl fun K23 hK23 => ?_
            simp -dsimp -implicitDefEqProofs (disch := first | assumption | omega | (simp [maxLen, avs_len] <;> omega) | decide) only [sT_move, sT_load, sT_fa, sT_build, sT_call0, oK_some, q_o, loadF, fieldAddrF, buildF, ↓reduceIte, q_b, ifp, ifn, q_f, q_s, q_l, q_a, fill_cons, D.one, Value.oneCell', q_n, Nat.reduceEqDiff, takeD_all, Nat.reduceAdd, sz_29, ag_29, fo_29_0, sz_3, ag_3, pa_31, pl_31_0, pl_31_1, pl_31_4, zc_31]
            refine kc_by (see_v hi.v (p := nextP r.frm n) hci hs2) rfl ?_
            simp -dsimp -implicitDefEqProofs (disch := first | assumption | omega | (simp [maxLen, avs_len] <;> omega) | decide) only [sT_alloc, sT_store, deadH, sT_nil, oK_some, q_o, layF, storeF, ↓reduceIte, q_b, ifp, q_f, q_s, q_l, as_dagg, q_a, D.one, Value.oneCell', q_n, Nat.reduceEqDiff, map_d, avs_nil, avs_cons, iD, intsD, intssD, Nat.reduceAdd, deadH, gotD, sz_40, za_40]
            refine hK23 _ _ ?_
            refine awp_seq_k fun K24 hK24 => ?_
            refine awp_seq_s KT_ok hc rfl fun K25 hK25 => ?_
            simp -dsimp -implicitDefEqProofs (disch := first | assumption | omega | (simp [maxLen, avs_len] <;> omega) | decide) only [sT_move, sT_load, sT_fa, sT_bin, sT_call0, sT_g, oK_some, q_o, loadF, fieldAddrF, binF_v, v_neq, ↓reduceIte, q_b, ifp, guardA_some, guardV_f, q_f, q_s, q_l, q_n, Nat.reduceEqDiff, takeD_zero, takeD_cs, takeD_all, Nat.reduceAdd, bne_self_eq_false, dec_t, nb_t, gK_tt, bne_self_eq_false, fo_40_1, sz_38, ag_38, fo_40_0, sz_29, ag_29]
            refine kc_by (same_refl hi.v.short) rfl ?_
            simp -dsimp -implicitDefEqProofs (disch := first | assumption | omega | (simp [maxLen, avs_len] <;> omega) | decide) only [sT_move, sT_pick, sT_load, sT_fa, sT_bin, sT_un, sT_call0, sT_g, oK_some, q_o, loadF, fieldAddrF, binF_v, u_not, v_neq, ↓reduceIte, q_b, ifp, guardA_some, guardV_f, q_f, q_s, q_l, q_n, Nat.reduceEqDiff, takeD_zero, takeD_cs, Nat.reduceAdd, bne_self_eq_false, nb_t, nb_f, gK_tt, bne_self_eq_false, fo_40_1, sz_38, ag_38, fo_40_0, sz_29, ag_29]
            refine kc_by (validp_v hi'.v) rfl ?_
            simp -dsimp -implicitDefEqProofs (disch := first | assumption | omega | (simp [maxLen, avs_len] <;> omega) | decide) only [sT_move, sT_pick, sT_load, sT_fa, sT_un, sT_call0, sT_g, oK_some, q_o, loadF, fieldAddrF, u_not, ↓reduceIte, q_b, ifp, guardA_some, guardV_f, q_f, q_s, q_l, q_n, Nat.reduceEqDiff, takeD_zero, takeD_cs, Nat.reduceAdd, nb_t, nb_f, gK_tt, fo_40_0, sz_29, ag_29]
            refine kc_by (show PCalls Try.prog 19 [rolD q'] (.d (intsD R)) from hR ▸ ready_v hi'.v) rfl ?_
            simp -dsimp -implicitDefEqProofs (disch := first | assumption | omega | (simp [maxLen, avs_len] <;> omega) | decide) only [sT_move, sT_call0, sT_g, q_o, ↓reduceIte, q_b, guardA_some, guardV_f, q_f, q_s, q_l, q_n, Nat.reduceEqDiff, intsD, Nat.reduceAdd, nb_t, gK_tt]
            refine kc_by (in_c R n (by omega)) rfl ?_
            simp -dsimp -implicitDefEqProofs (disch := first | assumption | omega | (simp [maxLen, avs_len] <;> omega) | decide) only [sT_move, sT_pick, sT_load, sT_fa, sT_call0, sT_g, oK_some, q_o, loadF, fieldAddrF, ↓reduceIte, q_b, ifp, guardA_some, guardV_f, q_f, q_s, q_l, q_n, Nat.reduceEqDiff, takeD_zero, takeD_cs, Nat.reduceAdd, nb_t, gK_tt, hin, fo_40_0, sz_29, ag_29]
            refine kc_by (show PCalls Try.prog 19 [rolD q'] (.d (intsD R)) from hR ▸ ready_v hi'.v) rfl ?_
            simp -dsimp -implicitDefEqProofs (disch := first | assumption | omega | (simp [maxLen, avs_len] <;> omega) | decide) only [sT_move, sT_pick, sT_bin, sT_len, sT_nil, sT_g, oK_some, q_o, binF_v, lenF, builtinF, v_sub, v_neq, ↓reduceIte, q_b, guardA_some, guardV_f, q_f, q_s, q_l, Nat.reduceEqDiff, intsD, bne_f, nb_t, gK_tt, eo_27]
            refine hK25 _ _ ?_
            refine awp_cond rfl (fun ht => ?_) (fun ht => ?_)
            · cases ht
            · refine awp_skip (hK24 _ _ ?_)
              refine awp_seq_s KT_ok hc rfl fun K26 hK26 => ?_
              simp -dsimp -implicitDefEqProofs (disch := first | assumption | omega | (simp [maxLen, avs_len] <;> omega) | decide) only [sT_load, sT_fa, sT_store, sT_nil, oK_some, q_o, loadF, fieldAddrF, storeF, ↓reduceIte, q_b, ifp, q_f, q_l, q_s, q_a, AV.one, D.one, Value.oneCell', q_n, Nat.reduceEqDiff, takeD_zero, takeD_cs, Nat.reduceAdd, fo_40_0, sz_29, ag_29]
              refine hK26 _ _ ?_
              refine awp_seq_s KT_ok hc rfl fun K27 hK27 => ?_
              rcases (show (k + 1 = T.length ∧ q'.st = 4) ∨ (k + 1 < T.length ∧ q'.st = 2) from by rcases hi'.st with h | h; exact .inr h; exact .inl h) with ⟨w1, w2⟩ | ⟨w1, w2⟩
              · simp -dsimp -implicitDefEqProofs (disch := first | assumption | omega | (simp [maxLen, avs_len] <;> omega) | decide) only [sT_move, sT_load, sT_fa, sT_bin, sT_len, sT_nil, oK_some, q_o, loadF, fieldAddrF, binF_v, lenF, builtinF, v_add, v_eql, v_bneq, ↓reduceIte, q_b, ifp, q_f, q_s, q_l, q_n, Nat.reduceEqDiff, Nat.reduceAdd, bne_self_eq_false, beq_t, bne_self_eq_false, fo_29_6, sz_3, ag_3, eo_27, bt_4]
                refine hK27 _ _ ?_
                refine awp_cond rfl (fun ht => ?_) (fun ht => ?_)
                · cases ht
                · refine awp_skip (hK20 _ _ ?_)
                  refine awp_s KT_ok hc rfl fun K28 hK28 => ?_
                  simp -dsimp -implicitDefEqProofs (disch := first | assumption | omega | (simp [maxLen, avs_len] <;> omega) | decide) only [sT_move, sT_assign, sT_bin, sT_nil, oK_some, q_o, binF_v, v_add, ↓reduceIte, q_b, q_f, Nat.reduceEqDiff]
                  refine hK28 _ _ ⟨_, _, _, ?_, ⟨k + 1, q', ⟨hi', by omega⟩, rfl, rfl, rfl⟩, ?_⟩
                  · first | omega | (simp only [List.length_cons]; omega) | (dsimp only; omega)
                  · refine Rt.trans (Rt.gc (keep := [0,1,2]) (by decide) (by simp [])) ?_
                    refine Rt.end (less_cons (less_cons (less_cons (less_cons (less_cons (less_cons (less_cons (less_cons (less_nil _) rfl) rfl) rfl) rfl) rfl) rfl) rfl) rfl) ?_
                    first | rfl | (simp only [intsD, boolsD, bytesD, intssD, bytessD, gcH, gcO, gcVs_avs, gcVs, gcV, gcV_d, fzH, fzO, fzVs_avs, fzVs, fzV, posN, avs_nil, avs_cons, List.map_cons, List.map_nil, List.getD_cons_zero, List.getD_cons_succ, ↓reduceIte, Nat.reduceEqDiff, Option.map_some, List.set_cons_zero, List.set_cons_succ, takeD_avs, takeD_all, Nat.mul_one, List.length_map, List.cons_append, List.nil_append, goodR, gotC, rwD, bytesD, spsD, spD, spC, rolD, rolC, repD, repC, gotD, List.cons_append, List.nil_append, bne_self_eq_false, beq_self_eq_true, Bool.bne_true, Bool.bne_false, Bool.true_bne, Bool.false_bne, Bool.not_true, Bool.not_false]; first | done | rfl)
              · simp -dsimp -implicitDefEqProofs (disch := first | assumption | omega | (simp [maxLen, avs_len] <;> omega) | decide) only [sT_move, sT_load, sT_fa, sT_bin, sT_len, sT_nil, oK_some, q_o, loadF, fieldAddrF, binF_v, lenF, builtinF, v_add, v_eql, v_bneq, ↓reduceIte, q_b, ifp, q_f, q_s, q_l, q_n, Nat.reduceEqDiff, Nat.reduceAdd, bne_self_eq_false, beq_f, bne_self_eq_false, fo_29_6, sz_3, ag_3, eo_27, bt_4]
                refine hK27 _ _ ?_
                refine awp_cond rfl (fun ht => ?_) (fun ht => ?_)
                · cases ht
                · refine awp_skip (hK20 _ _ ?_)
                  refine awp_s KT_ok hc rfl fun K29 hK29 => ?_
                  simp -dsimp -implicitDefEqProofs (disch := first | assumption | omega | (simp [maxLen, avs_len] <;> omega) | decide) only [sT_move, sT_assign, sT_bin, sT_nil, oK_some, q_o, binF_v, v_add, ↓reduceIte, q_b, q_f, Nat.reduceEqDiff]
                  refine hK29 _ _ ⟨_, _, _, ?_, ⟨k + 1, q', ⟨hi', by omega⟩, rfl, rfl, rfl⟩, ?_⟩
                  · first | omega | (simp only [List.length_cons]; omega) | (dsimp only; omega)
                  · refine Rt.trans (Rt.gc (keep := [0,1,2]) (by decide) (by simp [])) ?_
                    refine Rt.end (less_cons (less_cons (less_cons (less_cons (less_cons (less_cons (less_cons (less_cons (less_nil _) rfl) rfl) rfl) rfl) rfl) rfl) rfl) rfl) ?_
                    first | rfl | (simp only [intsD, boolsD, bytesD, intssD, bytessD, gcH, gcO, gcVs_avs, gcVs, gcV, gcV_d, fzH, fzO, fzVs_avs, fzVs, fzV, posN, avs_nil, avs_cons, List.map_cons, List.map_nil, List.getD_cons_zero, List.getD_cons_succ, ↓reduceIte, Nat.reduceEqDiff, Option.map_some, List.set_cons_zero, List.set_cons_succ, takeD_avs, takeD_all, Nat.mul_one, List.length_map, List.cons_append, List.nil_append, goodR, gotC, rwD, bytesD, spsD, spD, spC, rolD, rolC, repD, repC, gotD, List.cons_append, List.nil_append, bne_self_eq_false, beq_self_eq_true, Bool.bne_true, Bool.bne_false, Bool.true_bne, Bool.false_bne, Bool.not_true, Bool.not_false]; first | done | rfl)
          · have hkl : T.length ≤ k := by
              have : l.length ≤ k := by simpa using ht
              omega
            have ed := hi.fin hlo hkl
            refine awp_exit (hK16 _ _ ?_)
            refine awp_seq_s KT_ok hc rfl fun K30 hK30 => ?_
            simp -dsimp -implicitDefEqProofs (disch := first | assumption | omega | (simp [maxLen, avs_len] <;> omega) | decide) only [sT_move, sT_load, sT_fa, sT_call0, oK_some, loadF, fieldAddrF, ↓reduceIte, q_b, ifp, q_f, q_s, q_l, q_n, Nat.reduceEqDiff, Nat.reduceAdd, ed, fo_29_5, sz_27, ag_27]
            refine kc_by (ex_ints T (by omega)) rfl ?_
            simp -dsimp -implicitDefEqProofs (disch := first | assumption | omega | (simp [maxLen, avs_len] <;> omega) | decide) only [sT_move, sT_assign, sT_pick, sT_nil, sT_g, oK_some, gK_t, q_o, ↓reduceIte, q_b, guardA_some, guardV_t, q_f, q_l, Nat.reduceEqDiff]
            refine hK30 _ _ ?_
            refine awp_ret ?_
            show closeA _ _ = _
            simp (disch := first | assumption | omega | (simp [maxLen, avs_len] <;> omega) | decide) only [closeA, retV, deep_d, Nat.reduceAdd, Nat.zero_add, D.fix, frL_get, ↓reduceIte, Option.map_some, List.length_cons, List.length_nil]
end Go.Proofs.Ytinefghmmbggeaa
