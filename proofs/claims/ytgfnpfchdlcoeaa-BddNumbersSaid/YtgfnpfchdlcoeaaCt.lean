/- Equal diagrams; the chapter's examples. -/
import Derived.Test.YtgfnpfchdlcoeaaQ
import Derived.Test.YtgfnpfchdlcoeaaCs
set_option linter.unusedVariables false
set_option linter.unusedSimpArgs false
namespace Go.Proofs.Ytgfnpfchdlcoeaa
open Go Go.RowKit
set_option maxRecDepth 100000 in
set_option linter.unusedVariables false in
set_option maxHeartbeats 4000000 in
theorem same_c (ns ns' : List NI) (rs rs' : List Int) (h1 : ns.length ≤ 1000000) (h2 : ns'.length ≤ 1000000) (h3 : rs.length ≤ maxLen) (h4 : rs'.length ≤ maxLen) : PCalls Try.prog 31 [bdiD ns rs, bdiD ns' rs'] (.d (oD (decide (ns = ns') && decide (rs = rs')))) := by
  unfold maxLen at h3 h4
  refine pcalls_of0 (fn := Try.f31) (by kernel_rfl) Try.func31 rfl (Nat.le_of_ble_eq_true rfl) fun c hc hp => ?_
  refine awp_less (τ' := frL [(0, .d (bdiD ns rs)), (1, .d (bdiD ns' rs'))]) (less_cons (less_cons (less_nil _) rfl) rfl) ?_
  refine awp_seq_s hp KT_ok hc rfl fun K1 hK1 => ?_
  simp -dsimp -implicitDefEqProofs (disch := first | assumption | omega | (simp [maxLen, avs_len, nis_len] <;> omega) | decide) only [sT_assign, sT_box, deadH, sT_nil, oK_some, q_o, layF, ↓reduceIte, q_b, q_f, q_s, q_l, as_dagg, D.one, q_n, Nat.reduceEqDiff, deadH, bdiD, bdiC]
  refine hK1 _ _ ?_
  refine awp_seq_k fun K2 hK2 => ?_
  refine awp_seq_s hp KT_ok hc rfl fun K3 hK3 => ?_
  rcases (show ns.length ≠ ns'.length ∨ (ns.length = ns'.length ∧ rs.length ≠ rs'.length) ∨ (ns.length = ns'.length ∧ rs.length = rs'.length) by omega) with q | ⟨q, q'⟩ | ⟨q, q'⟩
  · have q1 : ((ns.length : Int) != ns'.length) = true := by simp; omega
    have q2 := q1
    have hx : ns ≠ ns' := fun e => q (by rw [e])
    simp -dsimp -implicitDefEqProofs (disch := first | assumption | omega | (simp [maxLen, avs_len, nis_len] <;> omega) | decide) only [sT_move, sT_pick, sT_load, sT_fa, sT_bin, sT_len, sT_nil, sT_g, oK_some, gK_f, q_o, loadF, fieldAddrF, binF_v, lenF, builtinF, v_neq, ↓reduceIte, q_b, ifp, guardA_some, guardV_f, q_f, q_s, q_l, q_n, Nat.reduceEqDiff, Nat.reduceAdd, q1, fo_31_0, sz_28, ag_28, eo_28]
    refine hK3 _ _ ?_
    refine awp_cond rfl (fun ht => ?_) (fun ht => ?_)
    · refine awp_seq_s hp KT_ok hc rfl fun K4 hK4 => ?_
      simp -dsimp -implicitDefEqProofs (disch := first | assumption | omega | (simp [maxLen, avs_len, nis_len] <;> omega) | decide) only [sT_assign, sT_nil, q_f]
      refine hK4 _ _ ?_
      refine awp_ret ?_
      show closeA _ _ = _
      simp (disch := first | assumption | omega | (simp [maxLen, avs_len, nis_len] <;> omega) | decide) only [closeA, retV, deep_d, Nat.reduceAdd, Nat.zero_add, D.fix, frL_get, ↓reduceIte, Option.map_some, List.length_cons, List.length_nil, oD]
      simp [hx]
    · cases ht
  · have q1 : ((ns.length : Int) != ns'.length) = false := by simp; omega
    have q2 : ((rs.length : Int) != rs'.length) = true := by simp; omega
    have hx : rs ≠ rs' := fun e => q' (by rw [e])
    simp -dsimp -implicitDefEqProofs (disch := first | assumption | omega | (simp [maxLen, avs_len, nis_len] <;> omega) | decide) only [sT_move, sT_pick, sT_load, sT_fa, sT_bin, sT_len, sT_nil, sT_g, oK_some, gK_t, q_o, loadF, fieldAddrF, binF_v, lenF, builtinF, v_neq, ↓reduceIte, q_b, ifp, guardA_some, guardV_f, q_f, q_s, q_l, q_n, Nat.reduceEqDiff, Nat.reduceAdd, q1, q2, fo_31_0, sz_28, ag_28, eo_28, fo_31_1, sz_29, ag_29, eo_29]
    refine hK3 _ _ ?_
    refine awp_cond rfl (fun ht => ?_) (fun ht => ?_)
    · refine awp_seq_s hp KT_ok hc rfl fun K5 hK5 => ?_
      simp -dsimp -implicitDefEqProofs (disch := first | assumption | omega | (simp [maxLen, avs_len, nis_len] <;> omega) | decide) only [sT_assign, sT_nil, q_f]
      refine hK5 _ _ ?_
      refine awp_ret ?_
      show closeA _ _ = _
      simp (disch := first | assumption | omega | (simp [maxLen, avs_len, nis_len] <;> omega) | decide) only [closeA, retV, deep_d, Nat.reduceAdd, Nat.zero_add, D.fix, frL_get, ↓reduceIte, Option.map_some, List.length_cons, List.length_nil, oD]
      simp [hx]
    · cases ht
  · have q1 : ((ns.length : Int) != ns'.length) = false := by simp; omega
    have q2 : ((rs.length : Int) != rs'.length) = false := by simp; omega
    simp -dsimp -implicitDefEqProofs (disch := first | assumption | omega | (simp [maxLen, avs_len, nis_len] <;> omega) | decide) only [sT_move, sT_pick, sT_load, sT_fa, sT_bin, sT_len, sT_nil, sT_g, oK_some, gK_t, q_o, loadF, fieldAddrF, binF_v, lenF, builtinF, v_neq, ↓reduceIte, q_b, ifp, guardA_some, guardV_f, q_f, q_s, q_l, q_n, Nat.reduceEqDiff, Nat.reduceAdd, q1, q2, fo_31_0, sz_28, ag_28, eo_28, fo_31_1, sz_29, ag_29, eo_29]
    refine hK3 _ _ ?_
    refine awp_cond rfl (fun ht => ?_) (fun ht => ?_)
    · cases ht
    · refine awp_skip (hK2 _ _ ?_)
      refine awp_seq_k fun K6 hK6 => ?_
      refine awp_seq_s hp KT_ok hc rfl fun K7 hK7 => ?_
      simp -dsimp -implicitDefEqProofs (disch := first | assumption | omega | (simp [maxLen, avs_len, nis_len] <;> omega) | decide) only [sT_assign, sT_nil, q_f]
      refine hK7 _ _ ?_
      refine awp_block ?_
      refine awp_loop_rt hp (fun τ' H' mm => ∃ (k : Nat), (k ≤ ns.length ∧ ns.take k = ns'.take k) ∧ mm = ns.length - k ∧ H' = [.cells (avs (bdiC ns rs)), .cells (avs (bdiC ns' rs'))] ∧ τ' = frL [(2, .op 0 0), (3, .op 1 0), (5, .d (iD k))]) (ns.length) ?_ ⟨0, ⟨Nat.zero_le _, rfl⟩, rfl, rfl, rfl⟩ ?_
      · refine Rt.end (less_cons (less_cons (less_cons (less_nil _) rfl) rfl) rfl) ?_
        first | rfl | (simp only [intsD, boolsD, bytesD, intssD, bytessD, gcH, gcO_c, gcO_de, gcO_fr, gc_m, fz_m, gcVs_avs, gcVs, gcV, gcV_d, fzH, fzO_c, fzO_de, fzO_fr, fzVs_avs, Nat.reduceAdd, fzVs, fzV, posN, avs_nil, avs_cons, List.map_cons, List.map_nil, List.getD_cons_zero, List.getD_cons_succ, ↓reduceIte, Nat.reduceEqDiff, Option.map_some, List.set_cons_zero, List.set_cons_succ, takeD_avs, takeD_all, Nat.mul_one, List.length_map, List.cons_append, List.nil_append, bdiD, bdiC, bE_aa, bE_da, bE_ad, bE_dd, bN_aa, bN_da, bN_ad, bN_dd, eqO_nil, eqO_cons, eqS_int, va_nil, va_cons]; first | done | rfl)
      rintro τ' H' mm ⟨k, ⟨hk, htk⟩, rfl, rfl, rfl⟩
      refine awp_seq_k fun K8 hK8 => ?_
      refine awp_seq_s hp KT_ok hc rfl fun K9 hK9 => ?_
      simp -dsimp -implicitDefEqProofs (disch := first | assumption | omega | (simp [maxLen, avs_len, nis_len] <;> omega) | decide) only [sT_move, sT_load, sT_fa, sT_bin, sT_len, sT_nil, oK_some, q_o, loadF, fieldAddrF, binF_v, lenF, builtinF, v_lss, ↓reduceIte, q_b, ifp, q_f, q_s, q_l, q_n, Nat.reduceEqDiff, avs_nil, avs_cons, iD, Nat.reduceAdd, bdiC, fo_31_0, sz_28, ag_28, eo_28]
      refine hK9 _ _ ?_
      refine awp_cond rfl (fun ht => ?_) (fun ht => ?_)
      · have hlt : k < ns.length := by simp at ht; omega
        have hlt' : k < ns'.length := by omega
        refine awp_skip (hK8 _ _ ?_)
        refine awp_seq_k fun K10 hK10 => ?_
        refine awp_block ?_
        refine awp_seq_se KT_ok hc mixed rfl (q := 0) (by kernel_rfl) (by kernel_rfl) fun K11 hK11 => ?_
        by_cases heq : nth ns k = nth ns' k
        · have g4 : ((nth ns k).v == (nth ns' k).v && ((nth ns k).lo == (nth ns' k).lo && (nth ns k).hi == (nth ns' k).hi)) = true := by rw [heq]; simp
          simp -dsimp -implicitDefEqProofs (disch := first | assumption | omega | (simp [maxLen, avs_len, nis_len] <;> omega) | decide) only [sE_move, sE_load, sE_fa, sE_ia, sE_bin, sE_nil, oK_some, q_o, loadF, fieldAddrF, ixO, indexAddrF, ↓reduceIte, q_b, ifp, q_f, q_s, q_l, List.append_nil, List.replicate_zero, Bool.and_true, Int.toNat_natCast, q_n, Nat.reduceEqDiff, killAll, iD, Nat.reduceAdd, bN_dd, eqO_nil, eqO_cons, eqS_int, va_nil, va_cons, ni_row, niC, g4, fo_31_0, sz_28, ag_28, eo_28, sz_83, ag_83, eqB_ss eq_83]
          refine hK11 _ _ ?_
          refine awp_cond rfl (fun ht => ?_) (fun ht => ?_)
          · cases ht
          · refine awp_skip (hK10 _ _ ?_)
            refine awp_s hp KT_ok hc rfl fun K12 hK12 => ?_
            simp -dsimp -implicitDefEqProofs (disch := first | assumption | omega | (simp [maxLen, avs_len, nis_len] <;> omega) | decide) only [sT_move, sT_assign, sT_bin, sT_nil, oK_some, q_o, binF_v, v_add, ↓reduceIte, q_b, q_f, Nat.reduceEqDiff]
            refine hK12 _ _ ⟨_, _, _, ?_, ⟨k + 1, ⟨by omega, take_eq_step hlt hlt' htk heq⟩, rfl, rfl, rfl⟩, ?_⟩
            · first | omega | (simp only [List.length_cons]; omega) | (dsimp only; omega)
            · refine Rt.end (less_cons (less_cons (less_cons (less_nil _) rfl) rfl) rfl) ?_
              first | rfl | (simp only [intsD, boolsD, bytesD, intssD, bytessD, gcH, gcO_c, gcO_de, gcO_fr, gc_m, fz_m, gcVs_avs, gcVs, gcV, gcV_d, fzH, fzO_c, fzO_de, fzO_fr, fzVs_avs, Nat.reduceAdd, fzVs, fzV, posN, avs_nil, avs_cons, List.map_cons, List.map_nil, List.getD_cons_zero, List.getD_cons_succ, ↓reduceIte, Nat.reduceEqDiff, Option.map_some, List.set_cons_zero, List.set_cons_succ, takeD_avs, takeD_all, Nat.mul_one, List.length_map, List.cons_append, List.nil_append, bdiD, bdiC, bE_aa, bE_da, bE_ad, bE_dd, bN_aa, bN_da, bN_ad, bN_dd, eqO_nil, eqO_cons, eqS_int, va_nil, va_cons]; first | done | rfl)
        · have g4 : ((nth ns k).v == (nth ns' k).v && ((nth ns k).lo == (nth ns' k).lo && (nth ns k).hi == (nth ns' k).hi)) = false := by
            rw [Bool.eq_false_iff]
            intro h
            simp only [Bool.and_eq_true, beq_iff_eq] at h
            exact heq (ni_eq.1 h)
          have hx : ns ≠ ns' := fun e => heq (by rw [e])
          simp -dsimp -implicitDefEqProofs (disch := first | assumption | omega | (simp [maxLen, avs_len, nis_len] <;> omega) | decide) only [sE_move, sE_load, sE_fa, sE_ia, sE_bin, sE_nil, oK_some, q_o, loadF, fieldAddrF, ixO, indexAddrF, ↓reduceIte, q_b, ifp, q_f, q_s, q_l, List.append_nil, List.replicate_zero, Bool.and_true, Int.toNat_natCast, q_n, Nat.reduceEqDiff, killAll, iD, Nat.reduceAdd, bN_dd, eqO_nil, eqO_cons, eqS_int, va_nil, va_cons, ni_row, niC, g4, fo_31_0, sz_28, ag_28, eo_28, sz_83, ag_83, eqB_ss eq_83]
          refine hK11 _ _ ?_
          refine awp_cond rfl (fun ht => ?_) (fun ht => ?_)
          · refine awp_seq_s hp KT_ok hc rfl fun K13 hK13 => ?_
            simp -dsimp -implicitDefEqProofs (disch := first | assumption | omega | (simp [maxLen, avs_len, nis_len] <;> omega) | decide) only [sT_assign, sT_nil, q_f]
            refine hK13 _ _ ?_
            refine awp_ret ?_
            show closeA _ _ = _
            simp (disch := first | assumption | omega | (simp [maxLen, avs_len, nis_len] <;> omega) | decide) only [closeA, retV, deep_d, Nat.reduceAdd, Nat.zero_add, D.fix, frL_get, ↓reduceIte, Option.map_some, List.length_cons, List.length_nil, oD]
            simp [hx]
          · cases ht
      · have hke : k = ns.length := by simp at ht; omega
        have hne : ns = ns' := by rw [hke, List.take_length, q, List.take_length] at htk; exact htk
        refine awp_exit (hK6 _ _ ?_)
        refine awp_seq_k fun K14 hK14 => ?_
        refine awp_seq_s hp KT_ok hc rfl fun K15 hK15 => ?_
        simp -dsimp -implicitDefEqProofs (disch := first | assumption | omega | (simp [maxLen, avs_len, nis_len] <;> omega) | decide) only [sT_assign, sT_nil, q_f]
        refine hK15 _ _ ?_
        refine awp_block ?_
        refine awp_loop_rt hp (fun τ' H' mm => ∃ (k : Nat), (k ≤ rs.length ∧ rs.take k = rs'.take k) ∧ mm = rs.length - k ∧ H' = [.cells (avs (bdiC ns rs)), .cells (avs (bdiC ns' rs'))] ∧ τ' = frL [(2, .op 0 0), (3, .op 1 0), (6, .d (iD k))]) (rs.length) ?_ ⟨0, ⟨Nat.zero_le _, rfl⟩, rfl, rfl, rfl⟩ ?_
        · refine Rt.end (less_cons (less_cons (less_cons (less_nil _) rfl) rfl) rfl) ?_
          first | rfl | (simp only [intsD, boolsD, bytesD, intssD, bytessD, gcH, gcO_c, gcO_de, gcO_fr, gc_m, fz_m, gcVs_avs, gcVs, gcV, gcV_d, fzH, fzO_c, fzO_de, fzO_fr, fzVs_avs, Nat.reduceAdd, fzVs, fzV, posN, avs_nil, avs_cons, List.map_cons, List.map_nil, List.getD_cons_zero, List.getD_cons_succ, ↓reduceIte, Nat.reduceEqDiff, Option.map_some, List.set_cons_zero, List.set_cons_succ, takeD_avs, takeD_all, Nat.mul_one, List.length_map, List.cons_append, List.nil_append, bdiD, bdiC, bE_aa, bE_da, bE_ad, bE_dd, bN_aa, bN_da, bN_ad, bN_dd, eqO_nil, eqO_cons, eqS_int, va_nil, va_cons]; first | done | rfl)
        rintro τ' H' mm ⟨k, ⟨hk1, htk1⟩, rfl, rfl, rfl⟩
        refine awp_seq_k fun K16 hK16 => ?_
        refine awp_seq_s hp KT_ok hc rfl fun K17 hK17 => ?_
        simp -dsimp -implicitDefEqProofs (disch := first | assumption | omega | (simp [maxLen, avs_len, nis_len] <;> omega) | decide) only [sT_move, sT_load, sT_fa, sT_bin, sT_len, sT_nil, oK_some, q_o, loadF, fieldAddrF, binF_v, lenF, builtinF, v_lss, ↓reduceIte, q_b, ifp, q_f, q_s, q_l, q_n, Nat.reduceEqDiff, avs_nil, avs_cons, iD, Nat.reduceAdd, bdiC, fo_31_1, sz_29, ag_29, eo_29]
        refine hK17 _ _ ?_
        refine awp_cond rfl (fun ht => ?_) (fun ht => ?_)
        · have hlt : k < rs.length := by simp at ht; omega
          have hlt' : k < rs'.length := by omega
          refine awp_skip (hK16 _ _ ?_)
          refine awp_seq_k fun K18 hK18 => ?_
          refine awp_block ?_
          refine awp_seq_se KT_ok hc mixed rfl (q := 0) (by kernel_rfl) (by kernel_rfl) fun K19 hK19 => ?_
          simp -dsimp -implicitDefEqProofs (disch := first | assumption | omega | (simp [maxLen, avs_len, nis_len] <;> omega) | decide) only [sE_move, sE_load, sE_fa, sE_ia, sE_bin, sE_nil, oK_some, q_o, loadF, fieldAddrF, ixO, indexAddrF, binF_v, v_neq, ↓reduceIte, q_b, ifp, q_f, q_l, List.append_nil, List.replicate_zero, Int.toNat_natCast, q_n, Nat.reduceEqDiff, killAll, get_map, iD, Nat.reduceAdd, get_map, fo_31_1, sz_29, ag_29, eo_29, sz_3, ag_3]
          refine hK19 _ _ ?_
          refine awp_cond rfl (fun ht => ?_) (fun ht => ?_)
          · have hx : rs ≠ rs' := fun e => by subst e; simp at ht
            refine awp_seq_s hp KT_ok hc rfl fun K20 hK20 => ?_
            simp -dsimp -implicitDefEqProofs (disch := first | assumption | omega | (simp [maxLen, avs_len, nis_len] <;> omega) | decide) only [sT_assign, sT_nil, q_f]
            refine hK20 _ _ ?_
            refine awp_ret ?_
            show closeA _ _ = _
            simp (disch := first | assumption | omega | (simp [maxLen, avs_len, nis_len] <;> omega) | decide) only [closeA, retV, deep_d, Nat.reduceAdd, Nat.zero_add, D.fix, frL_get, ↓reduceIte, Option.map_some, List.length_cons, List.length_nil, oD]
            simp [hx]
          · refine awp_skip (hK18 _ _ ?_)
            refine awp_s hp KT_ok hc rfl fun K21 hK21 => ?_
            simp -dsimp -implicitDefEqProofs (disch := first | assumption | omega | (simp [maxLen, avs_len, nis_len] <;> omega) | decide) only [sT_move, sT_assign, sT_bin, sT_nil, oK_some, q_o, binF_v, v_add, ↓reduceIte, q_b, q_f, Nat.reduceEqDiff]
            refine hK21 _ _ ⟨_, _, _, ?_, ⟨k + 1, ⟨by omega, take_eq_step hlt hlt' htk1 (by simpa using ht)⟩, rfl, rfl, rfl⟩, ?_⟩
            · first | omega | (simp only [List.length_cons]; omega) | (dsimp only; omega)
            · refine Rt.end (less_cons (less_cons (less_cons (less_nil _) rfl) rfl) rfl) ?_
              first | rfl | (simp only [intsD, boolsD, bytesD, intssD, bytessD, gcH, gcO_c, gcO_de, gcO_fr, gc_m, fz_m, gcVs_avs, gcVs, gcV, gcV_d, fzH, fzO_c, fzO_de, fzO_fr, fzVs_avs, Nat.reduceAdd, fzVs, fzV, posN, avs_nil, avs_cons, List.map_cons, List.map_nil, List.getD_cons_zero, List.getD_cons_succ, ↓reduceIte, Nat.reduceEqDiff, Option.map_some, List.set_cons_zero, List.set_cons_succ, takeD_avs, takeD_all, Nat.mul_one, List.length_map, List.cons_append, List.nil_append, bdiD, bdiC, bE_aa, bE_da, bE_ad, bE_dd, bN_aa, bN_da, bN_ad, bN_dd, eqO_nil, eqO_cons, eqS_int, va_nil, va_cons]; first | done | rfl)
        · have hke : k = rs.length := by simp at ht; omega
          have hre : rs = rs' := by rw [hke, List.take_length, q', List.take_length] at htk1; exact htk1
          refine awp_exit (hK14 _ _ ?_)
          refine awp_seq_s hp KT_ok hc rfl fun K22 hK22 => ?_
          simp -dsimp -implicitDefEqProofs (disch := first | assumption | omega | (simp [maxLen, avs_len, nis_len] <;> omega) | decide) only [sT_assign, sT_nil, q_f]
          refine hK22 _ _ ?_
          refine awp_ret ?_
          show closeA _ _ = _
          simp (disch := first | assumption | omega | (simp [maxLen, avs_len, nis_len] <;> omega) | decide) only [closeA, retV, deep_d, Nat.reduceAdd, Nat.zero_add, D.fix, frL_get, ↓reduceIte, Option.map_some, List.length_cons, List.length_nil, oD]
          simp [hne, hre]
def bliD (ns : List NI) (rs : List Int) (e : Int) : D := .agg (bdiC ns rs ++ [iD e])
set_option maxRecDepth 100000 in
set_option linter.unusedVariables false in
set_option maxHeartbeats 4000000 in
theorem alike_c (ns ns' : List NI) (rs rs' : List Int) (e e' : Int) (h1 : ns.length ≤ 1000000) (h2 : ns'.length ≤ 1000000) (h3 : rs.length ≤ maxLen) (h4 : rs'.length ≤ maxLen) : PCalls Try.prog 14 [bliD ns rs e, bliD ns' rs' e'] (.d (oD (decide (e = e') && (decide (ns = ns') && decide (rs = rs'))))) := by
  refine pcalls_of0 (fn := Try.f14) (by kernel_rfl) Try.func14 rfl (Nat.le_of_ble_eq_true rfl) fun c hc hp => ?_
  refine awp_less (τ' := frL [(0, .d (bliD ns rs e)), (1, .d (bliD ns' rs' e'))]) (less_cons (less_cons (less_nil _) rfl) rfl) ?_
  refine awp_seq_s hp KT_ok hc rfl fun K1 hK1 => ?_
  simp -dsimp -implicitDefEqProofs (disch := first | assumption | omega | (simp [maxLen, avs_len, nis_len] <;> omega) | decide) only [sT_assign, sT_box, deadH, sT_nil, oK_some, q_o, layF, ↓reduceIte, q_b, q_f, q_s, q_l, as_dagg, D.one, Value.oneCell', q_n, Nat.reduceEqDiff, iD, deadH, bliD, bdiC]
  refine hK1 _ _ ?_
  refine awp_seq_s hp KT_ok hc rfl fun K2 hK2 => ?_
  by_cases he : e = e'
  · have q1 : (e == e') = true := by simp [he]
    simp -dsimp -implicitDefEqProofs (disch := first | assumption | omega | (simp [maxLen, avs_len, nis_len] <;> omega) | decide) only [sT_move, sT_load, sT_fa, sT_bin, sT_call0, sT_g, oK_some, gK_t, q_o, loadF, fieldAddrF, binF_v, v_eql, ↓reduceIte, q_b, ifp, guardA_some, guardV_t, q_f, q_s, q_l, q_n, Nat.reduceEqDiff, takeD_zero, takeD_cs, Nat.reduceAdd, q1, fo_47_1, sz_45, ag_45, fo_47_0, sz_31, ag_31]
    refine kc_by (same_c ns ns' rs rs' h1 h2 h3 h4) rfl ?_
    simp -dsimp -implicitDefEqProofs (disch := first | assumption | omega | (simp [maxLen, avs_len, nis_len] <;> omega) | decide) only [sT_assign, sT_pick, sT_nil, oK_some, ↓reduceIte, q_b, q_f, Nat.reduceEqDiff, oD]
    refine hK2 _ _ ?_
    refine awp_ret ?_
    show closeA _ _ = _
    simp (disch := first | assumption | omega | (simp [maxLen, avs_len, nis_len] <;> omega) | decide) only [closeA, retV, deep_d, Nat.reduceAdd, Nat.zero_add, D.fix, frL_get, ↓reduceIte, Option.map_some, List.length_cons, List.length_nil, oD]
    simp [he]
  · have q1 : (e == e') = false := by simp [he]
    simp -dsimp -implicitDefEqProofs (disch := first | assumption | omega | (simp [maxLen, avs_len, nis_len] <;> omega) | decide) only [sT_move, sT_assign, sT_pick, sT_load, sT_fa, sT_bin, sT_nil, sT_g, oK_some, gK_f, q_o, loadF, fieldAddrF, binF_v, v_eql, ↓reduceIte, q_b, ifp, guardA_some, guardV_t, q_f, q_l, q_n, Nat.reduceEqDiff, Nat.reduceAdd, q1, fo_47_1, sz_45, ag_45]
    refine hK2 _ _ ?_
    refine awp_ret ?_
    show closeA _ _ = _
    simp (disch := first | assumption | omega | (simp [maxLen, avs_len, nis_len] <;> omega) | decide) only [closeA, retV, deep_d, Nat.reduceAdd, Nat.zero_add, D.fix, frL_get, ↓reduceIte, Option.map_some, List.length_cons, List.length_nil, oD]
    simp [he]
/-! ### The diagrams that are built, as they come -/
def toI (n : Nd) : NI := ⟨n.v, n.lo, n.hi⟩
theorem toI_C (l : List Nd) : l.flatMap ndC = (l.map toI).flatMap niC := by rw [List.flatMap_map]; rfl
theorem nat_I (l : List Nat) : l.map natD = (l.map fun (k : Nat) => (k : Int)).map iD := by rw [List.map_map]; rfl
theorem bdd_I (ns : List Nd) (rs : List Nat) : bddC ns rs = bdiC (ns.map toI) (rs.map fun (k : Nat) => (k : Int)) := by
  unfold bddC bdiC
  rw [toI_C, nat_I, List.length_map, List.length_map]
theorem bddD_I (ns : List Nd) (rs : List Nat) : bddD ns rs = bdiD (ns.map toI) (rs.map fun (k : Nat) => (k : Int)) := by unfold bddD bdiD; rw [bdd_I]
theorem bltD_I (ns : List Nd) (rs : List Nat) (e : Int) : bltD ns rs e = bliD (ns.map toI) (rs.map fun (k : Nat) => (k : Int)) e := by unfold bltD bliD; rw [bdd_I]
end Go.Proofs.Ytgfnpfchdlcoeaa
