/- Lists of bools and of numbers; values for inputs. -/
import Derived.Test.YtfpcailbobjfnaaTy
set_option linter.unusedVariables false
set_option linter.unusedSimpArgs false
namespace Go.Proofs.Ytfpcailbobjfnaa
open Go Go.RowKit
set_option maxRecDepth 100000 in
set_option linter.unusedVariables false in
set_option maxHeartbeats 4000000 in
theorem ints_c (a b : List Int) (ha : a.length ≤ maxLen) : PCalls Try.prog 23 [intsD a, intsD b] (.d (oD (decide (a = b)))) := by
  refine pcalls_of0 (fn := Try.f23) (by kernel_rfl) Try.func23 rfl (Nat.le_of_ble_eq_true rfl) fun c hc hp => ?_
  refine awp_less (τ' := frL [(0, .d (intsD a)), (1, .d (intsD b))]) (less_cons (less_cons (less_nil _) (by first | rfl | (simp [Fr.put, frL, gcV, fzV, posN, iD, bD, uD, oD, intsD, boolsD, bytesD, intssD, bytessD]; done) | simp [Fr.put, frL, gcV, fzV, posN, iD, bD, uD, oD, intsD, boolsD, bytesD, intssD, bytessD, *])) (by first | rfl | (simp [Fr.put, frL, gcV, fzV, posN, iD, bD, uD, oD, intsD, boolsD, bytesD, intssD, bytessD]; done) | simp [Fr.put, frL, gcV, fzV, posN, iD, bD, uD, oD, intsD, boolsD, bytesD, intssD, bytessD, *])) ?_
  unfold maxLen at ha
  refine awp_seq_s KT_ok hc rfl fun K1 hK1 => ?_
  simp -dsimp -implicitDefEqProofs (disch := first | omega | (simp only [maxLen, List.length_replicate, eq_self, true_and, and_true, and_self, avs_len, List.length_map, List.length_append, List.length_cons, List.length_nil, List.length_set, List.length_range, List.length_take, List.length_drop] <;> omega) | rfl | fail) only [sT_assign, sT_nil, frL_put, evalA_const, intsD]
  refine hK1 _ _ ?_
  refine awp_seq_k fun K2 hK2 => ?_
  refine awp_seq_s KT_ok hc rfl fun K3 hK3 => ?_
  simp -dsimp -implicitDefEqProofs (disch := first | omega | (simp only [maxLen, List.length_replicate, eq_self, true_and, and_true, and_self, avs_len, List.length_map, List.length_append, List.length_cons, List.length_nil, List.length_set, List.length_range, List.length_take, List.length_drop] <;> omega) | rfl | fail) only [sT_move, sT_bin, sT_len, sT_nil, oK_some, Option.map_some, binF_v, lenF, builtinF, v_neq, ↓reduceIte, eq_self, frL_get, frL_put, evalA_tmp, List.map_cons, List.map_nil, Nat.reduceEqDiff, eo_29]
  refine hK3 _ _ ?_
  refine awp_cond rfl (fun ht => ?_) (fun ht => ?_)
  · have hne : a ≠ b := fun e => by subst e; simp at ht
    refine awp_seq_s KT_ok hc rfl fun K4 hK4 => ?_
    simp -dsimp -implicitDefEqProofs (disch := first | omega | (simp only [maxLen, List.length_replicate, eq_self, true_and, and_true, and_self, avs_len, List.length_map, List.length_append, List.length_cons, List.length_nil, List.length_set, List.length_range, List.length_take, List.length_drop] <;> omega) | rfl | fail) only [sT_assign, sT_nil, frL_put, evalA_const]
    refine hK4 _ _ ?_
    refine awp_ret ?_
    show closeA _ _ = _
    simp (disch := first | omega | (simp only [maxLen, List.length_replicate, eq_self, true_and, and_true, and_self, avs_len, List.length_map, List.length_append, List.length_cons, List.length_nil, List.length_set, List.length_range, List.length_take, List.length_drop] <;> omega) | rfl | fail) only [closeA, retV, deep_d, D.fix, frL_get, ↓reduceIte, Option.map_some, List.length_nil, oD]
    simp [hne]
  · have hl : a.length = b.length := by simp at ht; omega
    refine awp_skip (hK2 _ _ ?_)
    refine awp_seq_k fun K5 hK5 => ?_
    refine awp_seq_s KT_ok hc rfl fun K6 hK6 => ?_
    simp -dsimp -implicitDefEqProofs (disch := first | omega | (simp only [maxLen, List.length_replicate, eq_self, true_and, and_true, and_self, avs_len, List.length_map, List.length_append, List.length_cons, List.length_nil, List.length_set, List.length_range, List.length_take, List.length_drop] <;> omega) | rfl | fail) only [sT_assign, sT_nil, frL_put, evalA_const]
    refine hK6 _ _ ?_
    refine awp_block ?_
    refine awp_loop_rt hp (fun τ' H' mm => ∃ k, (k ≤ a.length ∧ a.take k = b.take k) ∧ mm = a.length - k ∧ H' = [] ∧ τ' = frL [(5, .d (iD k)), (0, .d (intsD a)), (1, .d (intsD b))]) (a.length) ?_ ⟨0, ⟨Nat.zero_le _, rfl⟩, rfl, rfl, rfl⟩ ?_
    · refine Rt.end (less_cons (less_cons (less_cons (less_nil _) (by first | rfl | (simp [Fr.put, frL, gcV, fzV, posN, iD, bD, uD, oD, intsD, boolsD, bytesD, intssD, bytessD]; done) | simp [Fr.put, frL, gcV, fzV, posN, iD, bD, uD, oD, intsD, boolsD, bytesD, intssD, bytessD, *])) (by first | rfl | (simp [Fr.put, frL, gcV, fzV, posN, iD, bD, uD, oD, intsD, boolsD, bytesD, intssD, bytessD]; done) | simp [Fr.put, frL, gcV, fzV, posN, iD, bD, uD, oD, intsD, boolsD, bytesD, intssD, bytessD, *])) (by first | rfl | (simp [Fr.put, frL, gcV, fzV, posN, iD, bD, uD, oD, intsD, boolsD, bytesD, intssD, bytessD]; done) | simp [Fr.put, frL, gcV, fzV, posN, iD, bD, uD, oD, intsD, boolsD, bytesD, intssD, bytessD, *])) ?_
      first | rfl | (simp only [intsD, boolsD, bytesD, intssD, bytessD, gcH, gcO, gcVs_avs, gcVs, gcV, gcV_d, fzH, fzO, fzVs_avs, fzVs, fzV, posN, avs_nil, avs_cons, List.map_cons, List.map_nil, List.getD_cons_zero, List.getD_cons_succ, ↓reduceIte, Nat.reduceEqDiff, Option.map_some, List.set_cons_zero, List.set_cons_succ, takeD_avs, takeD_all, Nat.mul_one, List.length_map, List.cons_append, List.nil_append]; first | done | rfl)
    rintro τ' H' mm ⟨k, ⟨hk, htake⟩, rfl, rfl, rfl⟩
    refine awp_seq_k fun K7 hK7 => ?_
    refine awp_seq_s KT_ok hc rfl fun K8 hK8 => ?_
    simp -dsimp -implicitDefEqProofs (disch := first | omega | (simp only [maxLen, List.length_replicate, eq_self, true_and, and_true, and_self, avs_len, List.length_map, List.length_append, List.length_cons, List.length_nil, List.length_set, List.length_range, List.length_take, List.length_drop] <;> omega) | rfl | fail) only [sT_move, sT_bin, sT_len, sT_nil, oK_some, Option.map_some, binF_v, lenF, builtinF, v_lss, ↓reduceIte, eq_self, frL_get, frL_put, evalA_tmp, List.map_cons, List.map_nil, Nat.reduceEqDiff, iD, intsD, eo_29]
    refine hK8 _ _ ?_
    refine awp_cond rfl (fun ht => ?_) (fun ht => ?_)
    · have hlt : k < a.length := by simp at ht; omega
      have hlt2 : k < b.length := by omega
      refine awp_skip (hK7 _ _ ?_)
      refine awp_seq_k fun K9 hK9 => ?_
      refine awp_block ?_
      refine awp_seq_se KT_ok hc mixed rfl (q := 0) (by kernel_rfl) (by kernel_rfl) fun K10 hK10 => ?_
      simp -dsimp -implicitDefEqProofs (disch := first | omega | (simp only [maxLen, List.length_replicate, eq_self, true_and, and_true, and_self, avs_len, List.length_map, List.length_append, List.length_cons, List.length_nil, List.length_set, List.length_range, List.length_take, List.length_drop] <;> omega) | rfl | fail) only [sE_move, sE_load, sE_ia, sE_bin, sE_nil, oK_some, Option.map_some, loadF, ixO, indexAddrF, binF_v, v_neq, ↓reduceIte, Bool.false_eq_true, eq_self, ifp, frL_get, frL_put, evalA_tmp, List.length_nil, List.append_nil, List.replicate_zero, Int.toNat_natCast, Nat.mul_one, Nat.zero_add, Nat.reduceEqDiff, killAll, get_map, iD, Nat.reduceAdd, eo_29, sz_3, ag_3]
      refine hK10 _ _ ?_
      refine awp_cond rfl (fun ht => ?_) (fun ht => ?_)
      · have hne : a ≠ b := fun e => by subst e; simp at ht
        refine awp_seq_s KT_ok hc rfl fun K11 hK11 => ?_
        simp -dsimp -implicitDefEqProofs (disch := first | omega | (simp only [maxLen, List.length_replicate, eq_self, true_and, and_true, and_self, avs_len, List.length_map, List.length_append, List.length_cons, List.length_nil, List.length_set, List.length_range, List.length_take, List.length_drop] <;> omega) | rfl | fail) only [sT_assign, sT_nil, frL_put, evalA_const]
        refine hK11 _ _ ?_
        refine awp_ret ?_
        show closeA _ _ = _
        simp (disch := first | omega | (simp only [maxLen, List.length_replicate, eq_self, true_and, and_true, and_self, avs_len, List.length_map, List.length_append, List.length_cons, List.length_nil, List.length_set, List.length_range, List.length_take, List.length_drop] <;> omega) | rfl | fail) only [closeA, retV, deep_d, D.fix, frL_get, ↓reduceIte, Option.map_some, List.length_nil, oD]
        simp [hne]
      · refine awp_skip (hK9 _ _ ?_)
        refine awp_s KT_ok hc rfl fun K12 hK12 => ?_
        simp -dsimp -implicitDefEqProofs (disch := first | omega | (simp only [maxLen, List.length_replicate, eq_self, true_and, and_true, and_self, avs_len, List.length_map, List.length_append, List.length_cons, List.length_nil, List.length_set, List.length_range, List.length_take, List.length_drop] <;> omega) | rfl | fail) only [sT_move, sT_assign, sT_bin, sT_nil, oK_some, Option.map_some, binF_v, v_add, ↓reduceIte, eq_self, frL_get, frL_put, evalA_tmp, evalA_const, Nat.reduceEqDiff]
        refine hK12 _ _ ⟨_, _, _, ?_, ⟨k + 1, ⟨by omega, take_eq_step hlt hlt2 htake (by simpa using ht)⟩, rfl, rfl, rfl⟩, ?_⟩
        · first | omega | (simp only [List.length_cons]; omega) | (dsimp only; omega)
        · refine Rt.end (less_cons (less_cons (less_cons (less_nil _) (by first | rfl | (simp [Fr.put, frL, gcV, fzV, posN, iD, bD, uD, oD, intsD, boolsD, bytesD, intssD, bytessD]; done) | simp [Fr.put, frL, gcV, fzV, posN, iD, bD, uD, oD, intsD, boolsD, bytesD, intssD, bytessD, *])) (by first | rfl | (simp [Fr.put, frL, gcV, fzV, posN, iD, bD, uD, oD, intsD, boolsD, bytesD, intssD, bytessD]; done) | simp [Fr.put, frL, gcV, fzV, posN, iD, bD, uD, oD, intsD, boolsD, bytesD, intssD, bytessD, *])) (by first | rfl | (simp [Fr.put, frL, gcV, fzV, posN, iD, bD, uD, oD, intsD, boolsD, bytesD, intssD, bytessD]; done) | simp [Fr.put, frL, gcV, fzV, posN, iD, bD, uD, oD, intsD, boolsD, bytesD, intssD, bytessD, *])) ?_
          first | rfl | (simp only [intsD, boolsD, bytesD, intssD, bytessD, gcH, gcO, gcVs_avs, gcVs, gcV, gcV_d, fzH, fzO, fzVs_avs, fzVs, fzV, posN, avs_nil, avs_cons, List.map_cons, List.map_nil, List.getD_cons_zero, List.getD_cons_succ, ↓reduceIte, Nat.reduceEqDiff, Option.map_some, List.set_cons_zero, List.set_cons_succ, takeD_avs, takeD_all, Nat.mul_one, List.length_map, List.cons_append, List.nil_append]; first | done | rfl)
    · have hge : k = a.length := by simp at ht; omega
      have he : a = b := by rw [hge, List.take_length, hl, List.take_length] at htake; exact htake
      refine awp_exit (hK5 _ _ ?_)
      refine awp_seq_s KT_ok hc rfl fun K13 hK13 => ?_
      simp -dsimp -implicitDefEqProofs (disch := first | omega | (simp only [maxLen, List.length_replicate, eq_self, true_and, and_true, and_self, avs_len, List.length_map, List.length_append, List.length_cons, List.length_nil, List.length_set, List.length_range, List.length_take, List.length_drop] <;> omega) | rfl | fail) only [sT_assign, sT_nil, frL_put, evalA_const]
      refine hK13 _ _ ?_
      refine awp_ret ?_
      show closeA _ _ = _
      simp (disch := first | omega | (simp only [maxLen, List.length_replicate, eq_self, true_and, and_true, and_self, avs_len, List.length_map, List.length_append, List.length_cons, List.length_nil, List.length_set, List.length_range, List.length_take, List.length_drop] <;> omega) | rfl | fail) only [closeA, retV, deep_d, D.fix, frL_get, ↓reduceIte, Option.map_some, List.length_nil, oD]
      simp [he]
set_option maxRecDepth 100000 in
set_option linter.unusedVariables false in
set_option maxHeartbeats 4000000 in
theorem bools_c (a b : List Bool) (ha : a.length ≤ maxLen) : PCalls Try.prog 13 [boolsD a, boolsD b] (.d (oD (decide (a = b)))) := by
  refine pcalls_of0 (fn := Try.f13) (by kernel_rfl) Try.func13 rfl (Nat.le_of_ble_eq_true rfl) fun c hc hp => ?_
  refine awp_less (τ' := frL [(0, .d (boolsD a)), (1, .d (boolsD b))]) (less_cons (less_cons (less_nil _) (by first | rfl | (simp [Fr.put, frL, gcV, fzV, posN, iD, bD, uD, oD, intsD, boolsD, bytesD, intssD, bytessD]; done) | simp [Fr.put, frL, gcV, fzV, posN, iD, bD, uD, oD, intsD, boolsD, bytesD, intssD, bytessD, *])) (by first | rfl | (simp [Fr.put, frL, gcV, fzV, posN, iD, bD, uD, oD, intsD, boolsD, bytesD, intssD, bytessD]; done) | simp [Fr.put, frL, gcV, fzV, posN, iD, bD, uD, oD, intsD, boolsD, bytesD, intssD, bytessD, *])) ?_
  unfold maxLen at ha
  refine awp_seq_s KT_ok hc rfl fun K1 hK1 => ?_
  simp -dsimp -implicitDefEqProofs (disch := first | omega | (simp only [maxLen, List.length_replicate, eq_self, true_and, and_true, and_self, avs_len, List.length_map, List.length_append, List.length_cons, List.length_nil, List.length_set, List.length_range, List.length_take, List.length_drop] <;> omega) | rfl | fail) only [sT_assign, sT_nil, frL_put, evalA_const, boolsD]
  refine hK1 _ _ ?_
  refine awp_seq_k fun K2 hK2 => ?_
  refine awp_seq_s KT_ok hc rfl fun K3 hK3 => ?_
  simp -dsimp -implicitDefEqProofs (disch := first | omega | (simp only [maxLen, List.length_replicate, eq_self, true_and, and_true, and_self, avs_len, List.length_map, List.length_append, List.length_cons, List.length_nil, List.length_set, List.length_range, List.length_take, List.length_drop] <;> omega) | rfl | fail) only [sT_move, sT_bin, sT_len, sT_nil, oK_some, Option.map_some, binF_v, lenF, builtinF, v_neq, ↓reduceIte, eq_self, frL_get, frL_put, evalA_tmp, List.map_cons, List.map_nil, Nat.reduceEqDiff, eo_34]
  refine hK3 _ _ ?_
  refine awp_cond rfl (fun ht => ?_) (fun ht => ?_)
  · have hne : a ≠ b := fun e => by subst e; simp at ht
    refine awp_seq_s KT_ok hc rfl fun K4 hK4 => ?_
    simp -dsimp -implicitDefEqProofs (disch := first | omega | (simp only [maxLen, List.length_replicate, eq_self, true_and, and_true, and_self, avs_len, List.length_map, List.length_append, List.length_cons, List.length_nil, List.length_set, List.length_range, List.length_take, List.length_drop] <;> omega) | rfl | fail) only [sT_assign, sT_nil, frL_put, evalA_const]
    refine hK4 _ _ ?_
    refine awp_ret ?_
    show closeA _ _ = _
    simp (disch := first | omega | (simp only [maxLen, List.length_replicate, eq_self, true_and, and_true, and_self, avs_len, List.length_map, List.length_append, List.length_cons, List.length_nil, List.length_set, List.length_range, List.length_take, List.length_drop] <;> omega) | rfl | fail) only [closeA, retV, deep_d, D.fix, frL_get, ↓reduceIte, Option.map_some, List.length_nil, oD]
    simp [hne]
  · have hl : a.length = b.length := by simp at ht; omega
    refine awp_skip (hK2 _ _ ?_)
    refine awp_seq_k fun K5 hK5 => ?_
    refine awp_seq_s KT_ok hc rfl fun K6 hK6 => ?_
    simp -dsimp -implicitDefEqProofs (disch := first | omega | (simp only [maxLen, List.length_replicate, eq_self, true_and, and_true, and_self, avs_len, List.length_map, List.length_append, List.length_cons, List.length_nil, List.length_set, List.length_range, List.length_take, List.length_drop] <;> omega) | rfl | fail) only [sT_assign, sT_nil, frL_put, evalA_const]
    refine hK6 _ _ ?_
    refine awp_block ?_
    refine awp_loop_rt hp (fun τ' H' mm => ∃ k, (k ≤ a.length ∧ a.take k = b.take k) ∧ mm = a.length - k ∧ H' = [] ∧ τ' = frL [(5, .d (iD k)), (0, .d (boolsD a)), (1, .d (boolsD b))]) (a.length) ?_ ⟨0, ⟨Nat.zero_le _, rfl⟩, rfl, rfl, rfl⟩ ?_
    · refine Rt.end (less_cons (less_cons (less_cons (less_nil _) (by first | rfl | (simp [Fr.put, frL, gcV, fzV, posN, iD, bD, uD, oD, intsD, boolsD, bytesD, intssD, bytessD]; done) | simp [Fr.put, frL, gcV, fzV, posN, iD, bD, uD, oD, intsD, boolsD, bytesD, intssD, bytessD, *])) (by first | rfl | (simp [Fr.put, frL, gcV, fzV, posN, iD, bD, uD, oD, intsD, boolsD, bytesD, intssD, bytessD]; done) | simp [Fr.put, frL, gcV, fzV, posN, iD, bD, uD, oD, intsD, boolsD, bytesD, intssD, bytessD, *])) (by first | rfl | (simp [Fr.put, frL, gcV, fzV, posN, iD, bD, uD, oD, intsD, boolsD, bytesD, intssD, bytessD]; done) | simp [Fr.put, frL, gcV, fzV, posN, iD, bD, uD, oD, intsD, boolsD, bytesD, intssD, bytessD, *])) ?_
      first | rfl | (simp only [intsD, boolsD, bytesD, intssD, bytessD, gcH, gcO, gcVs_avs, gcVs, gcV, gcV_d, fzH, fzO, fzVs_avs, fzVs, fzV, posN, avs_nil, avs_cons, List.map_cons, List.map_nil, List.getD_cons_zero, List.getD_cons_succ, ↓reduceIte, Nat.reduceEqDiff, Option.map_some, List.set_cons_zero, List.set_cons_succ, takeD_avs, takeD_all, Nat.mul_one, List.length_map, List.cons_append, List.nil_append]; first | done | rfl)
    rintro τ' H' mm ⟨k, ⟨hk, htake⟩, rfl, rfl, rfl⟩
    refine awp_seq_k fun K7 hK7 => ?_
    refine awp_seq_s KT_ok hc rfl fun K8 hK8 => ?_
    simp -dsimp -implicitDefEqProofs (disch := first | omega | (simp only [maxLen, List.length_replicate, eq_self, true_and, and_true, and_self, avs_len, List.length_map, List.length_append, List.length_cons, List.length_nil, List.length_set, List.length_range, List.length_take, List.length_drop] <;> omega) | rfl | fail) only [sT_move, sT_bin, sT_len, sT_nil, oK_some, Option.map_some, binF_v, lenF, builtinF, v_lss, ↓reduceIte, eq_self, frL_get, frL_put, evalA_tmp, List.map_cons, List.map_nil, Nat.reduceEqDiff, iD, boolsD, eo_34]
    refine hK8 _ _ ?_
    refine awp_cond rfl (fun ht => ?_) (fun ht => ?_)
    · have hlt : k < a.length := by simp at ht; omega
      have hlt2 : k < b.length := by omega
      refine awp_skip (hK7 _ _ ?_)
      refine awp_seq_k fun K9 hK9 => ?_
      refine awp_block ?_
      refine awp_seq_se KT_ok hc mixed rfl (q := 0) (by kernel_rfl) (by kernel_rfl) fun K10 hK10 => ?_
      simp -dsimp -implicitDefEqProofs (disch := first | omega | (simp only [maxLen, List.length_replicate, eq_self, true_and, and_true, and_self, avs_len, List.length_map, List.length_append, List.length_cons, List.length_nil, List.length_set, List.length_range, List.length_take, List.length_drop] <;> omega) | rfl | fail) only [sE_move, sE_load, sE_ia, sE_bin, sE_nil, oK_some, Option.map_some, loadF, ixO, indexAddrF, binF_v, v_bneq, ↓reduceIte, Bool.false_eq_true, eq_self, ifp, frL_get, frL_put, evalA_tmp, List.length_nil, List.append_nil, List.replicate_zero, Int.toNat_natCast, Nat.mul_one, Nat.zero_add, Nat.reduceEqDiff, killAll, get_map, oD, Nat.reduceAdd, eo_34, sz_4, ag_4, bt_4]
      refine hK10 _ _ ?_
      refine awp_cond rfl (fun ht => ?_) (fun ht => ?_)
      · have hne : a ≠ b := fun e => by subst e; simp at ht
        refine awp_seq_s KT_ok hc rfl fun K11 hK11 => ?_
        simp -dsimp -implicitDefEqProofs (disch := first | omega | (simp only [maxLen, List.length_replicate, eq_self, true_and, and_true, and_self, avs_len, List.length_map, List.length_append, List.length_cons, List.length_nil, List.length_set, List.length_range, List.length_take, List.length_drop] <;> omega) | rfl | fail) only [sT_assign, sT_nil, frL_put, evalA_const]
        refine hK11 _ _ ?_
        refine awp_ret ?_
        show closeA _ _ = _
        simp (disch := first | omega | (simp only [maxLen, List.length_replicate, eq_self, true_and, and_true, and_self, avs_len, List.length_map, List.length_append, List.length_cons, List.length_nil, List.length_set, List.length_range, List.length_take, List.length_drop] <;> omega) | rfl | fail) only [closeA, retV, deep_d, D.fix, frL_get, ↓reduceIte, Option.map_some, List.length_nil, oD]
        simp [hne]
      · refine awp_skip (hK9 _ _ ?_)
        refine awp_s KT_ok hc rfl fun K12 hK12 => ?_
        simp -dsimp -implicitDefEqProofs (disch := first | omega | (simp only [maxLen, List.length_replicate, eq_self, true_and, and_true, and_self, avs_len, List.length_map, List.length_append, List.length_cons, List.length_nil, List.length_set, List.length_range, List.length_take, List.length_drop] <;> omega) | rfl | fail) only [sT_move, sT_assign, sT_bin, sT_nil, oK_some, Option.map_some, binF_v, v_add, ↓reduceIte, eq_self, frL_get, frL_put, evalA_tmp, evalA_const, Nat.reduceEqDiff]
        refine hK12 _ _ ⟨_, _, _, ?_, ⟨k + 1, ⟨by omega, take_eq_step hlt hlt2 htake (by simpa using ht)⟩, rfl, rfl, rfl⟩, ?_⟩
        · first | omega | (simp only [List.length_cons]; omega) | (dsimp only; omega)
        · refine Rt.end (less_cons (less_cons (less_cons (less_nil _) (by first | rfl | (simp [Fr.put, frL, gcV, fzV, posN, iD, bD, uD, oD, intsD, boolsD, bytesD, intssD, bytessD]; done) | simp [Fr.put, frL, gcV, fzV, posN, iD, bD, uD, oD, intsD, boolsD, bytesD, intssD, bytessD, *])) (by first | rfl | (simp [Fr.put, frL, gcV, fzV, posN, iD, bD, uD, oD, intsD, boolsD, bytesD, intssD, bytessD]; done) | simp [Fr.put, frL, gcV, fzV, posN, iD, bD, uD, oD, intsD, boolsD, bytesD, intssD, bytessD, *])) (by first | rfl | (simp [Fr.put, frL, gcV, fzV, posN, iD, bD, uD, oD, intsD, boolsD, bytesD, intssD, bytessD]; done) | simp [Fr.put, frL, gcV, fzV, posN, iD, bD, uD, oD, intsD, boolsD, bytesD, intssD, bytessD, *])) ?_
          first | rfl | (simp only [intsD, boolsD, bytesD, intssD, bytessD, gcH, gcO, gcVs_avs, gcVs, gcV, gcV_d, fzH, fzO, fzVs_avs, fzVs, fzV, posN, avs_nil, avs_cons, List.map_cons, List.map_nil, List.getD_cons_zero, List.getD_cons_succ, ↓reduceIte, Nat.reduceEqDiff, Option.map_some, List.set_cons_zero, List.set_cons_succ, takeD_avs, takeD_all, Nat.mul_one, List.length_map, List.cons_append, List.nil_append]; first | done | rfl)
    · have hge : k = a.length := by simp at ht; omega
      have he : a = b := by rw [hge, List.take_length, hl, List.take_length] at htake; exact htake
      refine awp_exit (hK5 _ _ ?_)
      refine awp_seq_s KT_ok hc rfl fun K13 hK13 => ?_
      simp -dsimp -implicitDefEqProofs (disch := first | omega | (simp only [maxLen, List.length_replicate, eq_self, true_and, and_true, and_self, avs_len, List.length_map, List.length_append, List.length_cons, List.length_nil, List.length_set, List.length_range, List.length_take, List.length_drop] <;> omega) | rfl | fail) only [sT_assign, sT_nil, frL_put, evalA_const]
      refine hK13 _ _ ?_
      refine awp_ret ?_
      show closeA _ _ = _
      simp (disch := first | omega | (simp only [maxLen, List.length_replicate, eq_self, true_and, and_true, and_self, avs_len, List.length_map, List.length_append, List.length_cons, List.length_nil, List.length_set, List.length_range, List.length_take, List.length_drop] <;> omega) | rfl | fail) only [closeA, retV, deep_d, D.fix, frL_get, ↓reduceIte, Option.map_some, List.length_nil, oD]
      simp [he]
/-- What the bytes say for n inputs. -/
def valuesN (n : Nat) (l : List Int) : List Bool := (List.range n).map fun i => decide (i < l.length ∧ nth l i % 2 = 1)
theorem valuesN_len (n : Nat) (l : List Int) : (valuesN n l).length = n := by simp [valuesN]
theorem valuesN_succ (n : Nat) (l : List Int) : valuesN (n + 1) l = valuesN n l ++ [decide (n < l.length ∧ nth l n % 2 = 1)] := by simp [valuesN, List.range_succ]
set_option maxRecDepth 100000 in
set_option linter.unusedVariables false in
set_option maxHeartbeats 4000000 in
theorem values_c (n : Nat) (l : List Int) (hn : n ≤ 1000000000) (hl : Bytes l) : PCalls Try.prog 12 [iD n, bytesD l] (.d (boolsD (valuesN n l))) := by
  refine pcalls_of0 (fn := Try.f12) (by kernel_rfl) Try.func12 rfl (Nat.le_of_ble_eq_true rfl) fun c hc hp => ?_
  refine awp_less (τ' := frL [(0, .d (iD n)), (1, .d (bytesD l))]) (less_cons (less_cons (less_nil _) (by first | rfl | (simp [Fr.put, frL, gcV, fzV, posN, iD, bD, uD, oD, intsD, boolsD, bytesD, intssD, bytessD, valuesN_len]; done) | simp [Fr.put, frL, gcV, fzV, posN, iD, bD, uD, oD, intsD, boolsD, bytesD, intssD, bytessD, valuesN_len, *])) (by first | rfl | (simp [Fr.put, frL, gcV, fzV, posN, iD, bD, uD, oD, intsD, boolsD, bytesD, intssD, bytessD, valuesN_len]; done) | simp [Fr.put, frL, gcV, fzV, posN, iD, bD, uD, oD, intsD, boolsD, bytesD, intssD, bytessD, valuesN_len, *])) ?_
  refine awp_seq_s KT_ok hc rfl fun K1 hK1 => ?_
  simp -dsimp -implicitDefEqProofs (disch := first | omega | (simp only [maxLen, List.length_replicate, eq_self, true_and, and_true, and_self, avs_len, List.length_map, List.length_append, List.length_cons, List.length_nil, List.length_set, List.length_range, List.length_take, List.length_drop, valuesN_len] <;> omega) | rfl | fail) only [sT_assign, sT_nil, frL_put, evalA_const, iD, bytesD]
  refine hK1 _ _ ?_
  refine awp_seq_s KT_ok hc rfl fun K2 hK2 => ?_
  simp -dsimp -implicitDefEqProofs (disch := first | omega | (simp only [maxLen, List.length_replicate, eq_self, true_and, and_true, and_self, avs_len, List.length_map, List.length_append, List.length_cons, List.length_nil, List.length_set, List.length_range, List.length_take, List.length_drop, valuesN_len] <;> omega) | rfl | fail) only [sT_assign, sT_bs, deadH, sT_nil, oK_some, Option.map_some, layF, ↓reduceIte, eq_self, ifp, frL_get, frL_put, evalA_tmp, List.map_nil, List.length_nil, List.nil_append, List.replicate_zero, reps_def, fill_nil, Nat.mul_one, List.nil_append, deadH, mk_34]
  refine hK2 _ _ ?_
  refine awp_seq_k fun K3 hK3 => ?_
  refine awp_seq_s KT_ok hc rfl fun K4 hK4 => ?_
  simp -dsimp -implicitDefEqProofs (disch := first | omega | (simp only [maxLen, List.length_replicate, eq_self, true_and, and_true, and_self, avs_len, List.length_map, List.length_append, List.length_cons, List.length_nil, List.length_set, List.length_range, List.length_take, List.length_drop, valuesN_len] <;> omega) | rfl | fail) only [sT_assign, sT_nil, frL_put, evalA_const]
  refine hK4 _ _ ?_
  refine awp_block ?_
  refine awp_loop_rt hp (fun τ' H' mm => ∃ k, (k ≤ n) ∧ mm = n - k ∧ H' = [.cells (avs ((valuesN k l).map oD))] ∧ τ' = frL [(5, .os 1 0 0 k), (6, .d (iD k)), (0, .d (iD n)), (1, .d (bytesD l))]) (n) ?_ ⟨0, Nat.zero_le _, rfl, rfl, rfl⟩ ?_
  · refine Rt.end (less_cons (less_cons (less_cons (less_cons (less_nil _) (by first | rfl | (simp [Fr.put, frL, gcV, fzV, posN, iD, bD, uD, oD, intsD, boolsD, bytesD, intssD, bytessD, valuesN_len]; done) | simp [Fr.put, frL, gcV, fzV, posN, iD, bD, uD, oD, intsD, boolsD, bytesD, intssD, bytessD, valuesN_len, *])) (by first | rfl | (simp [Fr.put, frL, gcV, fzV, posN, iD, bD, uD, oD, intsD, boolsD, bytesD, intssD, bytessD, valuesN_len]; done) | simp [Fr.put, frL, gcV, fzV, posN, iD, bD, uD, oD, intsD, boolsD, bytesD, intssD, bytessD, valuesN_len, *])) (by first | rfl | (simp [Fr.put, frL, gcV, fzV, posN, iD, bD, uD, oD, intsD, boolsD, bytesD, intssD, bytessD, valuesN_len]; done) | simp [Fr.put, frL, gcV, fzV, posN, iD, bD, uD, oD, intsD, boolsD, bytesD, intssD, bytessD, valuesN_len, *])) (by first | rfl | (simp [Fr.put, frL, gcV, fzV, posN, iD, bD, uD, oD, intsD, boolsD, bytesD, intssD, bytessD, valuesN_len]; done) | simp [Fr.put, frL, gcV, fzV, posN, iD, bD, uD, oD, intsD, boolsD, bytesD, intssD, bytessD, valuesN_len, *])) ?_
    first | rfl | (simp only [intsD, boolsD, bytesD, intssD, bytessD, gcH, gcO, gcVs_avs, gcVs, gcV, gcV_d, fzH, fzO, fzVs_avs, fzVs, fzV, posN, avs_nil, avs_cons, List.map_cons, List.map_nil, List.getD_cons_zero, List.getD_cons_succ, ↓reduceIte, Nat.reduceEqDiff, Option.map_some, List.set_cons_zero, List.set_cons_succ, takeD_avs, takeD_all, Nat.mul_one, List.length_map, List.cons_append, List.nil_append, Int.ofNat_lt]; first | done | rfl)
  rintro τ' H' mm ⟨k, hk, rfl, rfl, rfl⟩
  refine awp_seq_k fun K5 hK5 => ?_
  refine awp_seq_s KT_ok hc rfl fun K6 hK6 => ?_
  simp -dsimp -implicitDefEqProofs (disch := first | omega | (simp only [maxLen, List.length_replicate, eq_self, true_and, and_true, and_self, avs_len, List.length_map, List.length_append, List.length_cons, List.length_nil, List.length_set, List.length_range, List.length_take, List.length_drop, valuesN_len] <;> omega) | rfl | fail) only [sT_move, sT_bin, sT_nil, oK_some, Option.map_some, binF_v, v_lss, ↓reduceIte, eq_self, frL_get, frL_put, evalA_tmp, Nat.reduceEqDiff, iD, bytesD, Int.ofNat_lt]
  refine hK6 _ _ ?_
  refine awp_cond rfl (fun ht => ?_) (fun ht => ?_)
  · have hlt : k < n := by simp at ht; omega
    refine awp_skip (hK5 _ _ ?_)
    refine awp_seq_k fun K7 hK7 => ?_
    refine awp_block ?_
    refine awp_s KT_ok hc rfl fun K8 hK8 => ?_
    by_cases hg : k < l.length
    · have hb := hl _ (nth_mem hg)
      simp -dsimp -implicitDefEqProofs (disch := first | omega | (simp only [maxLen, List.length_replicate, eq_self, true_and, and_true, and_self, avs_len, List.length_map, List.length_append, List.length_cons, List.length_nil, List.length_set, List.length_range, List.length_take, List.length_drop, valuesN_len] <;> omega) | rfl | fail) only [sT_move, sT_assign, sT_pick, sT_load, sT_ia, sT_bin, sT_len, sT_bs, sT_app, deadH, sT_nil, sT_g, oK_some, gK_t, Option.map_some, Option.bind_some, loadF, ixO, indexAddrF, binF_v, lenF, builtinF, layF, srcF, v_rem, v_eql, v_lss, ↓reduceIte, Bool.false_eq_true, eq_self, ifp, ifn, guardA_some, guardV_t, frL_get, frL_put, evalA_tmp, evalA_const, List.map_cons, List.map_nil, List.length_cons, List.length_nil, List.getElem?_cons_zero, List.getElem?_cons_succ, List.cons_append, List.nil_append, List.append_nil, List.set_cons_zero, List.replicate_zero, List.replicate_succ, reps_def, fill_nil, fill_cons, as_bool, many_nil, many_cons, true_and, Int.toNat_natCast, Nat.mul_one, Nat.zero_add, Nat.reduceEqDiff, avs_len, avs_app1, takeD_all, List.drop_zero, get_map, bD, Nat.reduceAdd, List.nil_append, deadH, List.length_map, Int.ofNat_lt, hg, decide_true, eo_22, sz_5, ag_5, mk_34]
      refine hK8 _ _ (hK7 _ _ ?_)
      refine awp_s KT_ok hc rfl fun K9 hK9 => ?_
      simp -dsimp -implicitDefEqProofs (disch := first | omega | (simp only [maxLen, List.length_replicate, eq_self, true_and, and_true, and_self, avs_len, List.length_map, List.length_append, List.length_cons, List.length_nil, List.length_set, List.length_range, List.length_take, List.length_drop, valuesN_len] <;> omega) | rfl | fail) only [sT_move, sT_assign, sT_bin, sT_nil, oK_some, Option.map_some, binF_v, v_add, ↓reduceIte, eq_self, frL_get, frL_put, evalA_tmp, evalA_const, Nat.reduceEqDiff]
      refine hK9 _ _ ⟨_, _, _, ?_, ⟨k + 1, by omega, rfl, rfl, rfl⟩, ?_⟩
      · first | omega | (simp only [List.length_cons]; omega) | (dsimp only; omega)
      · refine Rt.trans (Rt.gc (keep := [2]) (by decide) (by simp [])) ?_
        refine Rt.end (less_cons (less_cons (less_cons (less_cons (less_nil _) (by first | rfl | (simp [Fr.put, frL, gcV, fzV, posN, iD, bD, uD, oD, intsD, boolsD, bytesD, intssD, bytessD, valuesN_len]; done) | simp [Fr.put, frL, gcV, fzV, posN, iD, bD, uD, oD, intsD, boolsD, bytesD, intssD, bytessD, valuesN_len, *])) (by first | rfl | (simp [Fr.put, frL, gcV, fzV, posN, iD, bD, uD, oD, intsD, boolsD, bytesD, intssD, bytessD, valuesN_len]; done) | simp [Fr.put, frL, gcV, fzV, posN, iD, bD, uD, oD, intsD, boolsD, bytesD, intssD, bytessD, valuesN_len, *])) (by first | rfl | (simp [Fr.put, frL, gcV, fzV, posN, iD, bD, uD, oD, intsD, boolsD, bytesD, intssD, bytessD, valuesN_len]; done) | simp [Fr.put, frL, gcV, fzV, posN, iD, bD, uD, oD, intsD, boolsD, bytesD, intssD, bytessD, valuesN_len, *])) (by first | rfl | (simp [Fr.put, frL, gcV, fzV, posN, iD, bD, uD, oD, intsD, boolsD, bytesD, intssD, bytessD, valuesN_len]; done) | simp [Fr.put, frL, gcV, fzV, posN, iD, bD, uD, oD, intsD, boolsD, bytesD, intssD, bytessD, valuesN_len, *])) ?_
        simp only [gcH, gcO, gcVs_avs, List.map_cons, List.map_nil, List.getD_cons_zero, List.getD_cons_succ]; simp [valuesN_succ, hg, oD, Bool.beq_eq_decide_eq]
    · simp -dsimp -implicitDefEqProofs (disch := first | omega | (simp only [maxLen, List.length_replicate, eq_self, true_and, and_true, and_self, avs_len, List.length_map, List.length_append, List.length_cons, List.length_nil, List.length_set, List.length_range, List.length_take, List.length_drop, valuesN_len] <;> omega) | rfl | fail) only [sT_move, sT_assign, sT_pick, sT_bin, sT_len, sT_bs, sT_app, deadH, sT_nil, sT_g, oK_some, gK_f, Option.map_some, Option.bind_some, binF_v, lenF, builtinF, layF, srcF, v_lss, ↓reduceIte, Bool.false_eq_true, eq_self, ifp, ifn, guardA_some, guardV_t, frL_get, frL_put, evalA_tmp, evalA_const, List.map_cons, List.map_nil, List.length_cons, List.length_nil, List.getElem?_cons_zero, List.getElem?_cons_succ, List.cons_append, List.nil_append, List.append_nil, List.set_cons_zero, List.replicate_zero, List.replicate_succ, reps_def, fill_nil, fill_cons, as_bool, many_nil, many_cons, true_and, Nat.mul_one, Nat.zero_add, Nat.reduceEqDiff, avs_len, avs_app1, takeD_all, List.drop_zero, Nat.reduceAdd, List.nil_append, deadH, List.length_map, Int.ofNat_lt, hg, decide_false, eo_22, mk_34]
      refine hK8 _ _ (hK7 _ _ ?_)
      refine awp_s KT_ok hc rfl fun K10 hK10 => ?_
      simp -dsimp -implicitDefEqProofs (disch := first | omega | (simp only [maxLen, List.length_replicate, eq_self, true_and, and_true, and_self, avs_len, List.length_map, List.length_append, List.length_cons, List.length_nil, List.length_set, List.length_range, List.length_take, List.length_drop, valuesN_len] <;> omega) | rfl | fail) only [sT_move, sT_assign, sT_bin, sT_nil, oK_some, Option.map_some, binF_v, v_add, ↓reduceIte, eq_self, frL_get, frL_put, evalA_tmp, evalA_const, Nat.reduceEqDiff]
      refine hK10 _ _ ⟨_, _, _, ?_, ⟨k + 1, by omega, rfl, rfl, rfl⟩, ?_⟩
      · first | omega | (simp only [List.length_cons]; omega) | (dsimp only; omega)
      · refine Rt.trans (Rt.gc (keep := [2]) (by decide) (by simp [])) ?_
        refine Rt.end (less_cons (less_cons (less_cons (less_cons (less_nil _) (by first | rfl | (simp [Fr.put, frL, gcV, fzV, posN, iD, bD, uD, oD, intsD, boolsD, bytesD, intssD, bytessD, valuesN_len]; done) | simp [Fr.put, frL, gcV, fzV, posN, iD, bD, uD, oD, intsD, boolsD, bytesD, intssD, bytessD, valuesN_len, *])) (by first | rfl | (simp [Fr.put, frL, gcV, fzV, posN, iD, bD, uD, oD, intsD, boolsD, bytesD, intssD, bytessD, valuesN_len]; done) | simp [Fr.put, frL, gcV, fzV, posN, iD, bD, uD, oD, intsD, boolsD, bytesD, intssD, bytessD, valuesN_len, *])) (by first | rfl | (simp [Fr.put, frL, gcV, fzV, posN, iD, bD, uD, oD, intsD, boolsD, bytesD, intssD, bytessD, valuesN_len]; done) | simp [Fr.put, frL, gcV, fzV, posN, iD, bD, uD, oD, intsD, boolsD, bytesD, intssD, bytessD, valuesN_len, *])) (by first | rfl | (simp [Fr.put, frL, gcV, fzV, posN, iD, bD, uD, oD, intsD, boolsD, bytesD, intssD, bytessD, valuesN_len]; done) | simp [Fr.put, frL, gcV, fzV, posN, iD, bD, uD, oD, intsD, boolsD, bytesD, intssD, bytessD, valuesN_len, *])) ?_
        simp only [gcH, gcO, gcVs_avs, List.map_cons, List.map_nil, List.getD_cons_zero, List.getD_cons_succ]; simp [valuesN_succ, hg, oD]
  · have hge : k = n := by simp at ht; omega
    subst hge
    refine awp_exit (hK3 _ _ ?_)
    refine awp_seq_s KT_ok hc rfl fun K11 hK11 => ?_
    simp -dsimp -implicitDefEqProofs (disch := first | omega | (simp only [maxLen, List.length_replicate, eq_self, true_and, and_true, and_self, avs_len, List.length_map, List.length_append, List.length_cons, List.length_nil, List.length_set, List.length_range, List.length_take, List.length_drop, valuesN_len] <;> omega) | rfl | fail) only [sT_move, sT_assign, sT_nil, ↓reduceIte, eq_self, frL_get, frL_put, evalA_tmp, Nat.reduceEqDiff]
    refine hK11 _ _ ?_
    refine awp_ret ?_
    show closeA _ _ = _
    simp (disch := first | omega | (simp only [maxLen, List.length_replicate, eq_self, true_and, and_true, and_self, avs_len, List.length_map, List.length_append, List.length_cons, List.length_nil, List.length_set, List.length_range, List.length_take, List.length_drop, valuesN_len] <;> omega) | rfl | fail) only [closeA, retV, deepL_avs, lookH_eq, cellsOf_c, deep_os, Nat.zero_add, takeD_all, fixm_o, frL_get, ↓reduceIte, Option.map_some, Option.bind_some, Nat.mul_one, List.getElem?_cons_zero, List.length_cons, List.length_nil, boolsD, valuesN_len]
end Go.Proofs.Ytfpcailbobjfnaa
