/- The reference: Upto, Good, Valid. -/
import Derived.Test.YtinefghmmbggeaaQ
import Derived.Test.YtinefghmmbggeaaRk
set_option linter.unusedVariables false
set_option linter.unusedSimpArgs false
namespace Go.Proofs.Ytinefghmmbggeaa
open Go Go.RowKit
theorem srt_nil : srtL [] = [] := srt_inc List.Pairwise.nil
set_option maxRecDepth 100000 in
set_option linter.unusedVariables false in
set_option maxHeartbeats 4000000 in
theorem uptop_c (r : Rol) (n : Int) (hr : ShortR r) : PCalls Try.prog 30 [rolD r, iD n] (.d (intsD (srtL (uptoL r n)))) := by
  refine pcalls_of0 (fn := Try.f30) (by kernel_rfl) Try.func30 rfl (Nat.le_of_ble_eq_true rfl) fun c hc hp => ?_
  refine awp_less (τ' := frL [(0, .d (rolD r)), (1, .d (iD n))]) (less_cons (less_cons (less_nil _) rfl) rfl) ?_
  have h1 := hr.wl
  have h2 := hr.ws
  refine awp_seq_s KT_ok hc rfl fun K1 hK1 => ?_
  simp -dsimp -implicitDefEqProofs (disch := first | assumption | omega | (simp [maxLen, avs_len] <;> omega) | decide) only [sT_assign, sT_box, deadH, sT_nil, oK_some, q_o, layF, ↓reduceIte, q_b, q_f, q_s, q_l, as_dagg, D.one, Value.oneCell', iD, intsD, intssD, deadH, rolD, rolC]
  refine hK1 _ _ ?_
  refine awp_seq_s KT_ok hc rfl fun K2 hK2 => ?_
  simp -dsimp -implicitDefEqProofs (disch := first | assumption | omega | (simp [maxLen, avs_len] <;> omega) | decide) only [sT_assign, sT_bs, deadH, sT_nil, oK_some, q_o, layF, ↓reduceIte, q_b, ifp, q_f, q_s, q_l, List.replicate_zero, reps_def, q_a, q_n, deadH, mk_27]
  refine hK2 _ _ ?_
  refine awp_seq_k fun K3 hK3 => ?_
  refine awp_seq_s KT_ok hc rfl fun K4 hK4 => ?_
  simp -dsimp -implicitDefEqProofs (disch := first | assumption | omega | (simp [maxLen, avs_len] <;> omega) | decide) only [sT_assign, sT_nil, q_f]
  refine hK4 _ _ ?_
  refine awp_block ?_
  refine awp_loop_rt hp (fun τ' H' mm => ∃ k, (k ≤ r.wv.length ∧ k ≤ n.toNat) ∧ mm = r.wv.length - k ∧ H' = [.cells (avs (rolC r))] ∧ τ' = frL [(1, .d (iD n)), (2, .op 0 0), (5, .d (intsD (srtL (r.wv.take k).flatten))), (6, .d (iD k))]) (r.wv.length) ?_ ⟨0, ⟨Nat.zero_le _, Nat.zero_le _⟩, rfl, rfl, rfl⟩ ?_
  · refine Rt.trans (Rt.fz (id := 1) (l := []) rfl) ?_
    refine Rt.trans (Rt.slot 5 (fzV_os (takeD_all (by simp)))) ?_
    refine Rt.trans (Rt.gc (keep := [0]) (by decide) (by simp [fzH])) ?_
    refine Rt.end (less_cons (less_cons (less_cons (less_cons (less_nil _) rfl) (by first | rfl | (simp [Fr.put, gcV, intsD, srt_nil]; done) | simp [Fr.put, frL, gcV, fzV, posN, iD, bD, uD, oD, intsD, boolsD, bytesD, intssD, bytessD, srt_nil, *])) rfl) rfl) ?_
    first | rfl | (simp only [intsD, boolsD, bytesD, intssD, bytessD, gcH, gcO, gcVs_avs, gcVs, gcV, gcV_d, fzH, fzO, fzVs_avs, fzVs, fzV, posN, avs_nil, avs_cons, List.map_cons, List.map_nil, List.getD_cons_zero, List.getD_cons_succ, ↓reduceIte, Nat.reduceEqDiff, Option.map_some, List.set_cons_zero, List.set_cons_succ, takeD_avs, takeD_all, Nat.mul_one, List.length_map, List.cons_append, List.nil_append, rolD, rolC]; first | done | rfl)
  rintro τ' H' mm ⟨k, ⟨hk, hkn⟩, rfl, rfl, rfl⟩
  refine awp_seq_k fun K5 hK5 => ?_
  refine awp_seq_s KT_ok hc rfl fun K6 hK6 => ?_
  rcases (show ((k : Int) < n ∧ k < r.wv.length) ∨ ((k : Int) < n ∧ ¬ k < r.wv.length) ∨ ¬ (k : Int) < n from by omega) with ⟨hn, hlt⟩ | ⟨hn, hlt⟩ | hn
  · simp -dsimp -implicitDefEqProofs (disch := first | assumption | omega | (simp [maxLen, avs_len] <;> omega) | decide) only [sT_move, sT_pick, sT_load, sT_fa, sT_bin, sT_len, sT_nil, sT_g, oK_some, gK_t, q_o, loadF, fieldAddrF, binF_v, lenF, builtinF, v_lss, ↓reduceIte, q_b, ifp, guardA_some, guardV_t, q_f, q_s, q_l, q_n, Nat.reduceEqDiff, avs_nil, avs_cons, iD, intsD, intssD, rolC, dec_t, fo_29_2, sz_26, ag_26, eo_26]
    refine hK6 _ _ ?_
    refine awp_cond rfl (fun ht => ?_) (fun ht => ?_)
    · have hrl := row_len hlt
      refine awp_skip (hK5 _ _ ?_)
      refine awp_seq_k fun K7 hK7 => ?_
      refine awp_block ?_
      refine awp_seq_s KT_ok hc rfl fun K8 hK8 => ?_
      simp -dsimp -implicitDefEqProofs (disch := first | assumption | omega | (simp [maxLen, avs_len] <;> omega) | decide) only [sT_assign, sT_nil, q_f]
      refine hK8 _ _ ?_
      refine awp_block ?_
      refine awp_loop_rt hp (fun τ' H' mm => ∃ m, (m ≤ (nth r.wv k).length) ∧ mm = (nth r.wv k).length - m ∧ H' = [.cells (avs (rolC r))] ∧ τ' = frL [(1, .d (iD n)), (2, .op 0 0), (5, .d (intsD (srtL ((r.wv.take k).flatten ++ (nth r.wv k).take m)))), (6, .d (iD k)), (7, .d (iD m))]) ((nth r.wv k).length) ?_ ⟨0, Nat.zero_le _, rfl, rfl, rfl⟩ ?_
      · refine Rt.end (less_cons (less_cons (less_cons (less_cons (less_cons (less_nil _) rfl) rfl) (by first | rfl | (simp [frL, intsD]; done) | simp [Fr.put, frL, gcV, fzV, posN, iD, bD, uD, oD, intsD, boolsD, bytesD, intssD, bytessD, srt_nil, *])) rfl) rfl) ?_
        first | rfl | (simp only [intsD, boolsD, bytesD, intssD, bytessD, gcH, gcO, gcVs_avs, gcVs, gcV, gcV_d, fzH, fzO, fzVs_avs, fzVs, fzV, posN, avs_nil, avs_cons, List.map_cons, List.map_nil, List.getD_cons_zero, List.getD_cons_succ, ↓reduceIte, Nat.reduceEqDiff, Option.map_some, List.set_cons_zero, List.set_cons_succ, takeD_avs, takeD_all, Nat.mul_one, List.length_map, List.cons_append, List.nil_append, rolD, rolC]; first | done | rfl)
      rintro τ' H' mm ⟨m, hm, rfl, rfl, rfl⟩
      refine awp_seq_k fun K9 hK9 => ?_
      refine awp_seq_s KT_ok hc rfl fun K10 hK10 => ?_
      simp -dsimp -implicitDefEqProofs (disch := first | assumption | omega | (simp [maxLen, avs_len] <;> omega) | decide) only [sT_move, sT_load, sT_fa, sT_ia, sT_bin, sT_len, sT_nil, oK_some, q_o, loadF, fieldAddrF, ixO, indexAddrF, binF_v, lenF, builtinF, v_lss, ↓reduceIte, q_b, ifp, q_f, q_s, q_l, Int.toNat_natCast, q_n, Nat.reduceEqDiff, avs_nil, avs_cons, get_map, iD, intsD, intssD, rolC, fo_29_2, sz_26, ag_26, eo_26, sz_27, ag_27, eo_27]
      refine hK10 _ _ ?_
      refine awp_cond rfl (fun ht => ?_) (fun ht => ?_)
      · have hlm : m < (nth r.wv k).length := by simp at ht; omega
        have hln : (srtL ((r.wv.take k).flatten ++ (nth r.wv k).take m)).length ≤ 999999 := by
          have a1 := srt_len ((r.wv.take k).flatten ++ (nth r.wv k).take m)
          have a2 := sum_step hlt
          have a3 := sum_take r.wv (k + 1)
          rw [List.length_append, List.length_take] at a1
          unfold sumL at a2 a3 h2
          omega
        have hnx : insL (nth (nth r.wv k) m) (srtL ((r.wv.take k).flatten ++ (nth r.wv k).take m)) = srtL ((r.wv.take k).flatten ++ (nth r.wv k).take (m + 1)) := by
          rw [ins_srt, take_nth hlm, List.append_assoc]
        refine awp_skip (hK9 _ _ ?_)
        refine awp_seq_k fun K11 hK11 => ?_
        refine awp_block ?_
        refine awp_s KT_ok hc rfl fun K12 hK12 => ?_
        simp -dsimp -implicitDefEqProofs (disch := first | assumption | omega | (simp [maxLen, avs_len] <;> omega) | decide) only [sT_move, sT_load, sT_fa, sT_ia, sT_call0, oK_some, q_o, loadF, fieldAddrF, ixO, indexAddrF, ↓reduceIte, q_b, ifp, q_f, q_s, q_l, Int.toNat_natCast, q_n, Nat.reduceEqDiff, get_map, iD, intsD, fo_29_2, sz_26, ag_26, eo_26, sz_27, ag_27, eo_27, sz_3, ag_3]
        refine kc_by (put_c (srtL ((r.wv.take k).flatten ++ (nth r.wv k).take m)) (nth (nth r.wv k) m) hln) rfl ?_
        simp -dsimp -implicitDefEqProofs (disch := first | assumption | omega | (simp [maxLen, avs_len] <;> omega) | decide) only [sT_assign, sT_nil, ↓reduceIte, q_b, q_f, intsD, hnx]
        refine hK12 _ _ (hK11 _ _ ?_)
        refine awp_s KT_ok hc rfl fun K13 hK13 => ?_
        simp -dsimp -implicitDefEqProofs (disch := first | assumption | omega | (simp [maxLen, avs_len] <;> omega) | decide) only [sT_move, sT_assign, sT_bin, sT_nil, oK_some, q_o, binF_v, v_add, ↓reduceIte, q_b, q_f, Nat.reduceEqDiff]
        refine hK13 _ _ ⟨_, _, _, ?_, ⟨m + 1, by omega, rfl, rfl, rfl⟩, ?_⟩
        · first | omega | (simp only [List.length_cons]; omega) | (dsimp only; omega)
        · refine Rt.end (less_cons (less_cons (less_cons (less_cons (less_cons (less_nil _) rfl) rfl) rfl) rfl) rfl) ?_
          first | rfl | (simp only [intsD, boolsD, bytesD, intssD, bytessD, gcH, gcO, gcVs_avs, gcVs, gcV, gcV_d, fzH, fzO, fzVs_avs, fzVs, fzV, posN, avs_nil, avs_cons, List.map_cons, List.map_nil, List.getD_cons_zero, List.getD_cons_succ, ↓reduceIte, Nat.reduceEqDiff, Option.map_some, List.set_cons_zero, List.set_cons_succ, takeD_avs, takeD_all, Nat.mul_one, List.length_map, List.cons_append, List.nil_append, rolD, rolC]; first | done | rfl)
      · have hmm : m = (nth r.wv k).length := by simp at ht; omega
        subst hmm
        rw [List.take_length, ← flat_step hlt]
        refine awp_exit (hK7 _ _ ?_)
        refine awp_s KT_ok hc rfl fun K14 hK14 => ?_
        simp -dsimp -implicitDefEqProofs (disch := first | assumption | omega | (simp [maxLen, avs_len] <;> omega) | decide) only [sT_move, sT_assign, sT_bin, sT_nil, oK_some, q_o, binF_v, v_add, ↓reduceIte, q_b, q_f, Nat.reduceEqDiff]
        refine hK14 _ _ ⟨_, _, _, ?_, ⟨k + 1, ⟨by omega, by omega⟩, rfl, rfl, rfl⟩, ?_⟩
        · first | omega | (simp only [List.length_cons]; omega) | (dsimp only; omega)
        · refine Rt.end (less_cons (less_cons (less_cons (less_cons (less_nil _) rfl) rfl) rfl) rfl) ?_
          first | rfl | (simp only [intsD, boolsD, bytesD, intssD, bytessD, gcH, gcO, gcVs_avs, gcVs, gcV, gcV_d, fzH, fzO, fzVs_avs, fzVs, fzV, posN, avs_nil, avs_cons, List.map_cons, List.map_nil, List.getD_cons_zero, List.getD_cons_succ, ↓reduceIte, Nat.reduceEqDiff, Option.map_some, List.set_cons_zero, List.set_cons_succ, takeD_avs, takeD_all, Nat.mul_one, List.length_map, List.cons_append, List.nil_append, rolD, rolC]; first | done | rfl)
    · cases ht
  · simp -dsimp -implicitDefEqProofs (disch := first | assumption | omega | (simp [maxLen, avs_len] <;> omega) | decide) only [sT_move, sT_pick, sT_load, sT_fa, sT_bin, sT_len, sT_nil, sT_g, oK_some, gK_t, q_o, loadF, fieldAddrF, binF_v, lenF, builtinF, v_lss, ↓reduceIte, q_b, ifp, guardA_some, guardV_t, q_f, q_s, q_l, q_n, Nat.reduceEqDiff, avs_nil, avs_cons, iD, intsD, intssD, rolC, dec_t, dec_f, fo_29_2, sz_26, ag_26, eo_26]
    refine hK6 _ _ ?_
    refine awp_cond rfl (fun ht => ?_) (fun ht => ?_)
    · cases ht
    · have hx : uptoL r n = (r.wv.take k).flatten := by
        unfold uptoL
        rw [List.take_of_length_le (by omega), List.take_of_length_le (by omega)]
      refine awp_exit (hK3 _ _ ?_)
      refine awp_seq_s KT_ok hc rfl fun K15 hK15 => ?_
      simp -dsimp -implicitDefEqProofs (disch := first | assumption | omega | (simp [maxLen, avs_len] <;> omega) | decide) only [sT_move, sT_assign, sT_nil, ↓reduceIte, q_b, q_f, Nat.reduceEqDiff]
      refine hK15 _ _ ?_
      refine awp_ret ?_
      show closeA _ _ = _
      simp (disch := first | assumption | omega | (simp [maxLen, avs_len] <;> omega) | decide) only [closeA, retV, deep_d, Nat.zero_add, D.fix, frL_get, ↓reduceIte, Option.map_some, List.length_cons, List.length_nil, intsD, hx]
  · simp -dsimp -implicitDefEqProofs (disch := first | assumption | omega | (simp [maxLen, avs_len] <;> omega) | decide) only [sT_move, sT_pick, sT_bin, sT_nil, sT_g, oK_some, gK_f, q_o, binF_v, v_lss, ↓reduceIte, q_b, guardA_some, guardV_t, q_f, q_l, Nat.reduceEqDiff, avs_nil, avs_cons, iD, intsD, intssD, rolC, dec_f]
    refine hK6 _ _ ?_
    refine awp_cond rfl (fun ht => ?_) (fun ht => ?_)
    · cases ht
    · have hx : uptoL r n = (r.wv.take k).flatten := by
        unfold uptoL
        rw [show n.toNat = k by omega]
      refine awp_exit (hK3 _ _ ?_)
      refine awp_seq_s KT_ok hc rfl fun K16 hK16 => ?_
      simp -dsimp -implicitDefEqProofs (disch := first | assumption | omega | (simp [maxLen, avs_len] <;> omega) | decide) only [sT_move, sT_assign, sT_nil, ↓reduceIte, q_b, q_f, Nat.reduceEqDiff]
      refine hK16 _ _ ?_
      refine awp_ret ?_
      show closeA _ _ = _
      simp (disch := first | assumption | omega | (simp [maxLen, avs_len] <;> omega) | decide) only [closeA, retV, deep_d, Nat.zero_add, D.fix, frL_get, ↓reduceIte, Option.map_some, List.length_cons, List.length_nil, intsD, hx]
def goodB (r : Rol) (p : Rep) : Bool := p.runs && p.same && decide (r.slk ≤ p.slk)
set_option maxRecDepth 100000 in
set_option linter.unusedVariables false in
set_option maxHeartbeats 4000000 in
theorem good_c (r : Rol) (p : Rep) : PCalls Try.prog 56 [rolD r, repD p] (.d (.val (.bool (goodB r p)))) := by
  refine pcalls_of0 (fn := Try.f56) (by kernel_rfl) Try.func56 rfl (Nat.le_of_ble_eq_true rfl) fun c hc hp => ?_
  refine awp_less (τ' := frL [(0, .d (rolD r)), (1, .d (repD p))]) (less_cons (less_cons (less_nil _) rfl) rfl) ?_
  refine awp_seq_s KT_ok hc rfl fun K1 hK1 => ?_
  simp -dsimp -implicitDefEqProofs (disch := first | assumption | omega | (simp [maxLen, avs_len] <;> omega) | decide) only [sT_assign, sT_box, deadH, sT_nil, oK_some, q_o, layF, ↓reduceIte, q_b, q_f, q_s, q_l, as_dagg, D.one, Value.oneCell', q_n, Nat.reduceEqDiff, iD, oD, intsD, intssD, deadH, rolD, rolC, repD, repC]
  refine hK1 _ _ ?_
  refine awp_seq_s KT_ok hc rfl fun K2 hK2 => ?_
  rcases (show p.runs = false ∨ (p.runs = true ∧ p.same = false) ∨ (p.runs = true ∧ p.same = true) from by cases p.runs <;> cases p.same <;> simp) with g1 | ⟨g1, g2⟩ | ⟨g1, g2⟩
  · have g2 := g1
    have hx : goodB r p = false := by simp [goodB, g1]
    simp -dsimp -implicitDefEqProofs (disch := first | assumption | omega | (simp [maxLen, avs_len] <;> omega) | decide) only [sT_move, sT_assign, sT_pick, sT_load, sT_fa, sT_nil, sT_g, oK_some, gK_f, q_o, loadF, fieldAddrF, ↓reduceIte, q_b, ifp, guardA_some, guardV_t, q_f, q_l, q_n, Nat.reduceEqDiff, Nat.reduceAdd, g1, fo_31_4, sz_4, ag_4]
    refine hK2 _ _ ?_
    refine awp_ret ?_
    show closeA _ _ = _
    simp (disch := first | assumption | omega | (simp [maxLen, avs_len] <;> omega) | decide) only [closeA, retV, deep_d, Nat.reduceAdd, Nat.zero_add, D.fix, frL_get, ↓reduceIte, Option.map_some, List.length_cons, List.length_nil, hx]
  · have hx : goodB r p = false := by simp [goodB, g1, g2]
    simp -dsimp -implicitDefEqProofs (disch := first | assumption | omega | (simp [maxLen, avs_len] <;> omega) | decide) only [sT_move, sT_assign, sT_pick, sT_load, sT_fa, sT_nil, sT_g, oK_some, gK_t, gK_f, q_o, loadF, fieldAddrF, ↓reduceIte, q_b, ifp, guardA_some, guardV_t, q_f, q_l, q_n, Nat.reduceEqDiff, Nat.reduceAdd, g1, g2, fo_31_4, sz_4, ag_4, fo_31_3]
    refine hK2 _ _ ?_
    refine awp_ret ?_
    show closeA _ _ = _
    simp (disch := first | assumption | omega | (simp [maxLen, avs_len] <;> omega) | decide) only [closeA, retV, deep_d, Nat.reduceAdd, Nat.zero_add, D.fix, frL_get, ↓reduceIte, Option.map_some, List.length_cons, List.length_nil, hx]
  · have hx : goodB r p = decide (r.slk ≤ p.slk) := by simp [goodB, g1, g2]
    simp -dsimp -implicitDefEqProofs (disch := first | assumption | omega | (simp [maxLen, avs_len] <;> omega) | decide) only [sT_move, sT_assign, sT_pick, sT_load, sT_fa, sT_bin, sT_nil, sT_g, oK_some, gK_t, q_o, loadF, fieldAddrF, binF_v, v_geq, ↓reduceIte, q_b, ifp, guardA_some, guardV_t, q_f, q_l, q_n, Nat.reduceEqDiff, Nat.reduceAdd, g1, g2, fo_31_4, sz_4, ag_4, fo_31_3, fo_31_2, sz_3, ag_3, fo_29_3]
    refine hK2 _ _ ?_
    refine awp_ret ?_
    show closeA _ _ = _
    simp (disch := first | assumption | omega | (simp [maxLen, avs_len] <;> omega) | decide) only [closeA, retV, deep_d, Nat.reduceAdd, Nat.zero_add, D.fix, frL_get, ↓reduceIte, Option.map_some, List.length_cons, List.length_nil, hx]
theorem upto_srt_len {r : Rol} (hr : ShortR r) (n : Int) : (srtL (uptoL r n)).length ≤ 1000000 := Nat.le_trans (srt_len _) (hr.upto n)
set_option maxRecDepth 100000 in
set_option linter.unusedVariables false in
set_option maxHeartbeats 4000000 in
theorem validp_c (r : Rol) (hr : ShortR r) : PCalls Try.prog 13 [rolD r] (.d (.val (.bool (validR r)))) := by
  refine pcalls_of0 (fn := Try.f13) (by kernel_rfl) Try.func13 rfl (Nat.le_of_ble_eq_true rfl) fun c hc hp => ?_
  refine awp_less (τ' := frL [(0, .d (rolD r))]) (less_cons (less_nil _) rfl) ?_
  have hw1 := hr.wl
  have hw2 := hr.ws
  have hd1 := hr.dl
  refine awp_seq_s KT_ok hc rfl fun K1 hK1 => ?_
  simp -dsimp -implicitDefEqProofs (disch := first | assumption | omega | (simp [maxLen, avs_len] <;> omega) | decide) only [sT_assign, sT_box, deadH, sT_nil, oK_some, q_o, layF, ↓reduceIte, q_b, q_f, q_s, q_l, as_dagg, D.one, Value.oneCell', iD, intsD, intssD, deadH, rolD, rolC]
  refine hK1 _ _ ?_
  refine awp_seq_k fun K2 hK2 => ?_
  obtain ⟨bv, gv⟩ : ∃ b, validW r.wv = b := ⟨_, rfl⟩
  refine awp_seq_s KT_ok hc rfl fun K3 hK3 => ?_
  rcases (show r.frm < 1 ∨ (1 ≤ r.frm ∧ r.to < 1) ∨ ((1 ≤ r.frm ∧ 1 ≤ r.to) ∧ r.frm = r.to) ∨ ((1 ≤ r.frm ∧ 1 ≤ r.to) ∧ r.frm ≠ r.to ∧ r.slk < 0) ∨ ((1 ≤ r.frm ∧ 1 ≤ r.to) ∧ (r.frm ≠ r.to ∧ 0 ≤ r.slk) ∧ bv = false) ∨ ((1 ≤ r.frm ∧ 1 ≤ r.to) ∧ (r.frm ≠ r.to ∧ 0 ≤ r.slk) ∧ bv = true ∧ r.st < 0) ∨ ((1 ≤ r.frm ∧ 1 ≤ r.to) ∧ (r.frm ≠ r.to ∧ 0 ≤ r.slk) ∧ bv = true ∧ 0 ≤ r.st ∧ 4 < r.st) ∨ ((1 ≤ r.frm ∧ 1 ≤ r.to) ∧ (r.frm ≠ r.to ∧ 0 ≤ r.slk) ∧ bv = true ∧ 0 ≤ r.st ∧ r.st ≤ 4) from by cases bv <;> simp <;> omega) with g | ⟨g1, g⟩ | ⟨⟨g1, g2⟩, g⟩ | ⟨⟨g1, g2⟩, g3, g⟩ | ⟨⟨g1, g2⟩, ⟨g3, g4⟩, rfl⟩ | ⟨⟨g1, g2⟩, ⟨g3, g4⟩, rfl, g⟩ | ⟨⟨g1, g2⟩, ⟨g3, g4⟩, rfl, g5, g⟩ | ⟨⟨g1, g2⟩, ⟨g3, g4⟩, rfl, g5, g⟩
  · have hx : validR r = false := by simp [validR, headB, show ¬ 1 ≤ r.frm by omega]
    simp -dsimp -implicitDefEqProofs (disch := first | assumption | omega | (simp [maxLen, avs_len] <;> omega) | decide) only [sT_move, sT_pick, sT_load, sT_fa, sT_bin, sT_nil, sT_g, oK_some, gK_f, q_o, loadF, fieldAddrF, binF_v, v_lss, ↓reduceIte, q_b, ifp, guardA_some, guardV_f, q_f, q_l, q_n, Nat.reduceEqDiff, dec_t, nb_f, fo_29_0, sz_3, ag_3]
    refine hK3 _ _ ?_
    refine awp_cond rfl (fun ht => ?_) (fun ht => ?_)
    · refine awp_seq_s KT_ok hc rfl fun K4 hK4 => ?_
      simp -dsimp -implicitDefEqProofs (disch := first | assumption | omega | (simp [maxLen, avs_len] <;> omega) | decide) only [sT_assign, sT_nil, q_f]
      refine hK4 _ _ ?_
      refine awp_ret ?_
      show closeA _ _ = _
      simp (disch := first | assumption | omega | (simp [maxLen, avs_len] <;> omega) | decide) only [closeA, retV, deep_d, Nat.zero_add, D.fix, frL_get, ↓reduceIte, Option.map_some, List.length_cons, List.length_nil, hx]
    · cases ht
  · have hx : validR r = false := by simp [validR, headB, show ¬ 1 ≤ r.to by omega]
    simp -dsimp -implicitDefEqProofs (disch := first | assumption | omega | (simp [maxLen, avs_len] <;> omega) | decide) only [sT_move, sT_pick, sT_load, sT_fa, sT_bin, sT_nil, sT_g, oK_some, gK_t, gK_f, q_o, loadF, fieldAddrF, binF_v, v_lss, ↓reduceIte, q_b, ifp, guardA_some, guardV_f, q_f, q_l, q_n, Nat.reduceEqDiff, dec_t, dec_f, nb_t, nb_f, fo_29_0, sz_3, ag_3, fo_29_1]
    refine hK3 _ _ ?_
    refine awp_cond rfl (fun ht => ?_) (fun ht => ?_)
    · refine awp_seq_s KT_ok hc rfl fun K5 hK5 => ?_
      simp -dsimp -implicitDefEqProofs (disch := first | assumption | omega | (simp [maxLen, avs_len] <;> omega) | decide) only [sT_assign, sT_nil, q_f]
      refine hK5 _ _ ?_
      refine awp_ret ?_
      show closeA _ _ = _
      simp (disch := first | assumption | omega | (simp [maxLen, avs_len] <;> omega) | decide) only [closeA, retV, deep_d, Nat.zero_add, D.fix, frL_get, ↓reduceIte, Option.map_some, List.length_cons, List.length_nil, hx]
    · cases ht
  · have hx : validR r = false := by simp [validR, headB, g]
    simp -dsimp -implicitDefEqProofs (disch := first | assumption | omega | (simp [maxLen, avs_len] <;> omega) | decide) only [sT_move, sT_pick, sT_load, sT_fa, sT_bin, sT_nil, sT_g, oK_some, gK_t, gK_f, q_o, loadF, fieldAddrF, binF_v, v_eql, v_lss, ↓reduceIte, q_b, ifp, guardA_some, guardV_f, q_f, q_l, q_n, Nat.reduceEqDiff, dec_f, beq_t, nb_t, nb_f, fo_29_0, sz_3, ag_3, fo_29_1]
    refine hK3 _ _ ?_
    refine awp_cond rfl (fun ht => ?_) (fun ht => ?_)
    · refine awp_seq_s KT_ok hc rfl fun K6 hK6 => ?_
      simp -dsimp -implicitDefEqProofs (disch := first | assumption | omega | (simp [maxLen, avs_len] <;> omega) | decide) only [sT_assign, sT_nil, q_f]
      refine hK6 _ _ ?_
      refine awp_ret ?_
      show closeA _ _ = _
      simp (disch := first | assumption | omega | (simp [maxLen, avs_len] <;> omega) | decide) only [closeA, retV, deep_d, Nat.zero_add, D.fix, frL_get, ↓reduceIte, Option.map_some, List.length_cons, List.length_nil, hx]
    · cases ht
  · have hx : validR r = false := by simp [validR, headB, show ¬ 0 ≤ r.slk by omega]
    simp -dsimp -implicitDefEqProofs (disch := first | assumption | omega | (simp [maxLen, avs_len] <;> omega) | decide) only [sT_move, sT_pick, sT_load, sT_fa, sT_bin, sT_nil, sT_g, oK_some, gK_t, gK_f, q_o, loadF, fieldAddrF, binF_v, v_eql, v_lss, ↓reduceIte, q_b, ifp, guardA_some, guardV_f, q_f, q_l, q_n, Nat.reduceEqDiff, dec_t, dec_f, beq_f, nb_t, nb_f, fo_29_0, sz_3, ag_3, fo_29_1, fo_29_3]
    refine hK3 _ _ ?_
    refine awp_cond rfl (fun ht => ?_) (fun ht => ?_)
    · refine awp_seq_s KT_ok hc rfl fun K7 hK7 => ?_
      simp -dsimp -implicitDefEqProofs (disch := first | assumption | omega | (simp [maxLen, avs_len] <;> omega) | decide) only [sT_assign, sT_nil, q_f]
      refine hK7 _ _ ?_
      refine awp_ret ?_
      show closeA _ _ = _
      simp (disch := first | assumption | omega | (simp [maxLen, avs_len] <;> omega) | decide) only [closeA, retV, deep_d, Nat.zero_add, D.fix, frL_get, ↓reduceIte, Option.map_some, List.length_cons, List.length_nil, hx]
    · cases ht
  · have hx : validR r = false := by simp [validR, headB, gv]
    simp -dsimp -implicitDefEqProofs (disch := first | assumption | omega | (simp [maxLen, avs_len] <;> omega) | decide) only [sT_move, sT_pick, sT_load, sT_fa, sT_bin, sT_call0, sT_g, oK_some, gK_t, q_o, loadF, fieldAddrF, binF_v, v_eql, v_lss, ↓reduceIte, q_b, ifp, guardA_some, guardV_f, q_f, q_s, q_l, q_n, Nat.reduceEqDiff, dec_f, beq_f, nb_t, fo_29_0, sz_3, ag_3, fo_29_1, fo_29_3, fo_29_2, sz_26, ag_26]
    refine kc_by (wavesp_c r.wv hw1 (by omega)) rfl ?_
    simp -dsimp -implicitDefEqProofs (disch := first | assumption | omega | (simp [maxLen, avs_len] <;> omega) | decide) only [sT_move, sT_pick, sT_un, sT_nil, sT_g, oK_some, gK_t, gK_f, q_o, u_not, ↓reduceIte, q_b, guardA_some, guardV_f, q_f, q_l, Nat.reduceEqDiff, nb_t, nb_f, gv]
    refine hK3 _ _ ?_
    refine awp_cond rfl (fun ht => ?_) (fun ht => ?_)
    · refine awp_seq_s KT_ok hc rfl fun K8 hK8 => ?_
      simp -dsimp -implicitDefEqProofs (disch := first | assumption | omega | (simp [maxLen, avs_len] <;> omega) | decide) only [sT_assign, sT_nil, q_f]
      refine hK8 _ _ ?_
      refine awp_ret ?_
      show closeA _ _ = _
      simp (disch := first | assumption | omega | (simp [maxLen, avs_len] <;> omega) | decide) only [closeA, retV, deep_d, Nat.zero_add, D.fix, frL_get, ↓reduceIte, Option.map_some, List.length_cons, List.length_nil, hx]
    · cases ht
  · have hx : validR r = false := by simp [validR, stateB, show r.st ≠ 3 by omega, show r.st ≠ 0 by omega, show r.st ≠ 1 by omega, show r.st ≠ 2 by omega, show r.st ≠ 4 by omega]
    simp -dsimp -implicitDefEqProofs (disch := first | assumption | omega | (simp [maxLen, avs_len] <;> omega) | decide) only [sT_move, sT_pick, sT_load, sT_fa, sT_bin, sT_call0, sT_g, oK_some, gK_t, q_o, loadF, fieldAddrF, binF_v, v_eql, v_lss, ↓reduceIte, q_b, ifp, guardA_some, guardV_f, q_f, q_s, q_l, q_n, Nat.reduceEqDiff, dec_f, beq_f, nb_t, fo_29_0, sz_3, ag_3, fo_29_1, fo_29_3, fo_29_2, sz_26, ag_26]
    refine kc_by (wavesp_c r.wv hw1 (by omega)) rfl ?_
    simp -dsimp -implicitDefEqProofs (disch := first | assumption | omega | (simp [maxLen, avs_len] <;> omega) | decide) only [sT_move, sT_pick, sT_load, sT_fa, sT_bin, sT_un, sT_nil, sT_g, oK_some, gK_t, gK_f, q_o, loadF, fieldAddrF, binF_v, u_not, v_lss, ↓reduceIte, q_b, ifp, guardA_some, guardV_f, q_f, q_l, q_n, Nat.reduceEqDiff, dec_t, nb_t, nb_f, gv, sz_3, ag_3, fo_29_6]
    refine hK3 _ _ ?_
    refine awp_cond rfl (fun ht => ?_) (fun ht => ?_)
    · refine awp_seq_s KT_ok hc rfl fun K9 hK9 => ?_
      simp -dsimp -implicitDefEqProofs (disch := first | assumption | omega | (simp [maxLen, avs_len] <;> omega) | decide) only [sT_assign, sT_nil, q_f]
      refine hK9 _ _ ?_
      refine awp_ret ?_
      show closeA _ _ = _
      simp (disch := first | assumption | omega | (simp [maxLen, avs_len] <;> omega) | decide) only [closeA, retV, deep_d, Nat.zero_add, D.fix, frL_get, ↓reduceIte, Option.map_some, List.length_cons, List.length_nil, hx]
    · cases ht
  · have hx : validR r = false := by simp [validR, stateB, show r.st ≠ 3 by omega, show r.st ≠ 0 by omega, show r.st ≠ 1 by omega, show r.st ≠ 2 by omega, show r.st ≠ 4 by omega]
    simp -dsimp -implicitDefEqProofs (disch := first | assumption | omega | (simp [maxLen, avs_len] <;> omega) | decide) only [sT_move, sT_pick, sT_load, sT_fa, sT_bin, sT_call0, sT_g, oK_some, gK_t, q_o, loadF, fieldAddrF, binF_v, v_eql, v_lss, ↓reduceIte, q_b, ifp, guardA_some, guardV_f, q_f, q_s, q_l, q_n, Nat.reduceEqDiff, dec_f, beq_f, nb_t, fo_29_0, sz_3, ag_3, fo_29_1, fo_29_3, fo_29_2, sz_26, ag_26]
    refine kc_by (wavesp_c r.wv hw1 (by omega)) rfl ?_
    simp -dsimp -implicitDefEqProofs (disch := first | assumption | omega | (simp [maxLen, avs_len] <;> omega) | decide) only [sT_move, sT_pick, sT_load, sT_fa, sT_bin, sT_un, sT_nil, sT_g, oK_some, gK_t, q_o, loadF, fieldAddrF, binF_v, u_not, v_lss, v_gtr, ↓reduceIte, q_b, ifp, guardA_some, guardV_f, q_f, q_l, q_n, Nat.reduceEqDiff, dec_t, dec_f, nb_t, nb_f, gv, sz_3, ag_3, fo_29_6]
    refine hK3 _ _ ?_
    refine awp_cond rfl (fun ht => ?_) (fun ht => ?_)
    · refine awp_seq_s KT_ok hc rfl fun K10 hK10 => ?_
      simp -dsimp -implicitDefEqProofs (disch := first | assumption | omega | (simp [maxLen, avs_len] <;> omega) | decide) only [sT_assign, sT_nil, q_f]
      refine hK10 _ _ ?_
      refine awp_ret ?_
      show closeA _ _ = _
      simp (disch := first | assumption | omega | (simp [maxLen, avs_len] <;> omega) | decide) only [closeA, retV, deep_d, Nat.zero_add, D.fix, frL_get, ↓reduceIte, Option.map_some, List.length_cons, List.length_nil, hx]
    · cases ht
  · have hh : headB r = (decide (0 ≤ r.pos) && decide (r.pos ≤ r.wv.length)) := by simp [headB, g1, g2, bne_t g3, g4, gv]
    simp -dsimp -implicitDefEqProofs (disch := first | assumption | omega | (simp [maxLen, avs_len] <;> omega) | decide) only [sT_move, sT_pick, sT_load, sT_fa, sT_bin, sT_call0, sT_g, oK_some, gK_t, q_o, loadF, fieldAddrF, binF_v, v_eql, v_lss, ↓reduceIte, q_b, ifp, guardA_some, guardV_f, q_f, q_s, q_l, q_n, Nat.reduceEqDiff, dec_f, beq_f, nb_t, fo_29_0, sz_3, ag_3, fo_29_1, fo_29_3, fo_29_2, sz_26, ag_26]
    refine kc_by (wavesp_c r.wv hw1 (by omega)) rfl ?_
    simp -dsimp -implicitDefEqProofs (disch := first | assumption | omega | (simp [maxLen, avs_len] <;> omega) | decide) only [sT_move, sT_pick, sT_load, sT_fa, sT_bin, sT_un, sT_nil, sT_g, oK_some, gK_t, q_o, loadF, fieldAddrF, binF_v, u_not, v_lss, v_gtr, ↓reduceIte, q_b, ifp, guardA_some, guardV_f, q_f, q_l, q_n, Nat.reduceEqDiff, dec_f, nb_t, nb_f, gv, sz_3, ag_3, fo_29_6]
    refine hK3 _ _ ?_
    refine awp_cond rfl (fun ht => ?_) (fun ht => ?_)
    · cases ht
    · refine awp_skip (hK2 _ _ ?_)
      refine awp_seq_k fun K11 hK11 => ?_
      refine awp_seq_s KT_ok hc rfl fun K12 hK12 => ?_
      simp -dsimp -implicitDefEqProofs (disch := first | assumption | omega | (simp [maxLen, avs_len] <;> omega) | decide) only [sT_assign, sT_nil, q_f]
      refine hK12 _ _ ?_
      refine awp_block ?_
      refine awp_loop_rt hp (fun τ' H' mm => ∃ i, (1 ≤ i ∧ i ≤ r.dn.length + 1 ∧ ∀ j, j + 1 < i → j + 1 < r.dn.length → nth r.dn j < nth r.dn (j + 1)) ∧ mm = r.dn.length + 1 - i ∧ H' = [.cells (avs (rolC r))] ∧ τ' = frL [(1, .op 0 0), (3, .d (iD i))]) (r.dn.length) ?_ ⟨1, ⟨Nat.le_refl _, by omega, fun j hj => absurd hj (by omega)⟩, rfl, rfl, rfl⟩ ?_
      · refine Rt.end (less_cons (less_cons (less_nil _) rfl) rfl) ?_
        first | rfl | (simp only [intsD, boolsD, bytesD, intssD, bytessD, gcH, gcO, gcVs_avs, gcVs, gcV, gcV_d, fzH, fzO, fzVs_avs, fzVs, fzV, posN, avs_nil, avs_cons, List.map_cons, List.map_nil, List.getD_cons_zero, List.getD_cons_succ, ↓reduceIte, Nat.reduceEqDiff, Option.map_some, List.set_cons_zero, List.set_cons_succ, takeD_avs, takeD_all, Nat.mul_one, List.length_map, List.cons_append, List.nil_append, rolD, rolC, sub_srt1, sub_srt2]; first | done | rfl)
      rintro τ' H' mm ⟨i, ⟨hi1, hi2, hf⟩, rfl, rfl, rfl⟩
      refine awp_seq_k fun K13 hK13 => ?_
      refine awp_seq_s KT_ok hc rfl fun K14 hK14 => ?_
      simp -dsimp -implicitDefEqProofs (disch := first | assumption | omega | (simp [maxLen, avs_len] <;> omega) | decide) only [sT_move, sT_load, sT_fa, sT_bin, sT_len, sT_nil, oK_some, q_o, loadF, fieldAddrF, binF_v, lenF, builtinF, v_lss, ↓reduceIte, q_b, ifp, q_f, q_s, q_l, q_n, Nat.reduceEqDiff, avs_nil, avs_cons, iD, intsD, intssD, rolC, fo_29_5, sz_27, ag_27, eo_27]
      refine hK14 _ _ ?_
      refine awp_cond rfl (fun ht => ?_) (fun ht => ?_)
      · have hlt : i < r.dn.length := by simp at ht; omega
        have e1 : ((i : Int) - 1).toNat = i - 1 := by omega
        refine awp_skip (hK13 _ _ ?_)
        refine awp_seq_k fun K15 hK15 => ?_
        refine awp_block ?_
        refine awp_seq_se KT_ok hc mixed rfl (q := 0) (by kernel_rfl) (by kernel_rfl) fun K16 hK16 => ?_
        simp -dsimp -implicitDefEqProofs (disch := first | assumption | omega | (simp [maxLen, avs_len] <;> omega) | decide) only [sE_move, sE_load, sE_fa, sE_ia, sE_bin, sE_nil, oK_some, q_o, loadF, fieldAddrF, ixO, indexAddrF, binF_v, v_sub, v_geq, ↓reduceIte, q_b, ifp, q_f, q_l, List.append_nil, List.replicate_zero, Int.toNat_natCast, q_n, Nat.reduceEqDiff, killAll, get_map, iD, Nat.reduceAdd, e1, fo_29_5, sz_27, ag_27, eo_27, sz_3, ag_3]
        refine hK16 _ _ ?_
        refine awp_cond rfl (fun ht => ?_) (fun ht => ?_)
        · have hb : incB r.dn = false := by
            cases h : incB r.dn with
            | false => rfl
            | true =>
              have := incB_iff.1 h (i - 1) (by omega)
              rw [show i - 1 + 1 = i by omega] at this
              simp at ht
              omega
          have hx : validR r = false := by simp [validR, hb]
          refine awp_seq_s KT_ok hc rfl fun K17 hK17 => ?_
          simp -dsimp -implicitDefEqProofs (disch := first | assumption | omega | (simp [maxLen, avs_len] <;> omega) | decide) only [sT_assign, sT_nil, q_f]
          refine hK17 _ _ ?_
          refine awp_ret ?_
          show closeA _ _ = _
          simp (disch := first | assumption | omega | (simp [maxLen, avs_len] <;> omega) | decide) only [closeA, retV, deep_d, Nat.zero_add, D.fix, frL_get, ↓reduceIte, Option.map_some, List.length_cons, List.length_nil, hx]
        · have hf' : ∀ j, j + 1 < i + 1 → j + 1 < r.dn.length → nth r.dn j < nth r.dn (j + 1) := fun j h1 h2 => by
            rcases Nat.lt_or_ge (j + 1) i with h | h
            · exact hf j h h2
            · obtain rfl : i = j + 1 := by omega
              rw [Nat.add_sub_cancel] at ht
              simp at ht
              exact ht
          refine awp_skip (hK15 _ _ ?_)
          refine awp_s KT_ok hc rfl fun K18 hK18 => ?_
          simp -dsimp -implicitDefEqProofs (disch := first | assumption | omega | (simp [maxLen, avs_len] <;> omega) | decide) only [sT_move, sT_assign, sT_bin, sT_nil, oK_some, q_o, binF_v, v_add, ↓reduceIte, q_b, q_f, Nat.reduceEqDiff]
          refine hK18 _ _ ⟨_, _, _, ?_, ⟨i + 1, ⟨by omega, by omega, hf'⟩, rfl, rfl, rfl⟩, ?_⟩
          · first | omega | (simp only [List.length_cons]; omega) | (dsimp only; omega)
          · refine Rt.end (less_cons (less_cons (less_nil _) rfl) rfl) ?_
            first | rfl | (simp only [intsD, boolsD, bytesD, intssD, bytessD, gcH, gcO, gcVs_avs, gcVs, gcV, gcV_d, fzH, fzO, fzVs_avs, fzVs, fzV, posN, avs_nil, avs_cons, List.map_cons, List.map_nil, List.getD_cons_zero, List.getD_cons_succ, ↓reduceIte, Nat.reduceEqDiff, Option.map_some, List.set_cons_zero, List.set_cons_succ, takeD_avs, takeD_all, Nat.mul_one, List.length_map, List.cons_append, List.nil_append, rolD, rolC, sub_srt1, sub_srt2]; first | done | rfl)
      · have hb : incB r.dn = true := incB_iff.2 fun j hj => hf j (by simp at ht; omega) hj
        have hinc : Inc r.dn := incB_inc.1 hb
        have hs : validR r = ((decide (0 ≤ r.pos) && decide (r.pos ≤ r.wv.length)) && stateB r) := by simp [validR, hh, hb]
        refine awp_exit (hK11 _ _ ?_)
        refine awp_seq_s KT_ok hc rfl fun K19 hK19 => ?_
        simp -dsimp -implicitDefEqProofs (disch := first | assumption | omega | (simp [maxLen, avs_len] <;> omega) | decide) only [sT_assign, sT_load, sT_fa, sT_len, sT_nil, oK_some, q_o, loadF, fieldAddrF, lenF, builtinF, ↓reduceIte, q_b, ifp, q_f, q_s, q_l, q_n, Nat.reduceEqDiff, fo_29_2, sz_26, ag_26, eo_26]
        refine hK19 _ _ ?_
        refine awp_seq_k fun K20 hK20 => ?_
        refine awp_seq_s KT_ok hc rfl fun K21 hK21 => ?_
        by_cases hg : r.st = 3
        · simp -dsimp -implicitDefEqProofs (disch := first | assumption | omega | (simp [maxLen, avs_len] <;> omega) | decide) only [sT_load, sT_fa, sT_bin, sT_nil, oK_some, q_o, loadF, fieldAddrF, binF_v, v_eql, ↓reduceIte, q_b, ifp, q_f, q_l, q_n, Nat.reduceEqDiff, beq_t, fo_29_6, sz_3, ag_3]
          refine hK21 _ _ ?_
          refine awp_cond rfl (fun ht => ?_) (fun ht => ?_)
          · have hst := hg
            refine awp_seq_se KT_ok hc mixed rfl (q := 0) (by kernel_rfl) (by kernel_rfl) fun K22 hK22 => ?_
            by_cases hg : r.pos = r.wv.length
            · have hpp := hg
              have hx : validR r = decide (r.dn = srtL (uptoL r r.wv.length)) := by rw [hs, eq_srt hinc]; simp [stateB, hst, hpp]
              simp -dsimp -implicitDefEqProofs (disch := first | assumption | omega | (simp [maxLen, avs_len] <;> omega) | decide) only [sE_move, sE_load, sE_fa, sE_bin, sE_call0, oK_some, gK_t, q_o, loadF, fieldAddrF, binF_v, v_eql, ↓reduceIte, q_b, ifp, guardA_some, guardV_t, q_f, q_s, q_l, List.append_nil, List.replicate_zero, q_n, Nat.reduceEqDiff, takeD_all, Nat.reduceAdd, sE_gg, beq_t, fo_29_4, sz_29, ag_29, sz_3, ag_3, fo_29_5, sz_27, ag_27]
              refine kc_by (uptop_c r r.wv.length hr) rfl ?_
              simp -dsimp -implicitDefEqProofs (disch := first | assumption | omega | (simp [maxLen, avs_len] <;> omega) | decide) only [sE_call0, gK_t, q_o, ↓reduceIte, q_b, guardA_some, guardV_t, q_f, q_s, q_l, Nat.reduceEqDiff, intsD, Nat.reduceAdd, sE_gg]
              refine kc_by (ints_c r.dn (srtL (uptoL r r.wv.length)) (by omega)) rfl ?_
              simp -dsimp -implicitDefEqProofs (disch := first | assumption | omega | (simp [maxLen, avs_len] <;> omega) | decide) only [sE_assign, sE_pick, sE_nil, oK_some, ↓reduceIte, q_b, q_f, Nat.reduceEqDiff, killAll, oD, Nat.reduceAdd]
              refine hK22 _ _ ?_
              refine awp_ret ?_
              show closeA _ _ = _
              simp (disch := first | assumption | omega | (simp [maxLen, avs_len] <;> omega) | decide) only [closeA, retV, deep_d, Nat.zero_add, D.fix, frL_get, ↓reduceIte, Option.map_some, List.length_cons, List.length_nil, hx]
            · have hpp := hg
              have hx : validR r = false := by rw [hs]; simp [stateB, hst, hpp]
              simp -dsimp -implicitDefEqProofs (disch := first | assumption | omega | (simp [maxLen, avs_len] <;> omega) | decide) only [sE_move, sE_assign, sE_pick, sE_load, sE_fa, sE_bin, sE_nil, oK_some, gK_f, q_o, loadF, fieldAddrF, binF_v, v_eql, ↓reduceIte, q_b, ifp, guardA_some, guardV_t, q_f, q_l, List.append_nil, List.replicate_zero, q_n, Nat.reduceEqDiff, killAll, Nat.reduceAdd, sE_gg, ly_move, ly_load, ly_fa, ly_call0, beq_f, fo_29_4, sz_3, ag_3]
              refine hK22 _ _ ?_
              refine awp_ret ?_
              show closeA _ _ = _
              simp (disch := first | assumption | omega | (simp [maxLen, avs_len] <;> omega) | decide) only [closeA, retV, deep_d, Nat.zero_add, D.fix, frL_get, ↓reduceIte, Option.map_some, List.length_cons, List.length_nil, hx]
          · cases ht
        · simp -dsimp -implicitDefEqProofs (disch := first | assumption | omega | (simp [maxLen, avs_len] <;> omega) | decide) only [sT_load, sT_fa, sT_bin, sT_nil, oK_some, q_o, loadF, fieldAddrF, binF_v, v_eql, ↓reduceIte, q_b, ifp, q_f, q_l, q_n, Nat.reduceEqDiff, beq_f, fo_29_6, sz_3, ag_3]
          refine hK21 _ _ ?_
          refine awp_cond rfl (fun ht => ?_) (fun ht => ?_)
          · cases ht
          · refine awp_skip (hK20 _ _ ?_)
            refine awp_seq_k fun K23 hK23 => ?_
            refine awp_seq_s KT_ok hc rfl fun K24 hK24 => ?_
            rcases (show r.pos < 0 ∨ (0 ≤ r.pos ∧ r.wv.length ≤ r.pos) ∨ (0 ≤ r.pos ∧ r.pos < r.wv.length) from by omega) with hpp | hpp | hpp
            · have hx : validR r = false := by rw [hs]; simp [show ¬ 0 ≤ r.pos by omega]
              simp -dsimp -implicitDefEqProofs (disch := first | assumption | omega | (simp [maxLen, avs_len] <;> omega) | decide) only [sT_move, sT_pick, sT_load, sT_fa, sT_bin, sT_nil, sT_g, oK_some, gK_f, q_o, loadF, fieldAddrF, binF_v, v_lss, ↓reduceIte, q_b, ifp, guardA_some, guardV_f, q_f, q_l, q_n, Nat.reduceEqDiff, dec_t, nb_f, fo_29_4, sz_3, ag_3]
              refine hK24 _ _ ?_
              refine awp_cond rfl (fun ht => ?_) (fun ht => ?_)
              · refine awp_seq_s KT_ok hc rfl fun K25 hK25 => ?_
                simp -dsimp -implicitDefEqProofs (disch := first | assumption | omega | (simp [maxLen, avs_len] <;> omega) | decide) only [sT_assign, sT_nil, q_f]
                refine hK25 _ _ ?_
                refine awp_ret ?_
                show closeA _ _ = _
                simp (disch := first | assumption | omega | (simp [maxLen, avs_len] <;> omega) | decide) only [closeA, retV, deep_d, Nat.zero_add, D.fix, frL_get, ↓reduceIte, Option.map_some, List.length_cons, List.length_nil, hx]
              · cases ht
            · have hx : validR r = false := by
                rw [hs]
                rcases (show r.pos = r.wv.length ∨ ¬ r.pos ≤ r.wv.length from by omega) with h | h
                · simp [stateB, hg, h]
                · simp [h]
              simp -dsimp -implicitDefEqProofs (disch := first | assumption | omega | (simp [maxLen, avs_len] <;> omega) | decide) only [sT_move, sT_pick, sT_load, sT_fa, sT_bin, sT_nil, sT_g, oK_some, gK_t, q_o, loadF, fieldAddrF, binF_v, v_lss, v_geq, ↓reduceIte, q_b, ifp, guardA_some, guardV_f, q_f, q_l, q_n, Nat.reduceEqDiff, dec_t, dec_f, nb_t, fo_29_4, sz_3, ag_3]
              refine hK24 _ _ ?_
              refine awp_cond rfl (fun ht => ?_) (fun ht => ?_)
              · refine awp_seq_s KT_ok hc rfl fun K26 hK26 => ?_
                simp -dsimp -implicitDefEqProofs (disch := first | assumption | omega | (simp [maxLen, avs_len] <;> omega) | decide) only [sT_assign, sT_nil, q_f]
                refine hK26 _ _ ?_
                refine awp_ret ?_
                show closeA _ _ = _
                simp (disch := first | assumption | omega | (simp [maxLen, avs_len] <;> omega) | decide) only [closeA, retV, deep_d, Nat.zero_add, D.fix, frL_get, ↓reduceIte, Option.map_some, List.length_cons, List.length_nil, hx]
              · cases ht
            · have hs2 : validR r = stateB r := by rw [hs]; simp [hpp.1, show r.pos ≤ r.wv.length by omega]
              simp -dsimp -implicitDefEqProofs (disch := first | assumption | omega | (simp [maxLen, avs_len] <;> omega) | decide) only [sT_move, sT_pick, sT_load, sT_fa, sT_bin, sT_nil, sT_g, oK_some, gK_t, q_o, loadF, fieldAddrF, binF_v, v_lss, v_geq, ↓reduceIte, q_b, ifp, guardA_some, guardV_f, q_f, q_l, q_n, Nat.reduceEqDiff, dec_f, nb_t, fo_29_4, sz_3, ag_3]
              refine hK24 _ _ ?_
              refine awp_cond rfl (fun ht => ?_) (fun ht => ?_)
              · cases ht
              · refine awp_skip (hK23 _ _ ?_)
                refine awp_seq_s KT_ok hc rfl fun K27 hK27 => ?_
                simp -dsimp -implicitDefEqProofs (disch := first | assumption | omega | (simp [maxLen, avs_len] <;> omega) | decide) only [sT_load, sT_fa, sT_bin, sT_call0, oK_some, q_o, loadF, fieldAddrF, binF_v, v_add, ↓reduceIte, q_b, ifp, q_f, q_s, q_l, q_n, Nat.reduceEqDiff, takeD_all, sz_29, ag_29, fo_29_4, sz_3, ag_3]
                refine kc_by (uptop_c r (r.pos + 1) hr) rfl ?_
                simp -dsimp -implicitDefEqProofs (disch := first | assumption | omega | (simp [maxLen, avs_len] <;> omega) | decide) only [sT_assign, sT_nil, ↓reduceIte, q_b, q_f, intsD]
                refine hK27 _ _ ?_
                refine awp_seq_k fun K28 hK28 => ?_
                refine awp_seq_s KT_ok hc rfl fun K29 hK29 => ?_
                simp -dsimp -implicitDefEqProofs (disch := first | assumption | omega | (simp [maxLen, avs_len] <;> omega) | decide) only [sT_load, sT_fa, sT_nil, oK_some, loadF, fieldAddrF, ↓reduceIte, q_b, ifp, q_f, q_l, q_n, Nat.reduceEqDiff, fo_29_6, sz_3, ag_3]
                refine hK29 _ _ ?_
                refine awp_block ?_
                refine awp_seq_s KT_ok hc rfl fun K30 hK30 => ?_
                rcases (show r.st = 4 ∨ r.st = 2 ∨ ((r.st = 0 ∨ r.st = 1) ∧ r.st ≠ 4 ∧ r.st ≠ 2) from by omega) with h | h | ⟨h, h4, h2⟩
                · simp -dsimp -implicitDefEqProofs (disch := first | assumption | omega | (simp [maxLen, avs_len] <;> omega) | decide) only [sT_assign, sT_bin, sT_nil, oK_some, q_o, binF_v, v_eql, ↓reduceIte, q_b, q_f, beq_t]
                  refine hK30 _ _ ?_
                  refine awp_cond rfl (fun ht => ?_) (fun ht => ?_)
                  · have hx : validR r = decide (r.dn = srtL (uptoL r (r.pos + 1))) := by rw [hs2, eq_srt hinc]; simp [stateB, h, show (r.pos != (r.wv.length : Int)) = true from bne_t (by omega), Bool.and_comm]
                    refine awp_seq_s KT_ok hc rfl fun K31 hK31 => ?_
                    simp -dsimp -implicitDefEqProofs (disch := first | assumption | omega | (simp [maxLen, avs_len] <;> omega) | decide) only [sT_move, sT_load, sT_fa, sT_call0, oK_some, loadF, fieldAddrF, ↓reduceIte, q_b, ifp, q_f, q_s, q_l, q_n, Nat.reduceEqDiff, fo_29_5, sz_27, ag_27]
                    refine kc_by (ints_c r.dn (srtL (uptoL r (r.pos + 1))) (by omega)) rfl ?_
                    simp -dsimp -implicitDefEqProofs (disch := first | assumption | omega | (simp [maxLen, avs_len] <;> omega) | decide) only [sT_assign, sT_nil, ↓reduceIte, q_b, q_f, oD]
                    refine hK31 _ _ ?_
                    refine awp_ret ?_
                    show closeA _ _ = _
                    simp (disch := first | assumption | omega | (simp [maxLen, avs_len] <;> omega) | decide) only [closeA, retV, deep_d, Nat.zero_add, D.fix, frL_get, ↓reduceIte, Option.map_some, List.length_cons, List.length_nil, hx]
                  · cases ht
                · simp -dsimp -implicitDefEqProofs (disch := first | assumption | omega | (simp [maxLen, avs_len] <;> omega) | decide) only [sT_assign, sT_bin, sT_nil, oK_some, q_o, binF_v, v_eql, ↓reduceIte, q_b, q_f, beq_f]
                  refine hK30 _ _ ?_
                  refine awp_cond rfl (fun ht => ?_) (fun ht => ?_)
                  · cases ht
                  · refine awp_seq_s KT_ok hc rfl fun K32 hK32 => ?_
                    simp -dsimp -implicitDefEqProofs (disch := first | assumption | omega | (simp [maxLen, avs_len] <;> omega) | decide) only [sT_assign, sT_bin, sT_nil, oK_some, q_o, binF_v, v_eql, ↓reduceIte, q_b, q_f, Nat.reduceEqDiff, beq_t]
                    refine hK32 _ _ ?_
                    refine awp_cond rfl (fun ht => ?_) (fun ht => ?_)
                    · refine awp_seq_s KT_ok hc rfl fun K33 hK33 => ?_
                      rcases hq : subB r.dn (uptoL r (r.pos + 1)) with _ | _
                      · have hx : validR r = false := by rw [hs2]; simp [stateB, h, hq]
                        simp -dsimp -implicitDefEqProofs (disch := first | assumption | omega | (simp [maxLen, avs_len] <;> omega) | decide) only [sT_move, sT_load, sT_fa, sT_call0, oK_some, loadF, fieldAddrF, ↓reduceIte, q_b, ifp, q_f, q_s, q_l, q_n, Nat.reduceEqDiff, fo_29_5, sz_27, ag_27]
                        refine kc_by (subset_c r.dn (srtL (uptoL r (r.pos + 1))) hd1 (upto_srt_len hr _)) rfl ?_
                        simp -dsimp -implicitDefEqProofs (disch := first | assumption | omega | (simp [maxLen, avs_len] <;> omega) | decide) only [sT_move, sT_assign, sT_pick, sT_nil, sT_g, oK_some, gK_f, q_o, ↓reduceIte, q_b, guardA_some, guardV_t, q_f, q_l, Nat.reduceEqDiff, sub_srt2, hq]
                        refine hK33 _ _ ?_
                        refine awp_ret ?_
                        show closeA _ _ = _
                        simp (disch := first | assumption | omega | (simp [maxLen, avs_len] <;> omega) | decide) only [closeA, retV, deep_d, Nat.zero_add, D.fix, frL_get, ↓reduceIte, Option.map_some, List.length_cons, List.length_nil, hx]
                      · have hx : validR r = !subB (uptoL r (r.pos + 1)) r.dn := by rw [hs2]; simp [stateB, h, hq, show (r.pos != (r.wv.length : Int)) = true from bne_t (by omega)]
                        simp -dsimp -implicitDefEqProofs (disch := first | assumption | omega | (simp [maxLen, avs_len] <;> omega) | decide) only [sT_move, sT_load, sT_fa, sT_call0, oK_some, loadF, fieldAddrF, ↓reduceIte, q_b, ifp, q_f, q_s, q_l, q_n, Nat.reduceEqDiff, fo_29_5, sz_27, ag_27]
                        refine kc_by (subset_c r.dn (srtL (uptoL r (r.pos + 1))) hd1 (upto_srt_len hr _)) rfl ?_
                        simp -dsimp -implicitDefEqProofs (disch := first | assumption | omega | (simp [maxLen, avs_len] <;> omega) | decide) only [sT_move, sT_load, sT_fa, sT_call0, sT_g, oK_some, gK_t, q_o, loadF, fieldAddrF, ↓reduceIte, q_b, ifp, guardA_some, guardV_t, q_f, q_s, q_l, q_n, Nat.reduceEqDiff, sub_srt2, hq, fo_29_5, sz_27, ag_27]
                        refine kc_by (subset_c (srtL (uptoL r (r.pos + 1))) r.dn (upto_srt_len hr _) hd1) rfl ?_
                        simp -dsimp -implicitDefEqProofs (disch := first | assumption | omega | (simp [maxLen, avs_len] <;> omega) | decide) only [sT_assign, sT_pick, sT_un, sT_nil, sT_g, oK_some, gK_t, q_o, u_not, ↓reduceIte, q_b, guardA_some, guardV_t, q_f, q_l, Nat.reduceEqDiff, sub_srt1]
                        refine hK33 _ _ ?_
                        refine awp_ret ?_
                        show closeA _ _ = _
                        simp (disch := first | assumption | omega | (simp [maxLen, avs_len] <;> omega) | decide) only [closeA, retV, deep_d, Nat.zero_add, D.fix, frL_get, ↓reduceIte, Option.map_some, List.length_cons, List.length_nil, hx]
                    · cases ht
                · simp -dsimp -implicitDefEqProofs (disch := first | assumption | omega | (simp [maxLen, avs_len] <;> omega) | decide) only [sT_assign, sT_bin, sT_nil, oK_some, q_o, binF_v, v_eql, ↓reduceIte, q_b, q_f, beq_f]
                  refine hK30 _ _ ?_
                  refine awp_cond rfl (fun ht => ?_) (fun ht => ?_)
                  · cases ht
                  · refine awp_seq_s KT_ok hc rfl fun K34 hK34 => ?_
                    simp -dsimp -implicitDefEqProofs (disch := first | assumption | omega | (simp [maxLen, avs_len] <;> omega) | decide) only [sT_assign, sT_bin, sT_nil, oK_some, q_o, binF_v, v_eql, ↓reduceIte, q_b, q_f, Nat.reduceEqDiff, beq_f]
                    refine hK34 _ _ ?_
                    refine awp_cond rfl (fun ht => ?_) (fun ht => ?_)
                    · cases ht
                    · refine awp_skip (hK28 _ _ ?_)
                      refine awp_seq_se KT_ok hc mixed rfl (q := 0) (by kernel_rfl) (by kernel_rfl) fun K35 hK35 => ?_
                      rcases (show subB (uptoL r r.pos) r.dn = false ∨ (subB (uptoL r r.pos) r.dn = true ∧ subB r.dn (uptoL r (r.pos + 1)) = false) ∨ (subB (uptoL r r.pos) r.dn = true ∧ subB r.dn (uptoL r (r.pos + 1)) = true) from by cases subB (uptoL r r.pos) r.dn <;> cases subB r.dn (uptoL r (r.pos + 1)) <;> simp) with hq | ⟨hq, hq2⟩ | ⟨hq, hq2⟩
                      · have hq2 := hq
                        have hx : validR r = false := by rw [hs2]; simp [stateB, h, hq, show r.st ≠ 3 by omega]
                        simp -dsimp -implicitDefEqProofs (disch := first | assumption | omega | (simp [maxLen, avs_len] <;> omega) | decide) only [sE_load, sE_fa, sE_call0, oK_some, q_o, loadF, fieldAddrF, ↓reduceIte, q_b, ifp, q_f, q_s, q_l, List.append_nil, List.replicate_zero, q_n, Nat.reduceEqDiff, takeD_all, Nat.reduceAdd, sz_29, ag_29, fo_29_4, sz_3, ag_3]
                        refine kc_by (uptop_c r r.pos hr) rfl ?_
                        simp -dsimp -implicitDefEqProofs (disch := first | assumption | omega | (simp [maxLen, avs_len] <;> omega) | decide) only [sE_load, sE_fa, sE_call0, oK_some, loadF, fieldAddrF, ↓reduceIte, q_b, ifp, q_f, q_s, q_l, q_n, Nat.reduceEqDiff, intsD, Nat.reduceAdd, fo_29_5, sz_27, ag_27]
                        refine kc_by (subset_c (srtL (uptoL r r.pos)) r.dn (upto_srt_len hr _) hd1) rfl ?_
                        simp -dsimp -implicitDefEqProofs (disch := first | assumption | omega | (simp [maxLen, avs_len] <;> omega) | decide) only [sE_move, sE_assign, sE_pick, sE_nil, oK_some, gK_f, q_o, ↓reduceIte, q_b, guardA_some, guardV_t, q_f, q_l, Nat.reduceEqDiff, killAll, Nat.reduceAdd, sE_gg, ly_move, ly_load, ly_fa, ly_un, ly_call0, sub_srt1, hq]
                        refine hK35 _ _ ?_
                        refine awp_ret ?_
                        show closeA _ _ = _
                        simp (disch := first | assumption | omega | (simp [maxLen, avs_len] <;> omega) | decide) only [closeA, retV, deep_d, Nat.zero_add, D.fix, frL_get, ↓reduceIte, Option.map_some, List.length_cons, List.length_nil, hx]
                      · have hx : validR r = false := by rw [hs2]; simp [stateB, h, hq, hq2, show r.st ≠ 3 by omega]
                        simp -dsimp -implicitDefEqProofs (disch := first | assumption | omega | (simp [maxLen, avs_len] <;> omega) | decide) only [sE_load, sE_fa, sE_call0, oK_some, q_o, loadF, fieldAddrF, ↓reduceIte, q_b, ifp, q_f, q_s, q_l, List.append_nil, List.replicate_zero, q_n, Nat.reduceEqDiff, takeD_all, Nat.reduceAdd, sz_29, ag_29, fo_29_4, sz_3, ag_3]
                        refine kc_by (uptop_c r r.pos hr) rfl ?_
                        simp -dsimp -implicitDefEqProofs (disch := first | assumption | omega | (simp [maxLen, avs_len] <;> omega) | decide) only [sE_load, sE_fa, sE_call0, oK_some, loadF, fieldAddrF, ↓reduceIte, q_b, ifp, q_f, q_s, q_l, q_n, Nat.reduceEqDiff, intsD, Nat.reduceAdd, fo_29_5, sz_27, ag_27]
                        refine kc_by (subset_c (srtL (uptoL r r.pos)) r.dn (upto_srt_len hr _) hd1) rfl ?_
                        simp -dsimp -implicitDefEqProofs (disch := first | assumption | omega | (simp [maxLen, avs_len] <;> omega) | decide) only [sE_move, sE_load, sE_fa, sE_call0, oK_some, gK_t, q_o, loadF, fieldAddrF, ↓reduceIte, q_b, ifp, guardA_some, guardV_t, q_f, q_s, q_l, q_n, Nat.reduceEqDiff, Nat.reduceAdd, sE_gg, sub_srt1, hq, fo_29_5, sz_27, ag_27]
                        refine kc_by (subset_c r.dn (srtL (uptoL r (r.pos + 1))) hd1 (upto_srt_len hr _)) rfl ?_
                        simp -dsimp -implicitDefEqProofs (disch := first | assumption | omega | (simp [maxLen, avs_len] <;> omega) | decide) only [sE_move, sE_assign, sE_pick, sE_nil, oK_some, gK_f, q_o, ↓reduceIte, q_b, guardA_some, guardV_t, q_f, q_l, Nat.reduceEqDiff, killAll, Nat.reduceAdd, sE_gg, ly_move, ly_load, ly_fa, ly_un, ly_call0, sub_srt2, hq2]
                        refine hK35 _ _ ?_
                        refine awp_ret ?_
                        show closeA _ _ = _
                        simp (disch := first | assumption | omega | (simp [maxLen, avs_len] <;> omega) | decide) only [closeA, retV, deep_d, Nat.zero_add, D.fix, frL_get, ↓reduceIte, Option.map_some, List.length_cons, List.length_nil, hx]
                      · have hx : validR r = !subB (uptoL r (r.pos + 1)) r.dn := by rw [hs2]; simp [stateB, h, hq, hq2, show r.st ≠ 3 by omega, show (r.pos != (r.wv.length : Int)) = true from bne_t (by omega)]
                        simp -dsimp -implicitDefEqProofs (disch := first | assumption | omega | (simp [maxLen, avs_len] <;> omega) | decide) only [sE_load, sE_fa, sE_call0, oK_some, q_o, loadF, fieldAddrF, ↓reduceIte, q_b, ifp, q_f, q_s, q_l, List.append_nil, List.replicate_zero, q_n, Nat.reduceEqDiff, takeD_all, Nat.reduceAdd, sz_29, ag_29, fo_29_4, sz_3, ag_3]
                        refine kc_by (uptop_c r r.pos hr) rfl ?_
                        simp -dsimp -implicitDefEqProofs (disch := first | assumption | omega | (simp [maxLen, avs_len] <;> omega) | decide) only [sE_load, sE_fa, sE_call0, oK_some, loadF, fieldAddrF, ↓reduceIte, q_b, ifp, q_f, q_s, q_l, q_n, Nat.reduceEqDiff, intsD, Nat.reduceAdd, fo_29_5, sz_27, ag_27]
                        refine kc_by (subset_c (srtL (uptoL r r.pos)) r.dn (upto_srt_len hr _) hd1) rfl ?_
                        simp -dsimp -implicitDefEqProofs (disch := first | assumption | omega | (simp [maxLen, avs_len] <;> omega) | decide) only [sE_move, sE_load, sE_fa, sE_call0, oK_some, gK_t, q_o, loadF, fieldAddrF, ↓reduceIte, q_b, ifp, guardA_some, guardV_t, q_f, q_s, q_l, q_n, Nat.reduceEqDiff, Nat.reduceAdd, sE_gg, sub_srt1, hq, fo_29_5, sz_27, ag_27]
                        refine kc_by (subset_c r.dn (srtL (uptoL r (r.pos + 1))) hd1 (upto_srt_len hr _)) rfl ?_
                        simp -dsimp -implicitDefEqProofs (disch := first | assumption | omega | (simp [maxLen, avs_len] <;> omega) | decide) only [sE_move, sE_pick, sE_load, sE_fa, sE_call0, oK_some, gK_t, q_o, loadF, fieldAddrF, ↓reduceIte, q_b, ifp, guardA_some, guardV_t, q_f, q_s, q_l, q_n, Nat.reduceEqDiff, Nat.reduceAdd, sE_gg, sub_srt2, hq2, fo_29_5, sz_27, ag_27]
                        refine kc_by (subset_c (srtL (uptoL r (r.pos + 1))) r.dn (upto_srt_len hr _) hd1) rfl ?_
                        simp -dsimp -implicitDefEqProofs (disch := first | assumption | omega | (simp [maxLen, avs_len] <;> omega) | decide) only [sE_assign, sE_pick, sE_un, sE_nil, oK_some, gK_t, q_o, u_not, ↓reduceIte, q_b, guardA_some, guardV_t, q_f, q_l, Nat.reduceEqDiff, killAll, Nat.reduceAdd, sE_gg, sub_srt1]
                        refine hK35 _ _ ?_
                        refine awp_ret ?_
                        show closeA _ _ = _
                        simp (disch := first | assumption | omega | (simp [maxLen, avs_len] <;> omega) | decide) only [closeA, retV, deep_d, Nat.zero_add, D.fix, frL_get, ↓reduceIte, Option.map_some, List.length_cons, List.length_nil, hx]
end Go.Proofs.Ytinefghmmbggeaa

/- The reference: NewIn, Ready, SeeIn, ResumeIn, BackIn. -/
set_option linter.unusedVariables false
set_option linter.unusedSimpArgs false
namespace Go.Proofs.Ytinefghmmbggeaa
open Go Go.RowKit
def gotD (p : Rol × Int) : D := .agg [iD p.1.frm, iD p.1.to, intssD p.1.wv, iD p.1.slk, iD p.1.pos, intsD p.1.dn, iD p.1.st, iD p.2]
def planD (a b : Int) (w : List (List Int)) (s : Int) : D := .agg [iD a, iD b, intssD w, iD s]
set_option maxRecDepth 100000 in
set_option linter.unusedVariables false in
set_option maxHeartbeats 4000000 in
theorem newp_c (a b : Int) (w : List (List Int)) (s : Int) (hr : ShortR (newR a b w s)) : PCalls Try.prog 16 [planD a b w s] (.d (gotD (newG a b w s))) := by
  refine pcalls_of0 (fn := Try.f16) (by kernel_rfl) Try.func16 rfl (Nat.le_of_ble_eq_true rfl) fun c hc hp => ?_
  refine awp_less (τ' := frL [(0, .d (planD a b w s))]) (less_cons (less_nil _) rfl) ?_
  refine awp_seq_s KT_ok hc rfl fun K1 hK1 => ?_
  simp -dsimp -implicitDefEqProofs (disch := first | assumption | omega | (simp [maxLen, avs_len] <;> omega) | decide) only [sT_box, sT_alloc, deadH, sT_nil, oK_some, q_o, layF, ↓reduceIte, q_b, q_f, q_s, q_l, as_dagg, D.one, Value.oneCell', q_n, map_d, avs_nil, avs_cons, iD, intssD, deadH, planD, za_40]
  refine hK1 _ _ ?_
  refine awp_seq_s KT_ok hc rfl fun K2 hK2 => ?_
  simp -dsimp -implicitDefEqProofs (disch := first | assumption | omega | (simp [maxLen, avs_len] <;> omega) | decide) only [sT_load, sT_fa, sT_build, sT_alloc, sT_store, deadH, sT_nil, oK_some, q_o, loadF, fieldAddrF, buildF, layF, storeF, ↓reduceIte, q_b, ifp, ifn, q_f, q_s, q_l, q_a, fill_cons, as_fs, AV.one, D.one, Value.oneCell', q_n, Nat.reduceEqDiff, map_d, avs_nil, avs_cons, Nat.reduceAdd, deadH, fo_35_0, sz_3, ag_3, fo_35_1, fo_35_2, sz_26, ag_26, fo_35_3, pa_29, pl_29_0, pl_29_1, pl_29_2, pl_29_3, sz_29, za_29, zc_29]
  refine hK2 _ _ ?_
  refine awp_seq_k fun K3 hK3 => ?_
  refine awp_seq_s KT_ok hc rfl fun K4 hK4 => ?_
  simp -dsimp -implicitDefEqProofs (disch := first | assumption | omega | (simp [maxLen, avs_len] <;> omega) | decide) only [sT_load, sT_call0, oK_some, q_o, loadF, ↓reduceIte, q_b, ifp, q_f, q_s, q_l, q_n, takeD_all, Nat.reduceAdd, sz_29, ag_29]
  refine kc_by (validp_c (newR a b w s) hr) rfl ?_
  simp -dsimp -implicitDefEqProofs (disch := first | assumption | omega | (simp [maxLen, avs_len] <;> omega) | decide) only [sT_un, sT_nil, oK_some, u_not, ↓reduceIte, q_b, q_f]
  refine hK4 _ _ ?_
  refine awp_cond rfl (fun ht => ?_) (fun ht => ?_)
  · have hv : validR (newR a b w s) = false := by simpa using ht
    have hx : newG a b w s = (noRol, 510) := by simp [newG, hv]
    refine awp_seq_s KT_ok hc rfl fun K5 hK5 => ?_
    simp -dsimp -implicitDefEqProofs (disch := first | assumption | omega | (simp [maxLen, avs_len] <;> omega) | decide) only [sT_build, sT_store, sT_nil, oK_some, q_o, buildF, storeF, ↓reduceIte, q_b, ifp, ifn, q_f, q_s, q_l, q_a, fill_cons, AV.one, D.one, Value.oneCell', q_n, Nat.reduceEqDiff, Nat.reduceAdd, pa_40, pl_40_1, sz_40, zc_40]
    refine hK5 _ _ ?_
    refine awp_ret ?_
    try dsimp only [thenA, inBlockA]
    refine PostA_retc rfl ?_
    simp -dsimp -implicitDefEqProofs (disch := first | assumption | omega | (simp [maxLen, avs_len] <;> omega) | decide) only [oK_some, q_o, loadF, ↓reduceIte, q_b, ifp, q_f, q_l, q_n, Nat.reduceEqDiff, takeD_all, Nat.reduceAdd, sz_40, ag_40]
    show closeA _ _ = _
    simp (disch := first | assumption | omega | (simp [maxLen, avs_len] <;> omega) | decide) only [List.map_nil, closeA, deep_d, deep_agg, deepL_nil, deepL_cons, Nat.reduceAdd, Nat.zero_add, D.fix, Option.map_some, Option.bind_some, List.length_cons, List.length_nil, iD, intsD, intssD, hx, gotD, noRol]
  · have hv : validR (newR a b w s) = true := by simpa using ht
    have hx : newG a b w s = (newR a b w s, 0) := by simp [newG, hv]
    refine awp_skip (hK3 _ _ ?_)
    refine awp_seq_s KT_ok hc rfl fun K6 hK6 => ?_
    simp -dsimp -implicitDefEqProofs (disch := first | assumption | omega | (simp [maxLen, avs_len] <;> omega) | decide) only [sT_load, sT_build, sT_store, sT_nil, oK_some, q_o, loadF, buildF, storeF, ↓reduceIte, q_b, ifp, ifn, q_f, q_s, q_l, q_a, fill_cons, AV.one, D.one, Value.oneCell', q_n, Nat.reduceEqDiff, takeD_all, Nat.reduceAdd, sz_29, ag_29, pa_40, pl_40_0, sz_40, zc_40]
    refine hK6 _ _ ?_
    refine awp_ret ?_
    try dsimp only [thenA, inBlockA]
    refine PostA_retc rfl ?_
    simp -dsimp -implicitDefEqProofs (disch := first | assumption | omega | (simp [maxLen, avs_len] <;> omega) | decide) only [oK_some, q_o, loadF, ↓reduceIte, q_b, ifp, q_f, q_l, q_n, Nat.reduceEqDiff, takeD_all, Nat.reduceAdd, sz_40, ag_40]
    show closeA _ _ = _
    simp (disch := first | assumption | omega | (simp [maxLen, avs_len] <;> omega) | decide) only [List.map_nil, closeA, deep_d, deep_agg, deepL_nil, deepL_cons, Nat.reduceAdd, Nat.zero_add, D.fix, Option.map_some, Option.bind_some, List.length_cons, List.length_nil, iD, intsD, intssD, hx, gotD, newR]
set_option maxRecDepth 100000 in
set_option linter.unusedVariables false in
set_option maxHeartbeats 4000000 in
theorem resumep_c (r : Rol) : PCalls Try.prog 24 [rolD r] (.d (gotD (resumeG r))) := by
  refine pcalls_of0 (fn := Try.f24) (by kernel_rfl) Try.func24 rfl (Nat.le_of_ble_eq_true rfl) fun c hc hp => ?_
  refine awp_less (τ' := frL [(0, .d (rolD r))]) (less_cons (less_nil _) rfl) ?_
  refine awp_seq_s KT_ok hc rfl fun K1 hK1 => ?_
  simp -dsimp -implicitDefEqProofs (disch := first | assumption | omega | (simp [maxLen, avs_len] <;> omega) | decide) only [sT_box, sT_alloc, deadH, sT_nil, oK_some, q_o, layF, ↓reduceIte, q_b, q_f, q_s, q_l, as_dagg, D.one, Value.oneCell', q_n, map_d, avs_nil, avs_cons, iD, intsD, intssD, deadH, rolD, rolC, za_40]
  refine hK1 _ _ ?_
  refine awp_seq_k fun K2 hK2 => ?_
  refine awp_seq_s KT_ok hc rfl fun K3 hK3 => ?_
  simp -dsimp -implicitDefEqProofs (disch := first | assumption | omega | (simp [maxLen, avs_len] <;> omega) | decide) only [sT_load, sT_fa, sT_bin, sT_nil, oK_some, q_o, loadF, fieldAddrF, binF_v, v_neq, ↓reduceIte, q_b, ifp, q_f, q_l, q_n, Nat.reduceEqDiff, Nat.reduceAdd, fo_29_6, sz_3, ag_3]
  refine hK3 _ _ ?_
  refine awp_cond rfl (fun ht => ?_) (fun ht => ?_)
  · have hs : r.st ≠ 1 := by simpa using ht
    have hx : resumeG r = (noRol, 510) := by simp [resumeG, hs]
    refine awp_seq_s KT_ok hc rfl fun K4 hK4 => ?_
    simp -dsimp -implicitDefEqProofs (disch := first | assumption | omega | (simp [maxLen, avs_len] <;> omega) | decide) only [sT_build, sT_store, sT_nil, oK_some, q_o, buildF, storeF, ↓reduceIte, q_b, ifp, ifn, q_f, q_s, q_l, q_a, fill_cons, AV.one, D.one, Value.oneCell', q_n, Nat.reduceEqDiff, Nat.reduceAdd, pa_40, pl_40_1, sz_40, zc_40]
    refine hK4 _ _ ?_
    refine awp_ret ?_
    try dsimp only [thenA, inBlockA]
    refine PostA_retc rfl ?_
    simp -dsimp -implicitDefEqProofs (disch := first | assumption | omega | (simp [maxLen, avs_len] <;> omega) | decide) only [oK_some, q_o, loadF, ↓reduceIte, q_b, ifp, q_f, q_l, q_n, Nat.reduceEqDiff, takeD_all, Nat.reduceAdd, sz_40, ag_40]
    show closeA _ _ = _
    simp (disch := first | assumption | omega | (simp [maxLen, avs_len] <;> omega) | decide) only [List.map_nil, closeA, deep_d, deep_agg, deepL_nil, deepL_cons, Nat.reduceAdd, Nat.zero_add, D.fix, Option.map_some, Option.bind_some, List.length_cons, List.length_nil, iD, intsD, intssD, hx, gotD, noRol]
  · have hs : r.st = 1 := by simpa using ht
    have hx : resumeG r = ({ r with st := 0 }, 0) := by simp [resumeG, hs]
    refine awp_skip (hK2 _ _ ?_)
    refine awp_seq_s KT_ok hc rfl fun K5 hK5 => ?_
    simp -dsimp -implicitDefEqProofs (disch := first | assumption | omega | (simp [maxLen, avs_len] <;> omega) | decide) only [sT_fa, sT_store, sT_nil, oK_some, fieldAddrF, storeF, ↓reduceIte, q_b, ifp, q_f, q_l, q_s, q_a, q_n, Nat.reduceEqDiff, Nat.reduceAdd, fo_29_6, sz_3]
    refine hK5 _ _ ?_
    refine awp_seq_s KT_ok hc rfl fun K6 hK6 => ?_
    simp -dsimp -implicitDefEqProofs (disch := first | assumption | omega | (simp [maxLen, avs_len] <;> omega) | decide) only [sT_load, sT_build, sT_store, sT_nil, oK_some, q_o, loadF, buildF, storeF, ↓reduceIte, q_b, ifp, ifn, q_f, q_s, q_l, q_a, fill_cons, AV.one, D.one, Value.oneCell', q_n, Nat.reduceEqDiff, takeD_all, Nat.reduceAdd, sz_29, ag_29, pa_40, pl_40_0, sz_40, zc_40]
    refine hK6 _ _ ?_
    refine awp_ret ?_
    try dsimp only [thenA, inBlockA]
    refine PostA_retc rfl ?_
    simp -dsimp -implicitDefEqProofs (disch := first | assumption | omega | (simp [maxLen, avs_len] <;> omega) | decide) only [oK_some, q_o, loadF, ↓reduceIte, q_b, ifp, q_f, q_l, q_n, Nat.reduceEqDiff, takeD_all, Nat.reduceAdd, sz_40, ag_40]
    show closeA _ _ = _
    simp (disch := first | assumption | omega | (simp [maxLen, avs_len] <;> omega) | decide) only [closeA, deep_d, deep_agg, deepL_nil, deepL_cons, Nat.reduceAdd, Nat.zero_add, D.fix, Option.map_some, Option.bind_some, List.length_cons, List.length_nil, iD, intsD, intssD, hx, gotD]
set_option maxRecDepth 100000 in
set_option linter.unusedVariables false in
set_option maxHeartbeats 4000000 in
theorem backp_c (r : Rol) (hr : ShortR r) : PCalls Try.prog 26 [rolD r] (.d (gotD (backG r))) := by
  refine pcalls_of0 (fn := Try.f26) (by kernel_rfl) Try.func26 rfl (Nat.le_of_ble_eq_true rfl) fun c hc hp => ?_
  refine awp_less (τ' := frL [(0, .d (rolD r))]) (less_cons (less_nil _) rfl) ?_
  have hw1 := hr.wl
  refine awp_seq_s KT_ok hc rfl fun K1 hK1 => ?_
  simp -dsimp -implicitDefEqProofs (disch := first | assumption | omega | (simp [maxLen, avs_len] <;> omega) | decide) only [sT_box, sT_alloc, deadH, sT_nil, oK_some, q_o, layF, ↓reduceIte, q_b, q_f, q_s, q_l, as_dagg, D.one, Value.oneCell', q_n, map_d, avs_nil, avs_cons, iD, intsD, intssD, deadH, rolD, rolC, za_40]
  refine hK1 _ _ ?_
  refine awp_seq_k fun K2 hK2 => ?_
  refine awp_seq_s KT_ok hc rfl fun K3 hK3 => ?_
  rcases (show r.st = 2 ∨ r.st = 4 ∨ (r.st ≠ 2 ∧ r.st ≠ 4) from by omega) with hs | hs | hs
  · have hx : backG r = (noRol, 510) := by simp [backG, hs]
    simp -dsimp -implicitDefEqProofs (disch := first | assumption | omega | (simp [maxLen, avs_len] <;> omega) | decide) only [sT_move, sT_pick, sT_load, sT_fa, sT_bin, sT_nil, sT_g, oK_some, gK_f, q_o, loadF, fieldAddrF, binF_v, v_eql, ↓reduceIte, q_b, ifp, guardA_some, guardV_f, q_f, q_l, q_n, Nat.reduceEqDiff, Nat.reduceAdd, beq_t, nb_f, fo_29_6, sz_3, ag_3]
    refine hK3 _ _ ?_
    refine awp_cond rfl (fun ht => ?_) (fun ht => ?_)
    · refine awp_seq_s KT_ok hc rfl fun K4 hK4 => ?_
      simp -dsimp -implicitDefEqProofs (disch := first | assumption | omega | (simp [maxLen, avs_len] <;> omega) | decide) only [sT_build, sT_store, sT_nil, oK_some, q_o, buildF, storeF, ↓reduceIte, q_b, ifp, ifn, q_f, q_s, q_l, q_a, fill_cons, AV.one, D.one, Value.oneCell', q_n, Nat.reduceEqDiff, Nat.reduceAdd, pa_40, pl_40_1, sz_40, zc_40]
      refine hK4 _ _ ?_
      refine awp_ret ?_
      try dsimp only [thenA, inBlockA]
      refine PostA_retc rfl ?_
      simp -dsimp -implicitDefEqProofs (disch := first | assumption | omega | (simp [maxLen, avs_len] <;> omega) | decide) only [oK_some, q_o, loadF, ↓reduceIte, q_b, ifp, q_f, q_l, q_n, Nat.reduceEqDiff, takeD_all, Nat.reduceAdd, sz_40, ag_40]
      show closeA _ _ = _
      simp (disch := first | assumption | omega | (simp [maxLen, avs_len] <;> omega) | decide) only [List.map_nil, closeA, deep_d, deep_agg, deepL_nil, deepL_cons, Nat.reduceAdd, Nat.zero_add, D.fix, Option.map_some, Option.bind_some, List.length_cons, List.length_nil, iD, intsD, intssD, hx, gotD, noRol, List.map_nil, List.length_nil]
    · cases ht
  · have hx : backG r = (noRol, 510) := by simp [backG, hs]
    simp -dsimp -implicitDefEqProofs (disch := first | assumption | omega | (simp [maxLen, avs_len] <;> omega) | decide) only [sT_move, sT_pick, sT_load, sT_fa, sT_bin, sT_nil, sT_g, oK_some, gK_t, q_o, loadF, fieldAddrF, binF_v, v_eql, ↓reduceIte, q_b, ifp, guardA_some, guardV_f, q_f, q_l, q_n, Nat.reduceEqDiff, Nat.reduceAdd, beq_t, beq_f, nb_t, fo_29_6, sz_3, ag_3]
    refine hK3 _ _ ?_
    refine awp_cond rfl (fun ht => ?_) (fun ht => ?_)
    · refine awp_seq_s KT_ok hc rfl fun K5 hK5 => ?_
      simp -dsimp -implicitDefEqProofs (disch := first | assumption | omega | (simp [maxLen, avs_len] <;> omega) | decide) only [sT_build, sT_store, sT_nil, oK_some, q_o, buildF, storeF, ↓reduceIte, q_b, ifp, ifn, q_f, q_s, q_l, q_a, fill_cons, AV.one, D.one, Value.oneCell', q_n, Nat.reduceEqDiff, Nat.reduceAdd, pa_40, pl_40_1, sz_40, zc_40]
      refine hK5 _ _ ?_
      refine awp_ret ?_
      try dsimp only [thenA, inBlockA]
      refine PostA_retc rfl ?_
      simp -dsimp -implicitDefEqProofs (disch := first | assumption | omega | (simp [maxLen, avs_len] <;> omega) | decide) only [oK_some, q_o, loadF, ↓reduceIte, q_b, ifp, q_f, q_l, q_n, Nat.reduceEqDiff, takeD_all, Nat.reduceAdd, sz_40, ag_40]
      show closeA _ _ = _
      simp (disch := first | assumption | omega | (simp [maxLen, avs_len] <;> omega) | decide) only [List.map_nil, closeA, deep_d, deep_agg, deepL_nil, deepL_cons, Nat.reduceAdd, Nat.zero_add, D.fix, Option.map_some, Option.bind_some, List.length_cons, List.length_nil, iD, intsD, intssD, hx, gotD, noRol, List.map_nil, List.length_nil]
    · cases ht
  · have hx : backG r = ({ r with st := 2, dn := [], pos := min r.pos (r.wv.length - 1) }, 0) := by simp [backG, hs]
    simp -dsimp -implicitDefEqProofs (disch := first | assumption | omega | (simp [maxLen, avs_len] <;> omega) | decide) only [sT_move, sT_pick, sT_load, sT_fa, sT_bin, sT_nil, sT_g, oK_some, gK_t, q_o, loadF, fieldAddrF, binF_v, v_eql, ↓reduceIte, q_b, ifp, guardA_some, guardV_f, q_f, q_l, q_n, Nat.reduceEqDiff, Nat.reduceAdd, beq_f, nb_t, fo_29_6, sz_3, ag_3]
    refine hK3 _ _ ?_
    refine awp_cond rfl (fun ht => ?_) (fun ht => ?_)
    · cases ht
    · refine awp_skip (hK2 _ _ ?_)
      refine awp_seq_s KT_ok hc rfl fun K6 hK6 => ?_
      simp -dsimp -implicitDefEqProofs (disch := first | assumption | omega | (simp [maxLen, avs_len] <;> omega) | decide) only [sT_fa, sT_store, sT_nil, oK_some, fieldAddrF, storeF, ↓reduceIte, q_b, ifp, q_f, q_l, q_s, q_a, q_n, Nat.reduceEqDiff, Nat.reduceAdd, fo_29_6, sz_3]
      refine hK6 _ _ ?_
      refine awp_seq_s KT_ok hc rfl fun K7 hK7 => ?_
      simp -dsimp -implicitDefEqProofs (disch := first | assumption | omega | (simp [maxLen, avs_len] <;> omega) | decide) only [sT_fa, sT_store, sT_nil, oK_some, fieldAddrF, storeF, ↓reduceIte, q_b, ifp, q_f, q_l, q_s, as_nil, q_a, q_n, Nat.reduceEqDiff, Nat.reduceAdd, fo_29_5, sz_27]
      refine hK7 _ _ ?_
      refine awp_seq_s KT_ok hc rfl fun K8 hK8 => ?_
      simp -dsimp -implicitDefEqProofs (disch := first | assumption | omega | (simp [maxLen, avs_len] <;> omega) | decide) only [sT_load, sT_fa, sT_bin, sT_len, sT_min, sT_store, sT_nil, oK_some, q_o, loadF, fieldAddrF, binF_v, lenF, builtinF, storeF, v_sub, ↓reduceIte, q_b, ifp, q_f, q_s, q_l, q_a, q_n, Nat.reduceEqDiff, Nat.reduceAdd, fo_29_4, sz_3, ag_3, fo_29_2, sz_26, ag_26, eo_26]
      refine hK8 _ _ ?_
      refine awp_seq_s KT_ok hc rfl fun K9 hK9 => ?_
      simp -dsimp -implicitDefEqProofs (disch := first | assumption | omega | (simp [maxLen, avs_len] <;> omega) | decide) only [sT_load, sT_build, sT_store, sT_nil, oK_some, q_o, loadF, buildF, storeF, ↓reduceIte, q_b, ifp, ifn, q_f, q_s, q_l, q_a, fill_cons, AV.one, D.one, Value.oneCell', q_n, Nat.reduceEqDiff, takeD_all, Nat.reduceAdd, sz_29, ag_29, pa_40, pl_40_0, sz_40, zc_40]
      refine hK9 _ _ ?_
      refine awp_ret ?_
      try dsimp only [thenA, inBlockA]
      refine PostA_retc rfl ?_
      simp -dsimp -implicitDefEqProofs (disch := first | assumption | omega | (simp [maxLen, avs_len] <;> omega) | decide) only [oK_some, q_o, loadF, ↓reduceIte, q_b, ifp, q_f, q_l, q_n, Nat.reduceEqDiff, takeD_all, Nat.reduceAdd, sz_40, ag_40]
      show closeA _ _ = _
      simp (disch := first | assumption | omega | (simp [maxLen, avs_len] <;> omega) | decide) only [List.map_nil, closeA, deep_d, deep_agg, deepL_nil, deepL_cons, Nat.reduceAdd, Nat.zero_add, D.fix, Option.map_some, Option.bind_some, List.length_cons, List.length_nil, iD, intsD, intssD, hx, gotD, List.map_nil, List.length_nil]
theorem mem_left {r : Rol} {x : Int} : ∀ {k : Nat}, x ∈ keysS (leftS r k) ↔ x ∈ uptoL r (r.pos + 1) ∧ x ∉ r.dn.take k := by
  intro k
  unfold leftS
  have key : ∀ (l : List Int) (σ : SetS), x ∈ keysS (l.foldl (fun σ n => delS n σ) σ) ↔ x ∈ keysS σ ∧ x ∉ l := by
    intro l
    induction l with
    | nil => intro σ; simp
    | cons a l ih =>
      intro σ
      rw [List.foldl_cons, ih, mem_del]
      simp only [List.mem_cons, not_or]
      exact ⟨fun ⟨⟨h1, h2⟩, h3⟩ => ⟨h1, h2, h3⟩, fun ⟨h1, h2, h3⟩ => ⟨⟨h1, h2⟩, h3⟩⟩
  rw [key, mem_of]
theorem ready_eq {r : Rol} (hi : OkI r) : (srtL (uptoL r (r.pos + 1))).filter (fun x => !inB x r.dn) = listS (leftS r r.dn.length) :=
  inc_ext ((inc_srt _).filter _) (inc_listS (OkS.left hi _)) fun x => by
    rw [mem_listS, mem_left, List.mem_filter, mem_srt, List.take_length]
    refine and_congr_right fun _ => ?_
    rw [Bool.not_eq_true', ← Bool.not_eq_true, inB_iff]
set_option maxRecDepth 100000 in
set_option linter.unusedVariables false in
set_option maxHeartbeats 4000000 in
theorem readyp_c (r : Rol) (hr : ShortR r) (hi : OkI r) (hpos : r.st = 0 ∨ r.st = 2 → 0 ≤ r.pos ∧ r.pos < r.wv.length) : PCalls Try.prog 20 [rolD r] (.d (intsD (readyG r))) := by
  refine pcalls_of0 (fn := Try.f20) (by kernel_rfl) Try.func20 rfl (Nat.le_of_ble_eq_true rfl) fun c hc hp => ?_
  refine awp_less (τ' := frL [(0, .d (rolD r))]) (less_cons (less_nil _) rfl) ?_
  have hw1 := hr.wl
  have hd1 := hr.dl
  refine awp_seq_s KT_ok hc rfl fun K1 hK1 => ?_
  simp -dsimp -implicitDefEqProofs (disch := first | assumption | omega | (simp [maxLen, avs_len] <;> omega) | decide) only [sT_assign, sT_box, deadH, sT_nil, oK_some, q_o, layF, ↓reduceIte, q_b, q_f, q_s, q_l, as_dagg, D.one, Value.oneCell', iD, intsD, intssD, deadH, rolD, rolC]
  refine hK1 _ _ ?_
  refine awp_seq_k fun K2 hK2 => ?_
  refine awp_seq_s KT_ok hc rfl fun K3 hK3 => ?_
  simp -dsimp -implicitDefEqProofs (disch := first | assumption | omega | (simp [maxLen, avs_len] <;> omega) | decide) only [sT_load, sT_fa, sT_nil, oK_some, loadF, fieldAddrF, ↓reduceIte, q_b, ifp, q_f, q_l, q_n, Nat.reduceEqDiff, fo_29_6, sz_3, ag_3]
  refine hK3 _ _ ?_
  refine awp_block ?_
  refine awp_seq_s KT_ok hc rfl fun K4 hK4 => ?_
  rcases (show r.st = 0 ∨ r.st = 2 ∨ (r.st ≠ 0 ∧ r.st ≠ 2) from by omega) with hs | hs | hs
  · have hpo := hpos (.inl hs)
    have hx : readyG r = (srtL (uptoL r (r.pos + 1))).filter (fun x => !inB x r.dn) := by rw [ready_eq hi]; simp [readyG, hs]
    simp -dsimp -implicitDefEqProofs (disch := first | assumption | omega | (simp [maxLen, avs_len] <;> omega) | decide) only [sT_assign, sT_bin, sT_nil, oK_some, q_o, binF_v, v_eql, ↓reduceIte, q_b, q_f, beq_t]
    refine hK4 _ _ ?_
    refine awp_cond rfl (fun ht => ?_) (fun ht => ?_)
    · refine awp_seq_se KT_ok hc mixed rfl (q := 0) (by kernel_rfl) (by kernel_rfl) fun K5 hK5 => ?_
      simp -dsimp -implicitDefEqProofs (disch := first | assumption | omega | (simp [maxLen, avs_len] <;> omega) | decide) only [sE_load, sE_fa, sE_bin, sE_call0, oK_some, q_o, loadF, fieldAddrF, binF_v, v_add, ↓reduceIte, q_b, ifp, q_f, q_s, q_l, List.append_nil, List.replicate_zero, q_n, Nat.reduceEqDiff, takeD_all, Nat.reduceAdd, sz_29, ag_29, fo_29_4, sz_3, ag_3]
      refine kc_by (uptop_c r (r.pos + 1) hr) rfl ?_
      simp -dsimp -implicitDefEqProofs (disch := first | assumption | omega | (simp [maxLen, avs_len] <;> omega) | decide) only [sE_load, sE_fa, sE_call0, oK_some, loadF, fieldAddrF, ↓reduceIte, q_b, ifp, q_f, q_s, q_l, q_n, Nat.reduceEqDiff, intsD, Nat.reduceAdd, fo_29_5, sz_27, ag_27]
      refine kc_by (without_c (srtL (uptoL r (r.pos + 1))) r.dn (upto_srt_len hr _) hd1) rfl ?_
      simp -dsimp -implicitDefEqProofs (disch := first | assumption | omega | (simp [maxLen, avs_len] <;> omega) | decide) only [sE_assign, sE_nil, ↓reduceIte, q_b, q_f, killAll, intsD, Nat.reduceAdd]
      refine hK5 _ _ ?_
      refine awp_ret ?_
      show closeA _ _ = _
      simp (disch := first | assumption | omega | (simp [maxLen, avs_len] <;> omega) | decide) only [closeA, retV, deep_d, Nat.zero_add, D.fix, frL_get, ↓reduceIte, Option.map_some, List.length_cons, List.length_nil, intsD, hx, List.length_nil]
    · cases ht
  · have hpo := hpos (.inr hs)
    have hx : readyG r = (srtL (uptoL r (r.pos + 1))).filter (fun x => !inB x r.dn) := by rw [ready_eq hi]; simp [readyG, hs]
    simp -dsimp -implicitDefEqProofs (disch := first | assumption | omega | (simp [maxLen, avs_len] <;> omega) | decide) only [sT_assign, sT_bin, sT_nil, oK_some, q_o, binF_v, v_eql, ↓reduceIte, q_b, q_f, beq_f]
    refine hK4 _ _ ?_
    refine awp_cond rfl (fun ht => ?_) (fun ht => ?_)
    · cases ht
    · refine awp_seq_s KT_ok hc rfl fun K6 hK6 => ?_
      simp -dsimp -implicitDefEqProofs (disch := first | assumption | omega | (simp [maxLen, avs_len] <;> omega) | decide) only [sT_assign, sT_bin, sT_nil, oK_some, q_o, binF_v, v_eql, ↓reduceIte, q_b, q_f, Nat.reduceEqDiff, beq_t]
      refine hK6 _ _ ?_
      refine awp_cond rfl (fun ht => ?_) (fun ht => ?_)
      · refine awp_seq_se KT_ok hc mixed rfl (q := 0) (by kernel_rfl) (by kernel_rfl) fun K7 hK7 => ?_
        simp -dsimp -implicitDefEqProofs (disch := first | assumption | omega | (simp [maxLen, avs_len] <;> omega) | decide) only [sE_load, sE_fa, sE_bin, sE_call0, oK_some, q_o, loadF, fieldAddrF, binF_v, v_add, ↓reduceIte, q_b, ifp, q_f, q_s, q_l, List.append_nil, List.replicate_zero, q_n, Nat.reduceEqDiff, takeD_all, Nat.reduceAdd, sz_29, ag_29, fo_29_4, sz_3, ag_3]
        refine kc_by (uptop_c r (r.pos + 1) hr) rfl ?_
        simp -dsimp -implicitDefEqProofs (disch := first | assumption | omega | (simp [maxLen, avs_len] <;> omega) | decide) only [sE_load, sE_fa, sE_call0, oK_some, loadF, fieldAddrF, ↓reduceIte, q_b, ifp, q_f, q_s, q_l, q_n, Nat.reduceEqDiff, intsD, Nat.reduceAdd, fo_29_5, sz_27, ag_27]
        refine kc_by (without_c (srtL (uptoL r (r.pos + 1))) r.dn (upto_srt_len hr _) hd1) rfl ?_
        simp -dsimp -implicitDefEqProofs (disch := first | assumption | omega | (simp [maxLen, avs_len] <;> omega) | decide) only [sE_assign, sE_nil, ↓reduceIte, q_b, q_f, killAll, intsD, Nat.reduceAdd]
        refine hK7 _ _ ?_
        refine awp_ret ?_
        show closeA _ _ = _
        simp (disch := first | assumption | omega | (simp [maxLen, avs_len] <;> omega) | decide) only [closeA, retV, deep_d, Nat.zero_add, D.fix, frL_get, ↓reduceIte, Option.map_some, List.length_cons, List.length_nil, intsD, hx, List.length_nil]
      · cases ht
  · have hx : readyG r = [] := by simp [readyG, hs]
    simp -dsimp -implicitDefEqProofs (disch := first | assumption | omega | (simp [maxLen, avs_len] <;> omega) | decide) only [sT_assign, sT_bin, sT_nil, oK_some, q_o, binF_v, v_eql, ↓reduceIte, q_b, q_f, beq_f]
    refine hK4 _ _ ?_
    refine awp_cond rfl (fun ht => ?_) (fun ht => ?_)
    · cases ht
    · refine awp_seq_s KT_ok hc rfl fun K8 hK8 => ?_
      simp -dsimp -implicitDefEqProofs (disch := first | assumption | omega | (simp [maxLen, avs_len] <;> omega) | decide) only [sT_assign, sT_bin, sT_nil, oK_some, q_o, binF_v, v_eql, ↓reduceIte, q_b, q_f, Nat.reduceEqDiff, beq_f]
      refine hK8 _ _ ?_
      refine awp_cond rfl (fun ht => ?_) (fun ht => ?_)
      · cases ht
      · refine awp_skip (hK2 _ _ ?_)
        refine awp_seq_s KT_ok hc rfl fun K9 hK9 => ?_
        simp -dsimp -implicitDefEqProofs (disch := first | assumption | omega | (simp [maxLen, avs_len] <;> omega) | decide) only [sT_assign, sT_bs, deadH, sT_nil, oK_some, q_o, layF, ↓reduceIte, q_b, ifp, q_f, q_s, q_l, List.replicate_zero, reps_def, q_a, q_n, deadH, mk_27]
        refine hK9 _ _ ?_
        refine awp_ret ?_
        show closeA _ _ = _
        simp (disch := first | assumption | omega | (simp [maxLen, avs_len] <;> omega) | decide) only [List.map_nil, closeA, retV, deepL_nil, lookH_eq, cellsOf_c, deep_os, Nat.reduceAdd, Nat.zero_add, takeD_zero, frL_get, ↓reduceIte, Option.map_some, Option.bind_some, Nat.mul_one, List.getElem?_cons_zero, List.getElem?_cons_succ, List.length_cons, List.length_nil, intsD, hx, List.map_nil, List.length_nil]
theorem good_iff {r : Rol} {p : Rep} : goodB r p = false ↔ p.runs = false ∨ p.same = false ∨ p.slk < r.slk := by
  unfold goodB
  cases p.runs <;> cases p.same <;> simp
theorem allIn_srt {l : List Int} {σ : SetS} : allIn σ (srtL l) = allIn σ l := by
  unfold allIn
  rw [Bool.eq_iff_iff, List.all_eq_true, List.all_eq_true]
  exact ⟨fun h x hx => h x (mem_srt.2 hx), fun h x hx => h x (mem_srt.1 hx)⟩
theorem sub_list {l : List Int} {σ : SetS} : subB l (listS σ) = allIn σ l := by
  unfold subB allIn
  congr 1
  funext x
  rw [decide_eq_decide]
  exact mem_listS
set_option maxRecDepth 100000 in
set_option linter.unusedVariables false in
set_option maxHeartbeats 4000000 in
theorem activep_c (r : Rol) (p : Rep) (hr : ShortR r) (hinc : Inc r.dn) (hd : r.dn.length ≤ 999999) (h0 : 0 ≤ r.pos) (h1 : r.pos < r.wv.length) : PCalls Try.prog 45 [rolD r, repD p] (.d (rolD (activeG r p))) := by
  refine pcalls_of0 (fn := Try.f45) (by kernel_rfl) Try.func45 rfl (Nat.le_of_ble_eq_true rfl) fun c hc hp => ?_
  refine awp_less (τ' := frL [(0, .d (rolD r)), (1, .d (repD p))]) (less_cons (less_cons (less_nil _) rfl) rfl) ?_
  have hw1 := hr.wl
  refine awp_seq_s KT_ok hc rfl fun K1 hK1 => ?_
  simp -dsimp -implicitDefEqProofs (disch := first | assumption | omega | (simp [maxLen, avs_len] <;> omega) | decide) only [sT_box, sT_alloc, deadH, sT_nil, oK_some, q_o, layF, ↓reduceIte, q_b, q_f, q_s, q_l, as_dagg, D.one, Value.oneCell', q_n, Nat.reduceEqDiff, map_d, avs_nil, avs_cons, iD, oD, intsD, intssD, Nat.reduceAdd, deadH, rolD, rolC, repD, repC, za_29]
  refine hK1 _ _ ?_
  refine awp_seq_k fun K2 hK2 => ?_
  refine awp_seq_s KT_ok hc rfl fun K3 hK3 => ?_
  simp -dsimp -implicitDefEqProofs (disch := first | assumption | omega | (simp [maxLen, avs_len] <;> omega) | decide) only [sT_load, sT_fa, sT_bin, sT_nil, oK_some, q_o, loadF, fieldAddrF, binF_v, v_eql, ↓reduceIte, q_b, ifp, q_f, q_l, q_n, Nat.reduceEqDiff, Nat.reduceAdd, fo_31_1, sz_3, ag_3, fo_29_0]
  refine hK3 _ _ ?_
  refine awp_cond rfl (fun ht => ?_) (fun ht => ?_)
  · have hno : p.no = r.frm := by simpa using ht
    refine awp_seq_k fun K4 hK4 => ?_
    refine awp_seq_s KT_ok hc rfl fun K5 hK5 => ?_
    simp -dsimp -implicitDefEqProofs (disch := first | assumption | omega | (simp [maxLen, avs_len] <;> omega) | decide) only [sT_load, sT_fa, sT_call0, oK_some, loadF, fieldAddrF, ↓reduceIte, q_b, ifp, q_f, q_s, q_l, q_n, Nat.reduceEqDiff, Nat.reduceAdd, fo_29_5, sz_27, ag_27, fo_31_0, sz_3, ag_3]
    refine kc_by (in_c r.dn p.chip (by omega)) rfl ?_
    simp -dsimp -implicitDefEqProofs (disch := first | assumption | omega | (simp [maxLen, avs_len] <;> omega) | decide) only [sT_nil, q_f]
    refine hK5 _ _ ?_
    refine awp_cond rfl (fun ht => ?_) (fun ht => ?_)
    · have hm : p.chip ∈ r.dn := inB_iff.1 ht
      have hx : activeG r p = { r with st := 1 } := by simp [activeG, hno, hm]
      refine awp_s KT_ok hc rfl fun K6 hK6 => ?_
      simp -dsimp -implicitDefEqProofs (disch := first | assumption | omega | (simp [maxLen, avs_len] <;> omega) | decide) only [sT_fa, sT_store, sT_nil, oK_some, fieldAddrF, storeF, ↓reduceIte, q_b, ifp, q_f, q_l, q_s, q_a, q_n, Nat.reduceEqDiff, Nat.reduceAdd, fo_29_6, sz_3]
      refine hK6 _ _ (hK4 _ _ ?_)
      refine awp_seq_s KT_ok hc rfl fun K7 hK7 => ?_
      simp -dsimp -implicitDefEqProofs (disch := first | assumption | omega | (simp [maxLen, avs_len] <;> omega) | decide) only [sT_load, sT_store, sT_nil, oK_some, q_o, loadF, storeF, ↓reduceIte, q_b, ifp, q_f, q_l, q_s, q_a, AV.one, D.one, Value.oneCell', q_n, Nat.reduceEqDiff, takeD_all, Nat.reduceAdd, sz_29, ag_29]
      refine hK7 _ _ ?_
      refine awp_ret ?_
      try dsimp only [thenA, inBlockA]
      refine PostA_retc rfl ?_
      simp -dsimp -implicitDefEqProofs (disch := first | assumption | omega | (simp [maxLen, avs_len] <;> omega) | decide) only [oK_some, q_o, loadF, ↓reduceIte, q_b, ifp, q_f, q_l, q_n, Nat.reduceEqDiff, takeD_all, iD, intsD, intssD, Nat.reduceAdd, rolD, rolC, sz_29, ag_29]
      show closeA _ _ = _
      simp (disch := first | assumption | omega | (simp [maxLen, avs_len] <;> omega) | decide) only [closeA, deep_d, deep_agg, deepL_nil, deepL_cons, Nat.reduceAdd, Nat.zero_add, D.fix, Option.map_some, Option.bind_some, List.length_cons, List.length_nil, hx]
    · have hm : p.chip ∉ r.dn := fun h => by rw [inB_iff.2 h] at ht; cases ht
      have hx : activeG r p = r := by simp [activeG, hno, hm]
      refine awp_skip (hK4 _ _ ?_)
      refine awp_seq_s KT_ok hc rfl fun K8 hK8 => ?_
      simp -dsimp -implicitDefEqProofs (disch := first | assumption | omega | (simp [maxLen, avs_len] <;> omega) | decide) only [sT_load, sT_store, sT_nil, oK_some, q_o, loadF, storeF, ↓reduceIte, q_b, ifp, q_f, q_l, q_s, q_a, AV.one, D.one, Value.oneCell', q_n, Nat.reduceEqDiff, takeD_all, Nat.reduceAdd, sz_29, ag_29]
      refine hK8 _ _ ?_
      refine awp_ret ?_
      try dsimp only [thenA, inBlockA]
      refine PostA_retc rfl ?_
      simp -dsimp -implicitDefEqProofs (disch := first | assumption | omega | (simp [maxLen, avs_len] <;> omega) | decide) only [oK_some, q_o, loadF, ↓reduceIte, q_b, ifp, q_f, q_l, q_n, Nat.reduceEqDiff, takeD_all, iD, intsD, intssD, Nat.reduceAdd, rolD, rolC, sz_29, ag_29]
      show closeA _ _ = _
      simp (disch := first | assumption | omega | (simp [maxLen, avs_len] <;> omega) | decide) only [closeA, deep_d, deep_agg, deepL_nil, deepL_cons, Nat.reduceAdd, Nat.zero_add, D.fix, Option.map_some, Option.bind_some, List.length_cons, List.length_nil, hx]
  · have hno : p.no ≠ r.frm := by simpa using ht
    refine awp_skip (hK2 _ _ ?_)
    refine awp_seq_k fun K9 hK9 => ?_
    refine awp_seq_se KT_ok hc mixed rfl (q := 0) (by kernel_rfl) (by kernel_rfl) fun K10 hK10 => ?_
    rcases (show goodB r p = false ∨ (goodB r p = true ∧ r.pos < waveI p.chip r.wv) ∨ (goodB r p = true ∧ ¬ r.pos < waveI p.chip r.wv) from by cases goodB r p <;> simp <;> omega) with g1 | ⟨g1, g2⟩ | ⟨g1, g2⟩
    · have hx : activeG r p = { r with st := 1 } := by unfold activeG; rw [if_neg hno, if_pos]; rcases good_iff.1 g1 with h | h | h; exact .inl h; exact .inr (.inl h); exact .inr (.inr (.inl h))
      simp -dsimp -implicitDefEqProofs (disch := first | assumption | omega | (simp [maxLen, avs_len] <;> omega) | decide) only [sE_load, sE_call0, oK_some, q_o, loadF, ↓reduceIte, q_b, ifp, q_f, q_s, q_l, List.append_nil, List.replicate_zero, q_n, Nat.reduceEqDiff, takeD_all, Nat.reduceAdd, beq_f, sz_29, ag_29, sz_31, ag_31]
      refine kc_by (good_c r p) rfl ?_
      simp -dsimp -implicitDefEqProofs (disch := first | assumption | omega | (simp [maxLen, avs_len] <;> omega) | decide) only [sE_move, sE_pick, sE_un, sE_nil, oK_some, gK_f, q_o, u_not, ↓reduceIte, q_b, guardA_some, guardV_f, q_f, q_l, Nat.reduceEqDiff, killAll, Nat.reduceAdd, sE_gg, ly_load, ly_fa, ly_bin, ly_call0, nb_t, nb_f]
      refine hK10 _ _ ?_
      refine awp_cond rfl (fun ht => ?_) (fun ht => ?_)
      · refine awp_seq_s KT_ok hc rfl fun K11 hK11 => ?_
        simp -dsimp -implicitDefEqProofs (disch := first | assumption | omega | (simp [maxLen, avs_len] <;> omega) | decide) only [sT_fa, sT_store, sT_nil, oK_some, fieldAddrF, storeF, ↓reduceIte, q_b, ifp, q_f, q_l, q_s, q_a, q_n, Nat.reduceEqDiff, Nat.reduceAdd, fo_29_6, sz_3]
        refine hK11 _ _ ?_
        refine awp_seq_s KT_ok hc rfl fun K12 hK12 => ?_
        simp -dsimp -implicitDefEqProofs (disch := first | assumption | omega | (simp [maxLen, avs_len] <;> omega) | decide) only [sT_load, sT_store, sT_nil, oK_some, q_o, loadF, storeF, ↓reduceIte, q_b, ifp, q_f, q_l, q_s, q_a, AV.one, D.one, Value.oneCell', q_n, Nat.reduceEqDiff, takeD_all, Nat.reduceAdd, sz_29, ag_29]
        refine hK12 _ _ ?_
        refine awp_ret ?_
        try dsimp only [thenA, inBlockA]
        refine PostA_retc rfl ?_
        simp -dsimp -implicitDefEqProofs (disch := first | assumption | omega | (simp [maxLen, avs_len] <;> omega) | decide) only [oK_some, q_o, loadF, ↓reduceIte, q_b, ifp, q_f, q_l, q_n, Nat.reduceEqDiff, takeD_all, iD, intsD, intssD, Nat.reduceAdd, rolD, rolC, sz_29, ag_29]
        show closeA _ _ = _
        simp (disch := first | assumption | omega | (simp [maxLen, avs_len] <;> omega) | decide) only [closeA, deep_d, deep_agg, deepL_nil, deepL_cons, Nat.reduceAdd, Nat.zero_add, D.fix, Option.map_some, Option.bind_some, List.length_cons, List.length_nil, hx]
      · cases ht
    · have hx : activeG r p = { r with st := 1 } := by unfold activeG; rw [if_neg hno, if_pos]; exact .inr (.inr (.inr g2))
      simp -dsimp -implicitDefEqProofs (disch := first | assumption | omega | (simp [maxLen, avs_len] <;> omega) | decide) only [sE_load, sE_call0, oK_some, q_o, loadF, ↓reduceIte, q_b, ifp, q_f, q_s, q_l, List.append_nil, List.replicate_zero, q_n, Nat.reduceEqDiff, takeD_all, Nat.reduceAdd, beq_f, sz_29, ag_29, sz_31, ag_31]
      refine kc_by (good_c r p) rfl ?_
      simp -dsimp -implicitDefEqProofs (disch := first | assumption | omega | (simp [maxLen, avs_len] <;> omega) | decide) only [sE_move, sE_load, sE_fa, sE_un, sE_call0, oK_some, gK_t, q_o, loadF, fieldAddrF, u_not, ↓reduceIte, q_b, ifp, guardA_some, guardV_f, q_f, q_s, q_l, q_n, Nat.reduceEqDiff, takeD_all, Nat.reduceAdd, sE_gg, nb_t, nb_f, sz_29, ag_29, fo_31_0, sz_3, ag_3]
      refine kc_by (wavep_c r p.chip hr) rfl ?_
      simp -dsimp -implicitDefEqProofs (disch := first | assumption | omega | (simp [maxLen, avs_len] <;> omega) | decide) only [sE_pick, sE_load, sE_fa, sE_bin, sE_nil, oK_some, gK_t, q_o, loadF, fieldAddrF, binF_v, v_gtr, ↓reduceIte, q_b, ifp, guardA_some, guardV_f, q_f, q_l, q_n, Nat.reduceEqDiff, killAll, iD, Nat.reduceAdd, sE_gg, dec_t, nb_t, sz_3, ag_3, fo_29_4]
      refine hK10 _ _ ?_
      refine awp_cond rfl (fun ht => ?_) (fun ht => ?_)
      · refine awp_seq_s KT_ok hc rfl fun K13 hK13 => ?_
        simp -dsimp -implicitDefEqProofs (disch := first | assumption | omega | (simp [maxLen, avs_len] <;> omega) | decide) only [sT_fa, sT_store, sT_nil, oK_some, fieldAddrF, storeF, ↓reduceIte, q_b, ifp, q_f, q_l, q_s, q_a, q_n, Nat.reduceEqDiff, Nat.reduceAdd, fo_29_6, sz_3]
        refine hK13 _ _ ?_
        refine awp_seq_s KT_ok hc rfl fun K14 hK14 => ?_
        simp -dsimp -implicitDefEqProofs (disch := first | assumption | omega | (simp [maxLen, avs_len] <;> omega) | decide) only [sT_load, sT_store, sT_nil, oK_some, q_o, loadF, storeF, ↓reduceIte, q_b, ifp, q_f, q_l, q_s, q_a, AV.one, D.one, Value.oneCell', q_n, Nat.reduceEqDiff, takeD_all, Nat.reduceAdd, sz_29, ag_29]
        refine hK14 _ _ ?_
        refine awp_ret ?_
        try dsimp only [thenA, inBlockA]
        refine PostA_retc rfl ?_
        simp -dsimp -implicitDefEqProofs (disch := first | assumption | omega | (simp [maxLen, avs_len] <;> omega) | decide) only [oK_some, q_o, loadF, ↓reduceIte, q_b, ifp, q_f, q_l, q_n, Nat.reduceEqDiff, takeD_all, iD, intsD, intssD, Nat.reduceAdd, rolD, rolC, sz_29, ag_29]
        show closeA _ _ = _
        simp (disch := first | assumption | omega | (simp [maxLen, avs_len] <;> omega) | decide) only [closeA, deep_d, deep_agg, deepL_nil, deepL_cons, Nat.reduceAdd, Nat.zero_add, D.fix, Option.map_some, Option.bind_some, List.length_cons, List.length_nil, hx]
      · cases ht
    · have hgo : activeG r p = if allIn (doneS r p) (nth r.wv r.pos.toNat) = true then (if r.pos + 1 = r.wv.length then { r with dn := listS (doneS r p), pos := r.pos + 1, st := 3 } else { r with dn := listS (doneS r p), pos := r.pos + 1 }) else { r with dn := listS (doneS r p) } := by
        unfold activeG
        rw [if_neg hno, if_neg]
        rintro (h | h | h | h)
        · have := good_iff.2 (Or.inl h : p.runs = false ∨ p.same = false ∨ p.slk < r.slk); rw [g1] at this; cases this
        · have := good_iff.2 (Or.inr (.inl h) : p.runs = false ∨ p.same = false ∨ p.slk < r.slk); rw [g1] at this; cases this
        · have := good_iff.2 (Or.inr (.inr h) : p.runs = false ∨ p.same = false ∨ p.slk < r.slk); rw [g1] at this; cases this
        · exact g2 h
      have hdd : insL p.chip r.dn = listS (doneS r p) := ins_put hinc
      have hld : (listS (doneS r p)).length ≤ 1000000 := by
        have := len_done hr hd p
        simpa [listS, sortI, keysS] using this
      have hla := lens_at hr (k := r.pos.toNat) (by omega)
      simp -dsimp -implicitDefEqProofs (disch := first | assumption | omega | (simp [maxLen, avs_len] <;> omega) | decide) only [sE_load, sE_call0, oK_some, q_o, loadF, ↓reduceIte, q_b, ifp, q_f, q_s, q_l, List.append_nil, List.replicate_zero, q_n, Nat.reduceEqDiff, takeD_all, Nat.reduceAdd, beq_f, sz_29, ag_29, sz_31, ag_31]
      refine kc_by (good_c r p) rfl ?_
      simp -dsimp -implicitDefEqProofs (disch := first | assumption | omega | (simp [maxLen, avs_len] <;> omega) | decide) only [sE_move, sE_load, sE_fa, sE_un, sE_call0, oK_some, gK_t, q_o, loadF, fieldAddrF, u_not, ↓reduceIte, q_b, ifp, guardA_some, guardV_f, q_f, q_s, q_l, q_n, Nat.reduceEqDiff, takeD_all, Nat.reduceAdd, sE_gg, nb_t, nb_f, sz_29, ag_29, fo_31_0, sz_3, ag_3]
      refine kc_by (wavep_c r p.chip hr) rfl ?_
      simp -dsimp -implicitDefEqProofs (disch := first | assumption | omega | (simp [maxLen, avs_len] <;> omega) | decide) only [sE_pick, sE_load, sE_fa, sE_bin, sE_nil, oK_some, gK_t, q_o, loadF, fieldAddrF, binF_v, v_gtr, ↓reduceIte, q_b, ifp, guardA_some, guardV_f, q_f, q_l, q_n, Nat.reduceEqDiff, killAll, iD, Nat.reduceAdd, sE_gg, dec_f, nb_t, sz_3, ag_3, fo_29_4]
      refine hK10 _ _ ?_
      refine awp_cond rfl (fun ht => ?_) (fun ht => ?_)
      · cases ht
      · refine awp_skip (hK9 _ _ ?_)
        refine awp_seq_s KT_ok hc rfl fun K15 hK15 => ?_
        simp -dsimp -implicitDefEqProofs (disch := first | assumption | omega | (simp [maxLen, avs_len] <;> omega) | decide) only [sT_load, sT_fa, sT_call0, oK_some, loadF, fieldAddrF, ↓reduceIte, q_b, ifp, q_f, q_s, q_l, q_n, Nat.reduceEqDiff, Nat.reduceAdd, fo_29_5, sz_27, ag_27, fo_31_0, sz_3, ag_3]
        refine kc_by (put_c r.dn p.chip hd) rfl ?_
        simp -dsimp -implicitDefEqProofs (disch := first | assumption | omega | (simp [maxLen, avs_len] <;> omega) | decide) only [sT_fa, sT_store, sT_nil, oK_some, fieldAddrF, storeF, ↓reduceIte, q_b, ifp, q_f, q_l, q_s, as_fs, q_a, q_n, Nat.reduceEqDiff, intsD, Nat.reduceAdd, hdd, fo_29_5, sz_27]
        refine hK15 _ _ ?_
        refine awp_seq_k fun K16 hK16 => ?_
        refine awp_seq_se KT_ok hc mixed rfl (q := 0) (by kernel_rfl) (by kernel_rfl) fun K17 hK17 => ?_
        simp -dsimp -implicitDefEqProofs (disch := first | assumption | omega | (simp [maxLen, avs_len] <;> omega) | decide) only [sE_load, sE_fa, sE_ia, sE_call0, oK_some, q_o, loadF, fieldAddrF, ixO, indexAddrF, ↓reduceIte, q_b, ifp, q_f, q_s, q_l, List.append_nil, List.replicate_zero, q_n, Nat.reduceEqDiff, get_map, intsD, Nat.reduceAdd, fo_29_2, sz_26, ag_26, eo_26, fo_29_4, sz_3, ag_3, sz_27, ag_27, fo_29_5]
        refine kc_by (subset_c (nth r.wv r.pos.toNat) (listS (doneS r p)) hla hld) rfl ?_
        simp -dsimp -implicitDefEqProofs (disch := first | assumption | omega | (simp [maxLen, avs_len] <;> omega) | decide) only [sE_nil, q_f, killAll, Nat.reduceAdd, sub_list]
        refine hK17 _ _ ?_
        refine awp_cond rfl (fun ht => ?_) (fun ht => ?_)
        · have hgo2 : activeG r p = if r.pos + 1 = r.wv.length then { r with dn := listS (doneS r p), pos := r.pos + 1, st := 3 } else { r with dn := listS (doneS r p), pos := r.pos + 1 } := by rw [hgo, if_pos ht]
          refine awp_seq_s KT_ok hc rfl fun K18 hK18 => ?_
          simp -dsimp -implicitDefEqProofs (disch := first | assumption | omega | (simp [maxLen, avs_len] <;> omega) | decide) only [sT_load, sT_fa, sT_bin, sT_store, sT_nil, oK_some, q_o, loadF, fieldAddrF, binF_v, storeF, v_add, ↓reduceIte, q_b, ifp, q_f, q_l, q_s, q_a, q_n, Nat.reduceEqDiff, Nat.reduceAdd, fo_29_4, sz_3, ag_3]
          refine hK18 _ _ ?_
          refine awp_seq_s KT_ok hc rfl fun K19 hK19 => ?_
          simp -dsimp -implicitDefEqProofs (disch := first | assumption | omega | (simp [maxLen, avs_len] <;> omega) | decide) only [sT_load, sT_fa, sT_bin, sT_len, sT_nil, oK_some, q_o, loadF, fieldAddrF, binF_v, lenF, builtinF, v_eql, ↓reduceIte, q_b, ifp, q_f, q_s, q_l, q_n, Nat.reduceEqDiff, Nat.reduceAdd, fo_29_4, sz_3, ag_3, fo_29_2, sz_26, ag_26, eo_26]
          refine hK19 _ _ ?_
          refine awp_cond rfl (fun ht => ?_) (fun ht => ?_)
          · have hx : activeG r p = { r with dn := listS (doneS r p), pos := r.pos + 1, st := 3 } := by rw [hgo2, if_pos (by simpa using ht)]
            refine awp_s KT_ok hc rfl fun K20 hK20 => ?_
            simp -dsimp -implicitDefEqProofs (disch := first | assumption | omega | (simp [maxLen, avs_len] <;> omega) | decide) only [sT_fa, sT_store, sT_nil, oK_some, fieldAddrF, storeF, ↓reduceIte, q_b, ifp, q_f, q_l, q_s, q_a, q_n, Nat.reduceEqDiff, Nat.reduceAdd, fo_29_6, sz_3]
            refine hK20 _ _ (hK16 _ _ ?_)
            refine awp_seq_s KT_ok hc rfl fun K21 hK21 => ?_
            simp -dsimp -implicitDefEqProofs (disch := first | assumption | omega | (simp [maxLen, avs_len] <;> omega) | decide) only [sT_load, sT_store, sT_nil, oK_some, q_o, loadF, storeF, ↓reduceIte, q_b, ifp, q_f, q_l, q_s, q_a, AV.one, D.one, Value.oneCell', q_n, Nat.reduceEqDiff, takeD_all, Nat.reduceAdd, sz_29, ag_29]
            refine hK21 _ _ ?_
            refine awp_ret ?_
            try dsimp only [thenA, inBlockA]
            refine PostA_retc rfl ?_
            simp -dsimp -implicitDefEqProofs (disch := first | assumption | omega | (simp [maxLen, avs_len] <;> omega) | decide) only [oK_some, q_o, loadF, ↓reduceIte, q_b, ifp, q_f, q_l, q_n, Nat.reduceEqDiff, takeD_all, iD, intsD, intssD, Nat.reduceAdd, rolD, rolC, sz_29, ag_29]
            show closeA _ _ = _
            simp (disch := first | assumption | omega | (simp [maxLen, avs_len] <;> omega) | decide) only [closeA, deep_d, deep_agg, deepL_nil, deepL_cons, Nat.reduceAdd, Nat.zero_add, D.fix, Option.map_some, Option.bind_some, List.length_cons, List.length_nil, hx]
          · have hx : activeG r p = { r with dn := listS (doneS r p), pos := r.pos + 1 } := by rw [hgo2, if_neg (by simpa using ht)]
            refine awp_skip (hK16 _ _ ?_)
            refine awp_seq_s KT_ok hc rfl fun K22 hK22 => ?_
            simp -dsimp -implicitDefEqProofs (disch := first | assumption | omega | (simp [maxLen, avs_len] <;> omega) | decide) only [sT_load, sT_store, sT_nil, oK_some, q_o, loadF, storeF, ↓reduceIte, q_b, ifp, q_f, q_l, q_s, q_a, AV.one, D.one, Value.oneCell', q_n, Nat.reduceEqDiff, takeD_all, Nat.reduceAdd, sz_29, ag_29]
            refine hK22 _ _ ?_
            refine awp_ret ?_
            try dsimp only [thenA, inBlockA]
            refine PostA_retc rfl ?_
            simp -dsimp -implicitDefEqProofs (disch := first | assumption | omega | (simp [maxLen, avs_len] <;> omega) | decide) only [oK_some, q_o, loadF, ↓reduceIte, q_b, ifp, q_f, q_l, q_n, Nat.reduceEqDiff, takeD_all, iD, intsD, intssD, Nat.reduceAdd, rolD, rolC, sz_29, ag_29]
            show closeA _ _ = _
            simp (disch := first | assumption | omega | (simp [maxLen, avs_len] <;> omega) | decide) only [closeA, deep_d, deep_agg, deepL_nil, deepL_cons, Nat.reduceAdd, Nat.zero_add, D.fix, Option.map_some, Option.bind_some, List.length_cons, List.length_nil, hx]
        · have hx : activeG r p = { r with dn := listS (doneS r p) } := by rw [hgo, if_neg (by simp [ht])]
          refine awp_skip (hK16 _ _ ?_)
          refine awp_seq_s KT_ok hc rfl fun K23 hK23 => ?_
          simp -dsimp -implicitDefEqProofs (disch := first | assumption | omega | (simp [maxLen, avs_len] <;> omega) | decide) only [sT_load, sT_store, sT_nil, oK_some, q_o, loadF, storeF, ↓reduceIte, q_b, ifp, q_f, q_l, q_s, q_a, AV.one, D.one, Value.oneCell', q_n, Nat.reduceEqDiff, takeD_all, Nat.reduceAdd, sz_29, ag_29]
          refine hK23 _ _ ?_
          refine awp_ret ?_
          try dsimp only [thenA, inBlockA]
          refine PostA_retc rfl ?_
          simp -dsimp -implicitDefEqProofs (disch := first | assumption | omega | (simp [maxLen, avs_len] <;> omega) | decide) only [oK_some, q_o, loadF, ↓reduceIte, q_b, ifp, q_f, q_l, q_n, Nat.reduceEqDiff, takeD_all, iD, intsD, intssD, Nat.reduceAdd, rolD, rolC, sz_29, ag_29]
          show closeA _ _ = _
          simp (disch := first | assumption | omega | (simp [maxLen, avs_len] <;> omega) | decide) only [closeA, deep_d, deep_agg, deepL_nil, deepL_cons, Nat.reduceAdd, Nat.zero_add, D.fix, Option.map_some, Option.bind_some, List.length_cons, List.length_nil, hx]
set_option maxRecDepth 100000 in
set_option linter.unusedVariables false in
set_option maxHeartbeats 4000000 in
theorem seep_c (r : Rol) (p : Rep) (hr : SeeOk r p) (hinc : Inc r.dn) : PCalls Try.prog 22 [rolD r, repD p] (.d (gotD (seeG r p))) := by
  refine pcalls_of0 (fn := Try.f22) (by kernel_rfl) Try.func22 rfl (Nat.le_of_ble_eq_true rfl) fun c hc hp => ?_
  refine awp_less (τ' := frL [(0, .d (rolD r)), (1, .d (repD p))]) (less_cons (less_cons (less_nil _) rfl) rfl) ?_
  have hd := hr.dl
  have hsh := hr.short
  have hw1 := hsh.wl
  refine awp_seq_s KT_ok hc rfl fun K1 hK1 => ?_
  simp -dsimp -implicitDefEqProofs (disch := first | assumption | omega | (simp [maxLen, avs_len] <;> omega) | decide) only [sT_box, sT_alloc, deadH, sT_nil, oK_some, q_o, layF, ↓reduceIte, q_b, q_f, q_s, q_l, as_dagg, D.one, Value.oneCell', q_n, Nat.reduceEqDiff, map_d, avs_nil, avs_cons, iD, oD, intsD, intssD, Nat.reduceAdd, deadH, rolD, rolC, repD, repC, za_40]
  refine hK1 _ _ ?_
  refine awp_seq_k fun K2 hK2 => ?_
  refine awp_seq_s KT_ok hc rfl fun K3 hK3 => ?_
  rcases (show waveI p.chip r.wv < 0 ∨ (¬ waveI p.chip r.wv < 0 ∧ p.no = r.frm) ∨ ((¬ waveI p.chip r.wv < 0 ∧ p.no ≠ r.frm) ∧ p.no = r.to) ∨ ((¬ waveI p.chip r.wv < 0 ∧ p.no ≠ r.frm) ∧ p.no ≠ r.to) from by omega) with g1 | ⟨g1, g2⟩ | ⟨⟨g1, g2⟩, g3⟩ | ⟨⟨g1, g2⟩, g3⟩
  · have hx : seeG r p = (noRol, 510) := by simp [seeG, g1]
    simp -dsimp -implicitDefEqProofs (disch := first | assumption | omega | (simp [maxLen, avs_len] <;> omega) | decide) only [sT_load, sT_fa, sT_call0, oK_some, q_o, loadF, fieldAddrF, ↓reduceIte, q_b, ifp, q_f, q_s, q_l, q_n, Nat.reduceEqDiff, takeD_all, Nat.reduceAdd, sz_29, ag_29, fo_31_0, sz_3, ag_3]
    refine kc_by (wavep_c r p.chip hsh) rfl ?_
    simp -dsimp -implicitDefEqProofs (disch := first | assumption | omega | (simp [maxLen, avs_len] <;> omega) | decide) only [sT_move, sT_pick, sT_bin, sT_nil, sT_g, oK_some, gK_f, q_o, binF_v, v_lss, ↓reduceIte, q_b, guardA_some, guardV_f, guardV_u, q_f, q_l, Nat.reduceEqDiff, iD, dec_t, nb_f]
    refine hK3 _ _ ?_
    refine awp_cond rfl (fun ht => ?_) (fun ht => ?_)
    · refine awp_seq_s KT_ok hc rfl fun K4 hK4 => ?_
      simp -dsimp -implicitDefEqProofs (disch := first | assumption | omega | (simp [maxLen, avs_len] <;> omega) | decide) only [sT_build, sT_store, sT_nil, oK_some, q_o, buildF, storeF, ↓reduceIte, q_b, ifp, ifn, q_f, q_s, q_l, q_a, fill_cons, AV.one, D.one, Value.oneCell', q_n, Nat.reduceEqDiff, Nat.reduceAdd, pa_40, pl_40_1, sz_40, zc_40]
      refine hK4 _ _ ?_
      refine awp_ret ?_
      try dsimp only [thenA, inBlockA]
      refine PostA_retc rfl ?_
      simp -dsimp -implicitDefEqProofs (disch := first | assumption | omega | (simp [maxLen, avs_len] <;> omega) | decide) only [oK_some, q_o, loadF, ↓reduceIte, q_b, ifp, q_f, q_l, q_n, Nat.reduceEqDiff, takeD_all, Nat.reduceAdd, sz_40, ag_40]
      show closeA _ _ = _
      simp (disch := first | assumption | omega | (simp [maxLen, avs_len] <;> omega) | decide) only [List.map_nil, closeA, deep_d, deep_agg, deepL_nil, deepL_cons, Nat.reduceAdd, Nat.zero_add, D.fix, Option.map_some, Option.bind_some, List.length_cons, List.length_nil, iD, intsD, intssD, hx, gotD, noRol, List.map_nil, List.length_nil]
    · cases ht
  · have hgo : seeG r p = if r.st = 0 then (activeG r p, 0) else if r.st = 2 then (turnedG r p, 0) else (r, 0) := by simp [seeG, g1, g2]
    simp -dsimp -implicitDefEqProofs (disch := first | assumption | omega | (simp [maxLen, avs_len] <;> omega) | decide) only [sT_load, sT_fa, sT_call0, oK_some, q_o, loadF, fieldAddrF, ↓reduceIte, q_b, ifp, q_f, q_s, q_l, q_n, Nat.reduceEqDiff, takeD_all, Nat.reduceAdd, sz_29, ag_29, fo_31_0, sz_3, ag_3]
    refine kc_by (wavep_c r p.chip hsh) rfl ?_
    simp -dsimp -implicitDefEqProofs (disch := first | assumption | omega | (simp [maxLen, avs_len] <;> omega) | decide) only [sT_move, sT_pick, sT_load, sT_fa, sT_bin, sT_nil, sT_g, oK_some, gK_t, gK_f, q_o, loadF, fieldAddrF, binF_v, v_neq, v_lss, ↓reduceIte, q_b, ifp, guardA_some, guardV_t, guardV_f, q_f, q_l, q_n, Nat.reduceEqDiff, iD, Nat.reduceAdd, dec_f, bne_f, nb_t, sz_3, ag_3, fo_31_1, fo_29_0]
    refine hK3 _ _ ?_
    refine awp_cond rfl (fun ht => ?_) (fun ht => ?_)
    · cases ht
    · refine awp_skip (hK2 _ _ ?_)
      refine awp_seq_k fun K5 hK5 => ?_
      refine awp_seq_s KT_ok hc rfl fun K6 hK6 => ?_
      simp -dsimp -implicitDefEqProofs (disch := first | assumption | omega | (simp [maxLen, avs_len] <;> omega) | decide) only [sT_load, sT_fa, sT_bin, sT_nil, oK_some, q_o, loadF, fieldAddrF, binF_v, v_eql, ↓reduceIte, q_b, ifp, q_f, q_l, q_n, Nat.reduceEqDiff, Nat.reduceAdd, fo_29_6, sz_3, ag_3]
      refine hK6 _ _ ?_
      refine awp_cond rfl (fun ht => ?_) (fun ht => ?_)
      · have hst : r.st = 0 := by simpa using ht
        have hpo := hr.pos (.inl hst)
        have hx : seeG r p = (activeG r p, 0) := by rw [hgo, if_pos hst]
        refine awp_seq_s KT_ok hc rfl fun K7 hK7 => ?_
        simp -dsimp -implicitDefEqProofs (disch := first | assumption | omega | (simp [maxLen, avs_len] <;> omega) | decide) only [sT_load, sT_call0, oK_some, q_o, loadF, ↓reduceIte, q_b, ifp, q_f, q_s, q_l, q_n, Nat.reduceEqDiff, takeD_all, Nat.reduceAdd, sz_29, ag_29, sz_31, ag_31]
        refine kc_by (activep_c r p hsh hinc hd hpo.1 hpo.2) rfl ?_
        simp -dsimp -implicitDefEqProofs (disch := first | assumption | omega | (simp [maxLen, avs_len] <;> omega) | decide) only [sT_build, sT_store, sT_nil, oK_some, q_o, buildF, storeF, ↓reduceIte, q_b, ifp, ifn, q_f, q_s, q_l, q_a, fill_cons, as_dagg, AV.one, D.one, Value.oneCell', q_n, Nat.reduceEqDiff, iD, intsD, intssD, Nat.reduceAdd, rolD, rolC, pa_40, pl_40_0, sz_40, zc_40]
        refine hK7 _ _ ?_
        refine awp_ret ?_
        try dsimp only [thenA, inBlockA]
        refine PostA_retc rfl ?_
        simp -dsimp -implicitDefEqProofs (disch := first | assumption | omega | (simp [maxLen, avs_len] <;> omega) | decide) only [oK_some, q_o, loadF, ↓reduceIte, q_b, ifp, q_f, q_l, q_n, Nat.reduceEqDiff, takeD_all, Nat.reduceAdd, sz_40, ag_40]
        show closeA _ _ = _
        simp (disch := first | assumption | omega | (simp [maxLen, avs_len] <;> omega) | decide) only [closeA, deep_d, deep_agg, deepL_nil, deepL_cons, Nat.reduceAdd, Nat.zero_add, D.fix, Option.map_some, Option.bind_some, List.length_cons, List.length_nil, iD, intsD, intssD, hx, gotD, List.length_nil]
      · have hst : r.st ≠ 0 := by simpa using ht
        refine awp_skip (hK5 _ _ ?_)
        refine awp_seq_k fun K8 hK8 => ?_
        refine awp_seq_se KT_ok hc mixed rfl (q := 0) (by kernel_rfl) (by kernel_rfl) fun K9 hK9 => ?_
        rcases (show r.st ≠ 2 ∨ (r.st = 2 ∧ p.no ≠ r.frm) ∨ ((r.st = 2 ∧ p.no = r.frm) ∧ p.runs = false) ∨ ((r.st = 2 ∧ p.no = r.frm) ∧ p.runs = true ∧ ¬ waveI p.chip r.wv ≤ r.pos) ∨ ((r.st = 2 ∧ p.no = r.frm) ∧ p.runs = true ∧ waveI p.chip r.wv ≤ r.pos) from by cases p.runs <;> simp <;> omega) with k1 | ⟨k1, k2⟩ | ⟨⟨k1, k2⟩, k3⟩ | ⟨⟨k1, k2⟩, k3, k4⟩ | ⟨⟨k1, k2⟩, k3, k4⟩
        · obtain ⟨br, kr⟩ : ∃ b, p.runs = b := ⟨_, rfl⟩
          have hx : seeG r p = (r, 0) := by rw [hgo, if_neg hst, if_neg k1]
          simp -dsimp -implicitDefEqProofs (disch := first | assumption | omega | (simp [maxLen, avs_len] <;> omega) | decide) only [sE_move, sE_pick, sE_load, sE_fa, sE_bin, sE_nil, oK_some, gK_f, q_o, loadF, fieldAddrF, binF_v, v_eql, ↓reduceIte, q_b, ifp, guardA_some, guardV_t, q_f, q_l, List.append_nil, List.replicate_zero, q_n, Nat.reduceEqDiff, killAll, Nat.reduceAdd, sE_gg, ly_load, ly_fa, ly_bin, ly_call0, beq_f, kr, fo_29_6, sz_3, ag_3]
          refine hK9 _ _ ?_
          refine awp_cond rfl (fun ht => ?_) (fun ht => ?_)
          · cases ht
          · refine awp_skip (hK8 _ _ ?_)
            refine awp_seq_s KT_ok hc rfl fun K10 hK10 => ?_
            simp -dsimp -implicitDefEqProofs (disch := first | assumption | omega | (simp [maxLen, avs_len] <;> omega) | decide) only [sT_load, sT_build, sT_store, sT_nil, oK_some, q_o, loadF, buildF, storeF, ↓reduceIte, q_b, ifp, ifn, q_f, q_s, q_l, q_a, fill_cons, AV.one, D.one, Value.oneCell', q_n, Nat.reduceEqDiff, takeD_all, Nat.reduceAdd, sz_29, ag_29, pa_40, pl_40_0, sz_40, zc_40]
            refine hK10 _ _ ?_
            refine awp_ret ?_
            try dsimp only [thenA, inBlockA]
            refine PostA_retc rfl ?_
            simp -dsimp -implicitDefEqProofs (disch := first | assumption | omega | (simp [maxLen, avs_len] <;> omega) | decide) only [oK_some, q_o, loadF, ↓reduceIte, q_b, ifp, q_f, q_l, q_n, Nat.reduceEqDiff, takeD_all, Nat.reduceAdd, sz_40, ag_40]
            show closeA _ _ = _
            simp (disch := first | assumption | omega | (simp [maxLen, avs_len] <;> omega) | decide) only [closeA, deep_d, deep_agg, deepL_nil, deepL_cons, Nat.reduceAdd, Nat.zero_add, D.fix, Option.map_some, Option.bind_some, List.length_cons, List.length_nil, iD, intsD, intssD, hx, gotD, List.length_nil]
        · exact absurd g2 k2
        · have kr := k3
          have hx : seeG r p = (r, 0) := by rw [hgo, if_neg hst, if_pos k1]; simp [turnedG, k3]
          simp -dsimp -implicitDefEqProofs (disch := first | assumption | omega | (simp [maxLen, avs_len] <;> omega) | decide) only [sE_move, sE_pick, sE_load, sE_fa, sE_bin, sE_nil, oK_some, gK_t, gK_f, q_o, loadF, fieldAddrF, binF_v, v_eql, ↓reduceIte, q_b, ifp, guardA_some, guardV_t, q_f, q_l, List.append_nil, List.replicate_zero, q_n, Nat.reduceEqDiff, killAll, Nat.reduceAdd, sE_gg, ly_load, ly_fa, ly_bin, ly_call0, beq_t, beq_f, kr, fo_29_6, sz_3, ag_3, fo_31_1, fo_29_0, fo_31_4, sz_4, ag_4]
          refine hK9 _ _ ?_
          refine awp_cond rfl (fun ht => ?_) (fun ht => ?_)
          · cases ht
          · refine awp_skip (hK8 _ _ ?_)
            refine awp_seq_s KT_ok hc rfl fun K11 hK11 => ?_
            simp -dsimp -implicitDefEqProofs (disch := first | assumption | omega | (simp [maxLen, avs_len] <;> omega) | decide) only [sT_load, sT_build, sT_store, sT_nil, oK_some, q_o, loadF, buildF, storeF, ↓reduceIte, q_b, ifp, ifn, q_f, q_s, q_l, q_a, fill_cons, AV.one, D.one, Value.oneCell', q_n, Nat.reduceEqDiff, takeD_all, Nat.reduceAdd, sz_29, ag_29, pa_40, pl_40_0, sz_40, zc_40]
            refine hK11 _ _ ?_
            refine awp_ret ?_
            try dsimp only [thenA, inBlockA]
            refine PostA_retc rfl ?_
            simp -dsimp -implicitDefEqProofs (disch := first | assumption | omega | (simp [maxLen, avs_len] <;> omega) | decide) only [oK_some, q_o, loadF, ↓reduceIte, q_b, ifp, q_f, q_l, q_n, Nat.reduceEqDiff, takeD_all, Nat.reduceAdd, sz_40, ag_40]
            show closeA _ _ = _
            simp (disch := first | assumption | omega | (simp [maxLen, avs_len] <;> omega) | decide) only [closeA, deep_d, deep_agg, deepL_nil, deepL_cons, Nat.reduceAdd, Nat.zero_add, D.fix, Option.map_some, Option.bind_some, List.length_cons, List.length_nil, iD, intsD, intssD, hx, gotD, List.length_nil]
        · have kr := k3
          have hx : seeG r p = (r, 0) := by rw [hgo, if_neg hst, if_pos k1]; simp [turnedG, show r.pos < waveI p.chip r.wv by omega]
          simp -dsimp -implicitDefEqProofs (disch := first | assumption | omega | (simp [maxLen, avs_len] <;> omega) | decide) only [sE_move, sE_pick, sE_load, sE_fa, sE_bin, sE_call0, oK_some, gK_t, q_o, loadF, fieldAddrF, binF_v, v_eql, ↓reduceIte, q_b, ifp, guardA_some, guardV_t, q_f, q_s, q_l, List.append_nil, List.replicate_zero, q_n, Nat.reduceEqDiff, takeD_all, Nat.reduceAdd, sE_gg, beq_t, beq_f, kr, fo_29_6, sz_29, ag_29, sz_3, ag_3, fo_31_1, fo_29_0, fo_31_4, sz_4, ag_4, fo_31_0]
          refine kc_by (wavep_c r p.chip hsh) rfl ?_
          simp -dsimp -implicitDefEqProofs (disch := first | assumption | omega | (simp [maxLen, avs_len] <;> omega) | decide) only [sE_pick, sE_load, sE_fa, sE_bin, sE_nil, oK_some, gK_t, q_o, loadF, fieldAddrF, binF_v, v_leq, ↓reduceIte, q_b, ifp, guardA_some, guardV_t, q_f, q_l, q_n, Nat.reduceEqDiff, killAll, iD, Nat.reduceAdd, sE_gg, dec_f, sz_3, ag_3, fo_29_4]
          refine hK9 _ _ ?_
          refine awp_cond rfl (fun ht => ?_) (fun ht => ?_)
          · cases ht
          · refine awp_skip (hK8 _ _ ?_)
            refine awp_seq_s KT_ok hc rfl fun K12 hK12 => ?_
            simp -dsimp -implicitDefEqProofs (disch := first | assumption | omega | (simp [maxLen, avs_len] <;> omega) | decide) only [sT_load, sT_build, sT_store, sT_nil, oK_some, q_o, loadF, buildF, storeF, ↓reduceIte, q_b, ifp, ifn, q_f, q_s, q_l, q_a, fill_cons, AV.one, D.one, Value.oneCell', q_n, Nat.reduceEqDiff, takeD_all, Nat.reduceAdd, sz_29, ag_29, pa_40, pl_40_0, sz_40, zc_40]
            refine hK12 _ _ ?_
            refine awp_ret ?_
            try dsimp only [thenA, inBlockA]
            refine PostA_retc rfl ?_
            simp -dsimp -implicitDefEqProofs (disch := first | assumption | omega | (simp [maxLen, avs_len] <;> omega) | decide) only [oK_some, q_o, loadF, ↓reduceIte, q_b, ifp, q_f, q_l, q_n, Nat.reduceEqDiff, takeD_all, Nat.reduceAdd, sz_40, ag_40]
            show closeA _ _ = _
            simp (disch := first | assumption | omega | (simp [maxLen, avs_len] <;> omega) | decide) only [closeA, deep_d, deep_agg, deepL_nil, deepL_cons, Nat.reduceAdd, Nat.zero_add, D.fix, Option.map_some, Option.bind_some, List.length_cons, List.length_nil, iD, intsD, intssD, hx, gotD, List.length_nil]
        · have kr := k3
          have hgo2 : seeG r p = ((if allIn (doneS r p) (uptoL r (r.pos + 1)) = true then { r with dn := listS (doneS r p), st := 4 } else { r with dn := listS (doneS r p) }), 0) := by rw [hgo, if_neg hst, if_pos k1]; simp [turnedG, k2, k3, show ¬ r.pos < waveI p.chip r.wv by omega]
          have hpo := hr.pos (.inr k1)
          have hdd : insL p.chip r.dn = listS (doneS r p) := ins_put hinc
          have hld : (listS (doneS r p)).length ≤ 1000000 := by
            have := len_done hsh hd p
            simpa [listS, sortI, keysS] using this
          simp -dsimp -implicitDefEqProofs (disch := first | assumption | omega | (simp [maxLen, avs_len] <;> omega) | decide) only [sE_move, sE_pick, sE_load, sE_fa, sE_bin, sE_call0, oK_some, gK_t, q_o, loadF, fieldAddrF, binF_v, v_eql, ↓reduceIte, q_b, ifp, guardA_some, guardV_t, q_f, q_s, q_l, List.append_nil, List.replicate_zero, q_n, Nat.reduceEqDiff, takeD_all, Nat.reduceAdd, sE_gg, beq_t, beq_f, kr, fo_29_6, sz_29, ag_29, sz_3, ag_3, fo_31_1, fo_29_0, fo_31_4, sz_4, ag_4, fo_31_0]
          refine kc_by (wavep_c r p.chip hsh) rfl ?_
          simp -dsimp -implicitDefEqProofs (disch := first | assumption | omega | (simp [maxLen, avs_len] <;> omega) | decide) only [sE_pick, sE_load, sE_fa, sE_bin, sE_nil, oK_some, gK_t, q_o, loadF, fieldAddrF, binF_v, v_leq, ↓reduceIte, q_b, ifp, guardA_some, guardV_t, q_f, q_l, q_n, Nat.reduceEqDiff, killAll, iD, Nat.reduceAdd, sE_gg, dec_t, sz_3, ag_3, fo_29_4]
          refine hK9 _ _ ?_
          refine awp_cond rfl (fun ht => ?_) (fun ht => ?_)
          · refine awp_seq_s KT_ok hc rfl fun K13 hK13 => ?_
            simp -dsimp -implicitDefEqProofs (disch := first | assumption | omega | (simp [maxLen, avs_len] <;> omega) | decide) only [sT_load, sT_fa, sT_call0, oK_some, loadF, fieldAddrF, ↓reduceIte, q_b, ifp, q_f, q_s, q_l, q_n, Nat.reduceEqDiff, Nat.reduceAdd, fo_29_5, sz_27, ag_27, fo_31_0, sz_3, ag_3]
            refine kc_by (put_c r.dn p.chip hd) rfl ?_
            simp -dsimp -implicitDefEqProofs (disch := first | assumption | omega | (simp [maxLen, avs_len] <;> omega) | decide) only [sT_fa, sT_store, sT_nil, oK_some, fieldAddrF, storeF, ↓reduceIte, q_b, ifp, q_f, q_l, q_s, as_fs, q_a, q_n, Nat.reduceEqDiff, intsD, Nat.reduceAdd, hdd, fo_29_5, sz_27]
            refine hK13 _ _ ?_
            refine awp_seq_se KT_ok hc mixed rfl (q := 0) (by kernel_rfl) (by kernel_rfl) fun K14 hK14 => ?_
            simp -dsimp -implicitDefEqProofs (disch := first | assumption | omega | (simp [maxLen, avs_len] <;> omega) | decide) only [sE_load, sE_fa, sE_bin, sE_call0, oK_some, q_o, loadF, fieldAddrF, binF_v, v_add, ↓reduceIte, q_b, ifp, q_f, q_s, q_l, List.append_nil, List.replicate_zero, q_n, Nat.reduceEqDiff, takeD_all, Nat.reduceAdd, sz_29, ag_29, fo_29_4, sz_3, ag_3]
            refine kc_by (show PCalls Try.prog 30 [rolD { r with dn := listS (doneS r p) }, iD (r.pos + 1)] (.d (intsD (srtL (uptoL r (r.pos + 1))))) from uptop_c { r with dn := listS (doneS r p) } (r.pos + 1) ⟨hsh.wl, hsh.ws, hld⟩) rfl ?_
            simp -dsimp -implicitDefEqProofs (disch := first | assumption | omega | (simp [maxLen, avs_len] <;> omega) | decide) only [sE_load, sE_fa, sE_call0, oK_some, loadF, fieldAddrF, ↓reduceIte, q_b, ifp, q_f, q_s, q_l, q_n, Nat.reduceEqDiff, intsD, Nat.reduceAdd, fo_29_5, sz_27, ag_27]
            refine kc_by (subset_c (srtL (uptoL r (r.pos + 1))) (listS (doneS r p)) (upto_srt_len hsh _) hld) rfl ?_
            simp -dsimp -implicitDefEqProofs (disch := first | assumption | omega | (simp [maxLen, avs_len] <;> omega) | decide) only [sE_nil, q_f, killAll, Nat.reduceAdd, sub_list, allIn_srt]
            refine hK14 _ _ ?_
            refine awp_cond rfl (fun ht => ?_) (fun ht => ?_)
            · have hx : seeG r p = ({ r with dn := listS (doneS r p), st := 4 }, 0) := by rw [hgo2, if_pos ht]
              refine awp_s KT_ok hc rfl fun K15 hK15 => ?_
              simp -dsimp -implicitDefEqProofs (disch := first | assumption | omega | (simp [maxLen, avs_len] <;> omega) | decide) only [sT_fa, sT_store, sT_nil, oK_some, fieldAddrF, storeF, ↓reduceIte, q_b, ifp, q_f, q_l, q_s, q_a, q_n, Nat.reduceEqDiff, Nat.reduceAdd, fo_29_6, sz_3]
              refine hK15 _ _ (hK8 _ _ ?_)
              refine awp_seq_s KT_ok hc rfl fun K16 hK16 => ?_
              simp -dsimp -implicitDefEqProofs (disch := first | assumption | omega | (simp [maxLen, avs_len] <;> omega) | decide) only [sT_load, sT_build, sT_store, sT_nil, oK_some, q_o, loadF, buildF, storeF, ↓reduceIte, q_b, ifp, ifn, q_f, q_s, q_l, q_a, fill_cons, AV.one, D.one, Value.oneCell', q_n, Nat.reduceEqDiff, takeD_all, Nat.reduceAdd, sz_29, ag_29, pa_40, pl_40_0, sz_40, zc_40]
              refine hK16 _ _ ?_
              refine awp_ret ?_
              try dsimp only [thenA, inBlockA]
              refine PostA_retc rfl ?_
              simp -dsimp -implicitDefEqProofs (disch := first | assumption | omega | (simp [maxLen, avs_len] <;> omega) | decide) only [oK_some, q_o, loadF, ↓reduceIte, q_b, ifp, q_f, q_l, q_n, Nat.reduceEqDiff, takeD_all, Nat.reduceAdd, sz_40, ag_40]
              show closeA _ _ = _
              simp (disch := first | assumption | omega | (simp [maxLen, avs_len] <;> omega) | decide) only [closeA, deep_d, deep_agg, deepL_nil, deepL_cons, Nat.reduceAdd, Nat.zero_add, D.fix, Option.map_some, Option.bind_some, List.length_cons, List.length_nil, iD, intsD, intssD, hx, gotD, List.length_nil]
            · have hx : seeG r p = ({ r with dn := listS (doneS r p) }, 0) := by rw [hgo2, if_neg (by simp [ht])]
              refine awp_skip (hK8 _ _ ?_)
              refine awp_seq_s KT_ok hc rfl fun K17 hK17 => ?_
              simp -dsimp -implicitDefEqProofs (disch := first | assumption | omega | (simp [maxLen, avs_len] <;> omega) | decide) only [sT_load, sT_build, sT_store, sT_nil, oK_some, q_o, loadF, buildF, storeF, ↓reduceIte, q_b, ifp, ifn, q_f, q_s, q_l, q_a, fill_cons, AV.one, D.one, Value.oneCell', q_n, Nat.reduceEqDiff, takeD_all, Nat.reduceAdd, sz_29, ag_29, pa_40, pl_40_0, sz_40, zc_40]
              refine hK17 _ _ ?_
              refine awp_ret ?_
              try dsimp only [thenA, inBlockA]
              refine PostA_retc rfl ?_
              simp -dsimp -implicitDefEqProofs (disch := first | assumption | omega | (simp [maxLen, avs_len] <;> omega) | decide) only [oK_some, q_o, loadF, ↓reduceIte, q_b, ifp, q_f, q_l, q_n, Nat.reduceEqDiff, takeD_all, Nat.reduceAdd, sz_40, ag_40]
              show closeA _ _ = _
              simp (disch := first | assumption | omega | (simp [maxLen, avs_len] <;> omega) | decide) only [closeA, deep_d, deep_agg, deepL_nil, deepL_cons, Nat.reduceAdd, Nat.zero_add, D.fix, Option.map_some, Option.bind_some, List.length_cons, List.length_nil, iD, intsD, intssD, hx, gotD, List.length_nil]
          · cases ht
  · have hgo : seeG r p = if r.st = 0 then (activeG r p, 0) else if r.st = 2 then (turnedG r p, 0) else (r, 0) := by simp [seeG, g1, g3]
    simp -dsimp -implicitDefEqProofs (disch := first | assumption | omega | (simp [maxLen, avs_len] <;> omega) | decide) only [sT_load, sT_fa, sT_call0, oK_some, q_o, loadF, fieldAddrF, ↓reduceIte, q_b, ifp, q_f, q_s, q_l, q_n, Nat.reduceEqDiff, takeD_all, Nat.reduceAdd, sz_29, ag_29, fo_31_0, sz_3, ag_3]
    refine kc_by (wavep_c r p.chip hsh) rfl ?_
    simp -dsimp -implicitDefEqProofs (disch := first | assumption | omega | (simp [maxLen, avs_len] <;> omega) | decide) only [sT_move, sT_pick, sT_load, sT_fa, sT_bin, sT_nil, sT_g, oK_some, gK_t, q_o, loadF, fieldAddrF, binF_v, v_neq, v_lss, ↓reduceIte, q_b, ifp, guardA_some, guardV_t, guardV_f, q_f, q_l, q_n, Nat.reduceEqDiff, iD, Nat.reduceAdd, dec_f, bne_t, bne_f, nb_t, sz_3, ag_3, fo_31_1, fo_29_0, fo_29_1]
    refine hK3 _ _ ?_
    refine awp_cond rfl (fun ht => ?_) (fun ht => ?_)
    · cases ht
    · refine awp_skip (hK2 _ _ ?_)
      refine awp_seq_k fun K18 hK18 => ?_
      refine awp_seq_s KT_ok hc rfl fun K19 hK19 => ?_
      simp -dsimp -implicitDefEqProofs (disch := first | assumption | omega | (simp [maxLen, avs_len] <;> omega) | decide) only [sT_load, sT_fa, sT_bin, sT_nil, oK_some, q_o, loadF, fieldAddrF, binF_v, v_eql, ↓reduceIte, q_b, ifp, q_f, q_l, q_n, Nat.reduceEqDiff, Nat.reduceAdd, fo_29_6, sz_3, ag_3]
      refine hK19 _ _ ?_
      refine awp_cond rfl (fun ht => ?_) (fun ht => ?_)
      · have hst : r.st = 0 := by simpa using ht
        have hpo := hr.pos (.inl hst)
        have hx : seeG r p = (activeG r p, 0) := by rw [hgo, if_pos hst]
        refine awp_seq_s KT_ok hc rfl fun K20 hK20 => ?_
        simp -dsimp -implicitDefEqProofs (disch := first | assumption | omega | (simp [maxLen, avs_len] <;> omega) | decide) only [sT_load, sT_call0, oK_some, q_o, loadF, ↓reduceIte, q_b, ifp, q_f, q_s, q_l, q_n, Nat.reduceEqDiff, takeD_all, Nat.reduceAdd, sz_29, ag_29, sz_31, ag_31]
        refine kc_by (activep_c r p hsh hinc hd hpo.1 hpo.2) rfl ?_
        simp -dsimp -implicitDefEqProofs (disch := first | assumption | omega | (simp [maxLen, avs_len] <;> omega) | decide) only [sT_build, sT_store, sT_nil, oK_some, q_o, buildF, storeF, ↓reduceIte, q_b, ifp, ifn, q_f, q_s, q_l, q_a, fill_cons, as_dagg, AV.one, D.one, Value.oneCell', q_n, Nat.reduceEqDiff, iD, intsD, intssD, Nat.reduceAdd, rolD, rolC, pa_40, pl_40_0, sz_40, zc_40]
        refine hK20 _ _ ?_
        refine awp_ret ?_
        try dsimp only [thenA, inBlockA]
        refine PostA_retc rfl ?_
        simp -dsimp -implicitDefEqProofs (disch := first | assumption | omega | (simp [maxLen, avs_len] <;> omega) | decide) only [oK_some, q_o, loadF, ↓reduceIte, q_b, ifp, q_f, q_l, q_n, Nat.reduceEqDiff, takeD_all, Nat.reduceAdd, sz_40, ag_40]
        show closeA _ _ = _
        simp (disch := first | assumption | omega | (simp [maxLen, avs_len] <;> omega) | decide) only [closeA, deep_d, deep_agg, deepL_nil, deepL_cons, Nat.reduceAdd, Nat.zero_add, D.fix, Option.map_some, Option.bind_some, List.length_cons, List.length_nil, iD, intsD, intssD, hx, gotD, List.length_nil]
      · have hst : r.st ≠ 0 := by simpa using ht
        refine awp_skip (hK18 _ _ ?_)
        refine awp_seq_k fun K21 hK21 => ?_
        refine awp_seq_se KT_ok hc mixed rfl (q := 0) (by kernel_rfl) (by kernel_rfl) fun K22 hK22 => ?_
        rcases (show r.st ≠ 2 ∨ (r.st = 2 ∧ p.no ≠ r.frm) ∨ ((r.st = 2 ∧ p.no = r.frm) ∧ p.runs = false) ∨ ((r.st = 2 ∧ p.no = r.frm) ∧ p.runs = true ∧ ¬ waveI p.chip r.wv ≤ r.pos) ∨ ((r.st = 2 ∧ p.no = r.frm) ∧ p.runs = true ∧ waveI p.chip r.wv ≤ r.pos) from by cases p.runs <;> simp <;> omega) with k1 | ⟨k1, k2⟩ | ⟨⟨k1, k2⟩, k3⟩ | ⟨⟨k1, k2⟩, k3, k4⟩ | ⟨⟨k1, k2⟩, k3, k4⟩
        · obtain ⟨br, kr⟩ : ∃ b, p.runs = b := ⟨_, rfl⟩
          have hx : seeG r p = (r, 0) := by rw [hgo, if_neg hst, if_neg k1]
          simp -dsimp -implicitDefEqProofs (disch := first | assumption | omega | (simp [maxLen, avs_len] <;> omega) | decide) only [sE_move, sE_pick, sE_load, sE_fa, sE_bin, sE_nil, oK_some, gK_f, q_o, loadF, fieldAddrF, binF_v, v_eql, ↓reduceIte, q_b, ifp, guardA_some, guardV_t, q_f, q_l, List.append_nil, List.replicate_zero, q_n, Nat.reduceEqDiff, killAll, Nat.reduceAdd, sE_gg, ly_load, ly_fa, ly_bin, ly_call0, beq_f, kr, fo_29_6, sz_3, ag_3]
          refine hK22 _ _ ?_
          refine awp_cond rfl (fun ht => ?_) (fun ht => ?_)
          · cases ht
          · refine awp_skip (hK21 _ _ ?_)
            refine awp_seq_s KT_ok hc rfl fun K23 hK23 => ?_
            simp -dsimp -implicitDefEqProofs (disch := first | assumption | omega | (simp [maxLen, avs_len] <;> omega) | decide) only [sT_load, sT_build, sT_store, sT_nil, oK_some, q_o, loadF, buildF, storeF, ↓reduceIte, q_b, ifp, ifn, q_f, q_s, q_l, q_a, fill_cons, AV.one, D.one, Value.oneCell', q_n, Nat.reduceEqDiff, takeD_all, Nat.reduceAdd, sz_29, ag_29, pa_40, pl_40_0, sz_40, zc_40]
            refine hK23 _ _ ?_
            refine awp_ret ?_
            try dsimp only [thenA, inBlockA]
            refine PostA_retc rfl ?_
            simp -dsimp -implicitDefEqProofs (disch := first | assumption | omega | (simp [maxLen, avs_len] <;> omega) | decide) only [oK_some, q_o, loadF, ↓reduceIte, q_b, ifp, q_f, q_l, q_n, Nat.reduceEqDiff, takeD_all, Nat.reduceAdd, sz_40, ag_40]
            show closeA _ _ = _
            simp (disch := first | assumption | omega | (simp [maxLen, avs_len] <;> omega) | decide) only [closeA, deep_d, deep_agg, deepL_nil, deepL_cons, Nat.reduceAdd, Nat.zero_add, D.fix, Option.map_some, Option.bind_some, List.length_cons, List.length_nil, iD, intsD, intssD, hx, gotD, List.length_nil]
        · obtain ⟨br, kr⟩ : ∃ b, p.runs = b := ⟨_, rfl⟩
          have hx : seeG r p = (r, 0) := by rw [hgo, if_neg hst, if_pos k1]; simp [turnedG, k2]
          simp -dsimp -implicitDefEqProofs (disch := first | assumption | omega | (simp [maxLen, avs_len] <;> omega) | decide) only [sE_move, sE_pick, sE_load, sE_fa, sE_bin, sE_nil, oK_some, gK_t, gK_f, q_o, loadF, fieldAddrF, binF_v, v_eql, ↓reduceIte, q_b, ifp, guardA_some, guardV_t, q_f, q_l, List.append_nil, List.replicate_zero, q_n, Nat.reduceEqDiff, killAll, Nat.reduceAdd, sE_gg, ly_load, ly_fa, ly_bin, ly_call0, beq_t, beq_f, kr, fo_29_6, sz_3, ag_3, fo_31_1, fo_29_0]
          refine hK22 _ _ ?_
          refine awp_cond rfl (fun ht => ?_) (fun ht => ?_)
          · cases ht
          · refine awp_skip (hK21 _ _ ?_)
            refine awp_seq_s KT_ok hc rfl fun K24 hK24 => ?_
            simp -dsimp -implicitDefEqProofs (disch := first | assumption | omega | (simp [maxLen, avs_len] <;> omega) | decide) only [sT_load, sT_build, sT_store, sT_nil, oK_some, q_o, loadF, buildF, storeF, ↓reduceIte, q_b, ifp, ifn, q_f, q_s, q_l, q_a, fill_cons, AV.one, D.one, Value.oneCell', q_n, Nat.reduceEqDiff, takeD_all, Nat.reduceAdd, sz_29, ag_29, pa_40, pl_40_0, sz_40, zc_40]
            refine hK24 _ _ ?_
            refine awp_ret ?_
            try dsimp only [thenA, inBlockA]
            refine PostA_retc rfl ?_
            simp -dsimp -implicitDefEqProofs (disch := first | assumption | omega | (simp [maxLen, avs_len] <;> omega) | decide) only [oK_some, q_o, loadF, ↓reduceIte, q_b, ifp, q_f, q_l, q_n, Nat.reduceEqDiff, takeD_all, Nat.reduceAdd, sz_40, ag_40]
            show closeA _ _ = _
            simp (disch := first | assumption | omega | (simp [maxLen, avs_len] <;> omega) | decide) only [closeA, deep_d, deep_agg, deepL_nil, deepL_cons, Nat.reduceAdd, Nat.zero_add, D.fix, Option.map_some, Option.bind_some, List.length_cons, List.length_nil, iD, intsD, intssD, hx, gotD, List.length_nil]
        · exact absurd k2 g2
        · exact absurd k2 g2
        · exact absurd k2 g2
  · have hx : seeG r p = (noRol, 510) := by simp [seeG, g2, g3]
    simp -dsimp -implicitDefEqProofs (disch := first | assumption | omega | (simp [maxLen, avs_len] <;> omega) | decide) only [sT_load, sT_fa, sT_call0, oK_some, q_o, loadF, fieldAddrF, ↓reduceIte, q_b, ifp, q_f, q_s, q_l, q_n, Nat.reduceEqDiff, takeD_all, Nat.reduceAdd, sz_29, ag_29, fo_31_0, sz_3, ag_3]
    refine kc_by (wavep_c r p.chip hsh) rfl ?_
    simp -dsimp -implicitDefEqProofs (disch := first | assumption | omega | (simp [maxLen, avs_len] <;> omega) | decide) only [sT_move, sT_pick, sT_load, sT_fa, sT_bin, sT_nil, sT_g, oK_some, gK_t, q_o, loadF, fieldAddrF, binF_v, v_neq, v_lss, ↓reduceIte, q_b, ifp, guardA_some, guardV_t, guardV_f, q_f, q_l, q_n, Nat.reduceEqDiff, iD, Nat.reduceAdd, dec_f, bne_t, nb_t, sz_3, ag_3, fo_31_1, fo_29_0, fo_29_1]
    refine hK3 _ _ ?_
    refine awp_cond rfl (fun ht => ?_) (fun ht => ?_)
    · refine awp_seq_s KT_ok hc rfl fun K25 hK25 => ?_
      simp -dsimp -implicitDefEqProofs (disch := first | assumption | omega | (simp [maxLen, avs_len] <;> omega) | decide) only [sT_build, sT_store, sT_nil, oK_some, q_o, buildF, storeF, ↓reduceIte, q_b, ifp, ifn, q_f, q_s, q_l, q_a, fill_cons, AV.one, D.one, Value.oneCell', q_n, Nat.reduceEqDiff, Nat.reduceAdd, pa_40, pl_40_1, sz_40, zc_40]
      refine hK25 _ _ ?_
      refine awp_ret ?_
      try dsimp only [thenA, inBlockA]
      refine PostA_retc rfl ?_
      simp -dsimp -implicitDefEqProofs (disch := first | assumption | omega | (simp [maxLen, avs_len] <;> omega) | decide) only [oK_some, q_o, loadF, ↓reduceIte, q_b, ifp, q_f, q_l, q_n, Nat.reduceEqDiff, takeD_all, Nat.reduceAdd, sz_40, ag_40]
      show closeA _ _ = _
      simp (disch := first | assumption | omega | (simp [maxLen, avs_len] <;> omega) | decide) only [List.map_nil, closeA, deep_d, deep_agg, deepL_nil, deepL_cons, Nat.reduceAdd, Nat.zero_add, D.fix, Option.map_some, Option.bind_some, List.length_cons, List.length_nil, iD, intsD, intssD, hx, gotD, noRol, List.map_nil, List.length_nil]
    · cases ht
end Go.Proofs.Ytinefghmmbggeaa

/- Same, and the law's helpers. -/
set_option linter.unusedVariables false
set_option linter.unusedSimpArgs false
namespace Go.Proofs.Ytinefghmmbggeaa
open Go Go.RowKit
theorem rol_ext {a b : Rol} (h1 : a.frm = b.frm) (h2 : a.to = b.to) (h3 : a.wv = b.wv) (h4 : a.slk = b.slk) (h5 : a.pos = b.pos) (h6 : a.dn = b.dn) (h7 : a.st = b.st) : a = b := by
  cases a; cases b; simp at *; exact ⟨h1, h2, h3, h4, h5, h6, h7⟩
set_option maxRecDepth 100000 in
set_option linter.unusedVariables false in
set_option maxHeartbeats 4000000 in
theorem samep_c (a b : Rol) (ha : ShortR a) (hb : ShortR b) : PCalls Try.prog 31 [rolD a, rolD b] (.d (oD (decide (a = b)))) := by
  refine pcalls_of0 (fn := Try.f31) (by kernel_rfl) Try.func31 rfl (Nat.le_of_ble_eq_true rfl) fun c hc hp => ?_
  refine awp_less (τ' := frL [(0, .d (rolD a)), (1, .d (rolD b))]) (less_cons (less_cons (less_nil _) rfl) rfl) ?_
  have ha1 := ha.wl
  have ha2 := ha.ws
  have ha3 := ha.dl
  refine awp_seq_s KT_ok hc rfl fun K1 hK1 => ?_
  simp -dsimp -implicitDefEqProofs (disch := first | assumption | omega | (simp [maxLen, avs_len] <;> omega) | decide) only [sT_assign, sT_box, deadH, sT_nil, oK_some, q_o, layF, ↓reduceIte, q_b, q_f, q_s, q_l, as_dagg, D.one, Value.oneCell', q_n, Nat.reduceEqDiff, iD, intsD, intssD, deadH, rolD, rolC]
  refine hK1 _ _ ?_
  refine awp_seq_k fun K2 hK2 => ?_
  refine awp_seq_s KT_ok hc rfl fun K3 hK3 => ?_
  rcases (show a.frm ≠ b.frm ∨ (a.frm = b.frm ∧ a.to ≠ b.to) ∨ ((a.frm = b.frm ∧ a.to = b.to) ∧ a.slk ≠ b.slk) ∨ ((a.frm = b.frm ∧ a.to = b.to) ∧ a.slk = b.slk ∧ a.pos ≠ b.pos) ∨ ((a.frm = b.frm ∧ a.to = b.to) ∧ (a.slk = b.slk ∧ a.pos = b.pos) ∧ a.st ≠ b.st) ∨ ((a.frm = b.frm ∧ a.to = b.to) ∧ (a.slk = b.slk ∧ a.pos = b.pos) ∧ a.st = b.st ∧ a.wv.length ≠ b.wv.length) ∨ ((a.frm = b.frm ∧ a.to = b.to) ∧ (a.slk = b.slk ∧ a.pos = b.pos) ∧ a.st = b.st ∧ a.wv.length = b.wv.length) from by omega) with g | ⟨g1, g⟩ | ⟨⟨g1, g2⟩, g⟩ | ⟨⟨g1, g2⟩, g3, g⟩ | ⟨⟨g1, g2⟩, ⟨g3, g4⟩, g⟩ | ⟨⟨g1, g2⟩, ⟨g3, g4⟩, g5, g⟩ | ⟨⟨g1, g2⟩, ⟨g3, g4⟩, g5, g6⟩
  · have hx : decide (a = b) = false := decide_eq_false fun e => g (by rw [e])
    simp -dsimp -implicitDefEqProofs (disch := first | assumption | omega | (simp [maxLen, avs_len] <;> omega) | decide) only [sT_move, sT_pick, sT_load, sT_fa, sT_bin, sT_nil, sT_g, oK_some, gK_f, q_o, loadF, fieldAddrF, binF_v, v_neq, ↓reduceIte, q_b, ifp, guardA_some, guardV_f, q_f, q_l, q_n, Nat.reduceEqDiff, Nat.reduceAdd, bne_t, nb_f, fo_29_0, sz_3, ag_3]
    refine hK3 _ _ ?_
    refine awp_cond rfl (fun ht => ?_) (fun ht => ?_)
    · refine awp_seq_s KT_ok hc rfl fun K4 hK4 => ?_
      simp -dsimp -implicitDefEqProofs (disch := first | assumption | omega | (simp [maxLen, avs_len] <;> omega) | decide) only [sT_assign, sT_nil, q_f]
      refine hK4 _ _ ?_
      refine awp_ret ?_
      show closeA _ _ = _
      simp (disch := first | assumption | omega | (simp [maxLen, avs_len] <;> omega) | decide) only [closeA, retV, deep_d, Nat.reduceAdd, Nat.zero_add, D.fix, frL_get, ↓reduceIte, Option.map_some, List.length_cons, List.length_nil, oD, hx]
    · cases ht
  · have hx : decide (a = b) = false := decide_eq_false fun e => g (by rw [e])
    simp -dsimp -implicitDefEqProofs (disch := first | assumption | omega | (simp [maxLen, avs_len] <;> omega) | decide) only [sT_move, sT_pick, sT_load, sT_fa, sT_bin, sT_nil, sT_g, oK_some, gK_t, gK_f, q_o, loadF, fieldAddrF, binF_v, v_neq, ↓reduceIte, q_b, ifp, guardA_some, guardV_f, q_f, q_l, q_n, Nat.reduceEqDiff, Nat.reduceAdd, bne_t, bne_f, nb_t, nb_f, fo_29_0, sz_3, ag_3, fo_29_1]
    refine hK3 _ _ ?_
    refine awp_cond rfl (fun ht => ?_) (fun ht => ?_)
    · refine awp_seq_s KT_ok hc rfl fun K5 hK5 => ?_
      simp -dsimp -implicitDefEqProofs (disch := first | assumption | omega | (simp [maxLen, avs_len] <;> omega) | decide) only [sT_assign, sT_nil, q_f]
      refine hK5 _ _ ?_
      refine awp_ret ?_
      show closeA _ _ = _
      simp (disch := first | assumption | omega | (simp [maxLen, avs_len] <;> omega) | decide) only [closeA, retV, deep_d, Nat.reduceAdd, Nat.zero_add, D.fix, frL_get, ↓reduceIte, Option.map_some, List.length_cons, List.length_nil, oD, hx]
    · cases ht
  · have hx : decide (a = b) = false := decide_eq_false fun e => g (by rw [e])
    simp -dsimp -implicitDefEqProofs (disch := first | assumption | omega | (simp [maxLen, avs_len] <;> omega) | decide) only [sT_move, sT_pick, sT_load, sT_fa, sT_bin, sT_nil, sT_g, oK_some, gK_t, gK_f, q_o, loadF, fieldAddrF, binF_v, v_neq, ↓reduceIte, q_b, ifp, guardA_some, guardV_f, q_f, q_l, q_n, Nat.reduceEqDiff, Nat.reduceAdd, bne_t, bne_f, nb_t, nb_f, fo_29_0, sz_3, ag_3, fo_29_1, fo_29_3]
    refine hK3 _ _ ?_
    refine awp_cond rfl (fun ht => ?_) (fun ht => ?_)
    · refine awp_seq_s KT_ok hc rfl fun K6 hK6 => ?_
      simp -dsimp -implicitDefEqProofs (disch := first | assumption | omega | (simp [maxLen, avs_len] <;> omega) | decide) only [sT_assign, sT_nil, q_f]
      refine hK6 _ _ ?_
      refine awp_ret ?_
      show closeA _ _ = _
      simp (disch := first | assumption | omega | (simp [maxLen, avs_len] <;> omega) | decide) only [closeA, retV, deep_d, Nat.reduceAdd, Nat.zero_add, D.fix, frL_get, ↓reduceIte, Option.map_some, List.length_cons, List.length_nil, oD, hx]
    · cases ht
  · have hx : decide (a = b) = false := decide_eq_false fun e => g (by rw [e])
    simp -dsimp -implicitDefEqProofs (disch := first | assumption | omega | (simp [maxLen, avs_len] <;> omega) | decide) only [sT_move, sT_pick, sT_load, sT_fa, sT_bin, sT_nil, sT_g, oK_some, gK_t, gK_f, q_o, loadF, fieldAddrF, binF_v, v_neq, ↓reduceIte, q_b, ifp, guardA_some, guardV_f, q_f, q_l, q_n, Nat.reduceEqDiff, Nat.reduceAdd, bne_t, bne_f, nb_t, nb_f, fo_29_0, sz_3, ag_3, fo_29_1, fo_29_3, fo_29_4]
    refine hK3 _ _ ?_
    refine awp_cond rfl (fun ht => ?_) (fun ht => ?_)
    · refine awp_seq_s KT_ok hc rfl fun K7 hK7 => ?_
      simp -dsimp -implicitDefEqProofs (disch := first | assumption | omega | (simp [maxLen, avs_len] <;> omega) | decide) only [sT_assign, sT_nil, q_f]
      refine hK7 _ _ ?_
      refine awp_ret ?_
      show closeA _ _ = _
      simp (disch := first | assumption | omega | (simp [maxLen, avs_len] <;> omega) | decide) only [closeA, retV, deep_d, Nat.reduceAdd, Nat.zero_add, D.fix, frL_get, ↓reduceIte, Option.map_some, List.length_cons, List.length_nil, oD, hx]
    · cases ht
  · have hx : decide (a = b) = false := decide_eq_false fun e => g (by rw [e])
    simp -dsimp -implicitDefEqProofs (disch := first | assumption | omega | (simp [maxLen, avs_len] <;> omega) | decide) only [sT_move, sT_pick, sT_load, sT_fa, sT_bin, sT_nil, sT_g, oK_some, gK_t, gK_f, q_o, loadF, fieldAddrF, binF_v, v_neq, ↓reduceIte, q_b, ifp, guardA_some, guardV_f, q_f, q_l, q_n, Nat.reduceEqDiff, Nat.reduceAdd, bne_t, bne_f, nb_t, nb_f, fo_29_0, sz_3, ag_3, fo_29_1, fo_29_3, fo_29_4, fo_29_6]
    refine hK3 _ _ ?_
    refine awp_cond rfl (fun ht => ?_) (fun ht => ?_)
    · refine awp_seq_s KT_ok hc rfl fun K8 hK8 => ?_
      simp -dsimp -implicitDefEqProofs (disch := first | assumption | omega | (simp [maxLen, avs_len] <;> omega) | decide) only [sT_assign, sT_nil, q_f]
      refine hK8 _ _ ?_
      refine awp_ret ?_
      show closeA _ _ = _
      simp (disch := first | assumption | omega | (simp [maxLen, avs_len] <;> omega) | decide) only [closeA, retV, deep_d, Nat.reduceAdd, Nat.zero_add, D.fix, frL_get, ↓reduceIte, Option.map_some, List.length_cons, List.length_nil, oD, hx]
    · cases ht
  · have hx : decide (a = b) = false := decide_eq_false fun e => g (by rw [e])
    simp -dsimp -implicitDefEqProofs (disch := first | assumption | omega | (simp [maxLen, avs_len] <;> omega) | decide) only [sT_move, sT_pick, sT_load, sT_fa, sT_bin, sT_len, sT_nil, sT_g, oK_some, gK_t, q_o, loadF, fieldAddrF, binF_v, lenF, builtinF, v_neq, ↓reduceIte, q_b, ifp, guardA_some, guardV_f, q_f, q_s, q_l, q_n, Nat.reduceEqDiff, Nat.reduceAdd, bne_t, bne_f, nb_t, fo_29_0, sz_3, ag_3, fo_29_1, fo_29_3, fo_29_4, fo_29_6, fo_29_2, sz_26, ag_26, eo_26]
    refine hK3 _ _ ?_
    refine awp_cond rfl (fun ht => ?_) (fun ht => ?_)
    · refine awp_seq_s KT_ok hc rfl fun K9 hK9 => ?_
      simp -dsimp -implicitDefEqProofs (disch := first | assumption | omega | (simp [maxLen, avs_len] <;> omega) | decide) only [sT_assign, sT_nil, q_f]
      refine hK9 _ _ ?_
      refine awp_ret ?_
      show closeA _ _ = _
      simp (disch := first | assumption | omega | (simp [maxLen, avs_len] <;> omega) | decide) only [closeA, retV, deep_d, Nat.reduceAdd, Nat.zero_add, D.fix, frL_get, ↓reduceIte, Option.map_some, List.length_cons, List.length_nil, oD, hx]
    · cases ht
  · simp -dsimp -implicitDefEqProofs (disch := first | assumption | omega | (simp [maxLen, avs_len] <;> omega) | decide) only [sT_move, sT_pick, sT_load, sT_fa, sT_bin, sT_len, sT_nil, sT_g, oK_some, gK_t, q_o, loadF, fieldAddrF, binF_v, lenF, builtinF, v_neq, ↓reduceIte, q_b, ifp, guardA_some, guardV_f, q_f, q_s, q_l, q_n, Nat.reduceEqDiff, Nat.reduceAdd, bne_f, nb_t, fo_29_0, sz_3, ag_3, fo_29_1, fo_29_3, fo_29_4, fo_29_6, fo_29_2, sz_26, ag_26, eo_26]
    refine hK3 _ _ ?_
    refine awp_cond rfl (fun ht => ?_) (fun ht => ?_)
    · cases ht
    · refine awp_skip (hK2 _ _ ?_)
      refine awp_seq_k fun K10 hK10 => ?_
      refine awp_seq_s KT_ok hc rfl fun K11 hK11 => ?_
      simp -dsimp -implicitDefEqProofs (disch := first | assumption | omega | (simp [maxLen, avs_len] <;> omega) | decide) only [sT_assign, sT_nil, q_f]
      refine hK11 _ _ ?_
      refine awp_block ?_
      refine awp_loop_rt hp (fun τ' H' mm => ∃ k, (k ≤ a.wv.length ∧ a.wv.take k = b.wv.take k) ∧ mm = a.wv.length - k ∧ H' = [.cells (avs (rolC a)), .cells (avs (rolC b))] ∧ τ' = frL [(2, .op 0 0), (3, .op 1 0), (5, .d (iD k))]) (a.wv.length) ?_ ⟨0, ⟨Nat.zero_le _, rfl⟩, rfl, rfl, rfl⟩ ?_
      · refine Rt.end (less_cons (less_cons (less_cons (less_nil _) rfl) rfl) rfl) ?_
        first | rfl | (simp only [intsD, boolsD, bytesD, intssD, bytessD, gcH, gcO, gcVs_avs, gcVs, gcV, gcV_d, fzH, fzO, fzVs_avs, fzVs, fzV, posN, avs_nil, avs_cons, List.map_cons, List.map_nil, List.getD_cons_zero, List.getD_cons_succ, ↓reduceIte, Nat.reduceEqDiff, Option.map_some, List.set_cons_zero, List.set_cons_succ, takeD_avs, takeD_all, Nat.mul_one, List.length_map, List.cons_append, List.nil_append, rolD, rolC]; first | done | rfl)
      rintro τ' H' mm ⟨k, ⟨hk, htake⟩, rfl, rfl, rfl⟩
      refine awp_seq_k fun K12 hK12 => ?_
      refine awp_seq_s KT_ok hc rfl fun K13 hK13 => ?_
      simp -dsimp -implicitDefEqProofs (disch := first | assumption | omega | (simp [maxLen, avs_len] <;> omega) | decide) only [sT_move, sT_load, sT_fa, sT_bin, sT_len, sT_nil, oK_some, q_o, loadF, fieldAddrF, binF_v, lenF, builtinF, v_lss, ↓reduceIte, q_b, ifp, q_f, q_s, q_l, q_n, Nat.reduceEqDiff, avs_nil, avs_cons, iD, intsD, intssD, Nat.reduceAdd, rolC, fo_29_2, sz_26, ag_26, eo_26]
      refine hK13 _ _ ?_
      refine awp_cond rfl (fun ht => ?_) (fun ht => ?_)
      · have hlt : k < a.wv.length := by simp at ht; omega
        have hlt2 : k < b.wv.length := by omega
        have hra := row_len hlt
        refine awp_skip (hK12 _ _ ?_)
        refine awp_seq_k fun K14 hK14 => ?_
        refine awp_block ?_
        refine awp_seq_se KT_ok hc mixed rfl (q := 0) (by kernel_rfl) (by kernel_rfl) fun K15 hK15 => ?_
        simp -dsimp -implicitDefEqProofs (disch := first | assumption | omega | (simp [maxLen, avs_len] <;> omega) | decide) only [sE_move, sE_load, sE_fa, sE_ia, sE_call0, oK_some, q_o, loadF, fieldAddrF, ixO, indexAddrF, ↓reduceIte, q_b, ifp, q_f, q_s, q_l, List.append_nil, List.replicate_zero, Int.toNat_natCast, q_n, Nat.reduceEqDiff, get_map, intsD, Nat.reduceAdd, fo_29_2, sz_26, ag_26, eo_26, sz_27, ag_27]
        refine kc_by (ints_c (nth a.wv k) (nth b.wv k) (by omega)) rfl ?_
        simp -dsimp -implicitDefEqProofs (disch := first | assumption | omega | (simp [maxLen, avs_len] <;> omega) | decide) only [sE_un, sE_nil, oK_some, u_not, ↓reduceIte, q_b, q_f, killAll, oD, Nat.reduceAdd]
        refine hK15 _ _ ?_
        refine awp_cond rfl (fun ht => ?_) (fun ht => ?_)
        · have hx : decide (a = b) = false := decide_eq_false fun e => by subst e; simp at ht
          refine awp_seq_s KT_ok hc rfl fun K16 hK16 => ?_
          simp -dsimp -implicitDefEqProofs (disch := first | assumption | omega | (simp [maxLen, avs_len] <;> omega) | decide) only [sT_assign, sT_nil, q_f]
          refine hK16 _ _ ?_
          refine awp_ret ?_
          show closeA _ _ = _
          simp (disch := first | assumption | omega | (simp [maxLen, avs_len] <;> omega) | decide) only [closeA, retV, deep_d, Nat.reduceAdd, Nat.zero_add, D.fix, frL_get, ↓reduceIte, Option.map_some, List.length_cons, List.length_nil, oD, hx]
        · refine awp_skip (hK14 _ _ ?_)
          refine awp_s KT_ok hc rfl fun K17 hK17 => ?_
          simp -dsimp -implicitDefEqProofs (disch := first | assumption | omega | (simp [maxLen, avs_len] <;> omega) | decide) only [sT_move, sT_assign, sT_bin, sT_nil, oK_some, q_o, binF_v, v_add, ↓reduceIte, q_b, q_f, Nat.reduceEqDiff]
          refine hK17 _ _ ⟨_, _, _, ?_, ⟨k + 1, ⟨by omega, take_eq_step hlt hlt2 htake (by simpa using ht)⟩, rfl, rfl, rfl⟩, ?_⟩
          · first | omega | (simp only [List.length_cons]; omega) | (dsimp only; omega)
          · refine Rt.end (less_cons (less_cons (less_cons (less_nil _) rfl) rfl) rfl) ?_
            first | rfl | (simp only [intsD, boolsD, bytesD, intssD, bytessD, gcH, gcO, gcVs_avs, gcVs, gcV, gcV_d, fzH, fzO, fzVs_avs, fzVs, fzV, posN, avs_nil, avs_cons, List.map_cons, List.map_nil, List.getD_cons_zero, List.getD_cons_succ, ↓reduceIte, Nat.reduceEqDiff, Option.map_some, List.set_cons_zero, List.set_cons_succ, takeD_avs, takeD_all, Nat.mul_one, List.length_map, List.cons_append, List.nil_append, rolD, rolC]; first | done | rfl)
      · have hge : k = a.wv.length := by simp at ht; omega
        have he : a.wv = b.wv := by rw [hge, List.take_length, g6, List.take_length] at htake; exact htake
        have hx : decide (a = b) = decide (a.dn = b.dn) := decide_eq_decide.2 ⟨fun e => by rw [e], fun e => rol_ext g1 g2 he g3 g4 e g5⟩
        refine awp_exit (hK10 _ _ ?_)
        refine awp_seq_s KT_ok hc rfl fun K18 hK18 => ?_
        simp -dsimp -implicitDefEqProofs (disch := first | assumption | omega | (simp [maxLen, avs_len] <;> omega) | decide) only [sT_load, sT_fa, sT_call0, oK_some, loadF, fieldAddrF, ↓reduceIte, q_b, ifp, q_f, q_s, q_l, q_n, Nat.reduceEqDiff, Nat.reduceAdd, fo_29_5, sz_27, ag_27]
        refine kc_by (ints_c a.dn b.dn ha3) rfl ?_
        simp -dsimp -implicitDefEqProofs (disch := first | assumption | omega | (simp [maxLen, avs_len] <;> omega) | decide) only [sT_assign, sT_nil, ↓reduceIte, q_b, q_f, oD]
        refine hK18 _ _ ?_
        refine awp_ret ?_
        show closeA _ _ = _
        simp (disch := first | assumption | omega | (simp [maxLen, avs_len] <;> omega) | decide) only [closeA, retV, deep_d, Nat.reduceAdd, Nat.zero_add, D.fix, frL_get, ↓reduceIte, Option.map_some, List.length_cons, List.length_nil, oD, hx]
set_option maxRecDepth 100000 in
set_option linter.unusedVariables false in
set_option maxHeartbeats 4000000 in
theorem made_c (a b : Int) (w : List (List Int)) (s : Int) (hr : ShortR (newR a b w s)) (hi : OkI (newR a b w s)) : PCalls Try.prog 15 [planD a b w s] (.d (gotD (newG a b w s))) := by
  refine pcalls_of0 (fn := Try.f15) (by kernel_rfl) Try.func15 rfl (Nat.le_of_ble_eq_true rfl) fun c hc hp => ?_
  refine awp_less (τ' := frL [(0, .d (planD a b w s))]) (less_cons (less_nil _) rfl) ?_
  refine awp_seq_s KT_ok hc rfl fun K1 hK1 => ?_
  simp -dsimp -implicitDefEqProofs (disch := first | assumption | omega | (simp [maxLen, avs_len] <;> omega) | decide) only [sT_box, sT_alloc, deadH, sT_nil, oK_some, q_o, layF, ↓reduceIte, q_b, q_f, q_s, q_l, as_dagg, D.one, Value.oneCell', q_n, map_d, avs_nil, avs_cons, iD, intssD, deadH, planD, za_40]
  refine hK1 _ _ ?_
  refine awp_seq_s KT_ok hc rfl fun K2 hK2 => ?_
  simp -dsimp -implicitDefEqProofs (disch := first | assumption | omega | (simp [maxLen, avs_len] <;> omega) | decide) only [sT_load, sT_fa, sT_call0, oK_some, loadF, fieldAddrF, ↓reduceIte, q_b, ifp, q_f, q_s, q_l, q_n, Nat.reduceEqDiff, Nat.reduceAdd, fo_35_0, sz_3, ag_3, fo_35_1, fo_35_2, sz_26, ag_26, fo_35_3]
  refine kc_by (new_c a b w s hr hi) rfl ?_
  simp -dsimp -implicitDefEqProofs (disch := first | assumption | omega | (simp [maxLen, avs_len] <;> omega) | decide) only [sT_move, sT_assign, sT_extract, sT_alloc, sT_store, deadH, sT_nil, oK_some, q_o, layF, storeF, ↓reduceIte, q_b, ifp, q_f, q_s, q_l, as_dagg, q_a, D.one, Value.oneCell', q_n, Nat.reduceEqDiff, map_d, avs_nil, avs_cons, iD, intsD, intssD, Nat.reduceAdd, deadH, gotP, rolD, rolC, sz_29, za_29]
  refine hK2 _ _ ?_
  refine awp_seq_s KT_ok hc rfl fun K3 hK3 => ?_
  simp -dsimp -implicitDefEqProofs (disch := first | assumption | omega | (simp [maxLen, avs_len] <;> omega) | decide) only [sT_move, sT_load, sT_build, sT_store, sT_nil, oK_some, q_o, loadF, buildF, storeF, ↓reduceIte, q_b, ifp, ifn, q_f, q_s, q_l, q_a, fill_cons, AV.one, D.one, Value.oneCell', q_n, Nat.reduceEqDiff, takeD_all, Nat.reduceAdd, sz_29, ag_29, pa_40, pl_40_0, pl_40_1, sz_40, zc_40]
  refine hK3 _ _ ?_
  refine awp_ret ?_
  try dsimp only [thenA, inBlockA]
  refine PostA_retc rfl ?_
  simp -dsimp -implicitDefEqProofs (disch := first | assumption | omega | (simp [maxLen, avs_len] <;> omega) | decide) only [oK_some, q_o, loadF, ↓reduceIte, q_b, ifp, q_f, q_l, q_n, Nat.reduceEqDiff, takeD_all, Nat.reduceAdd, sz_40, ag_40]
  show closeA _ _ = _
  simp (disch := first | assumption | omega | (simp [maxLen, avs_len] <;> omega) | decide) only [closeA, deep_d, deep_agg, deepL_nil, deepL_cons, Nat.reduceAdd, Nat.zero_add, D.fix, Option.map_some, Option.bind_some, List.length_cons, List.length_nil, iD, intsD, intssD, gotD]
set_option maxRecDepth 100000 in
set_option linter.unusedVariables false in
set_option maxHeartbeats 4000000 in
theorem see1_c (r : Rol) (p : Rep) (hr : SeeOk r p) : PCalls Try.prog 21 [rolD r, repD p] (.d (gotD (seeG r p))) := by
  refine pcalls_of0 (fn := Try.f21) (by kernel_rfl) Try.func21 rfl (Nat.le_of_ble_eq_true rfl) fun c hc hp => ?_
  refine awp_less (τ' := frL [(0, .d (rolD r)), (1, .d (repD p))]) (less_cons (less_cons (less_nil _) rfl) rfl) ?_
  refine awp_seq_s KT_ok hc rfl fun K1 hK1 => ?_
  simp -dsimp -implicitDefEqProofs (disch := first | assumption | omega | (simp [maxLen, avs_len] <;> omega) | decide) only [sT_box, sT_alloc, deadH, sT_nil, oK_some, q_o, layF, ↓reduceIte, q_b, q_f, q_s, q_l, as_dagg, D.one, Value.oneCell', q_n, Nat.reduceEqDiff, map_d, avs_nil, avs_cons, iD, oD, intsD, intssD, Nat.reduceAdd, deadH, rolD, rolC, repD, repC, za_40]
  refine hK1 _ _ ?_
  refine awp_seq_s KT_ok hc rfl fun K2 hK2 => ?_
  simp -dsimp -implicitDefEqProofs (disch := first | assumption | omega | (simp [maxLen, avs_len] <;> omega) | decide) only [sT_load, sT_call0, oK_some, q_o, loadF, ↓reduceIte, q_b, ifp, q_f, q_s, q_l, q_n, Nat.reduceEqDiff, takeD_all, Nat.reduceAdd, sz_29, ag_29, sz_31, ag_31]
  refine kc_by (see_c r p hr) rfl ?_
  simp -dsimp -implicitDefEqProofs (disch := first | assumption | omega | (simp [maxLen, avs_len] <;> omega) | decide) only [sT_move, sT_assign, sT_extract, sT_alloc, sT_store, deadH, sT_nil, oK_some, q_o, layF, storeF, ↓reduceIte, q_b, ifp, q_f, q_s, q_l, as_dagg, q_a, D.one, Value.oneCell', q_n, Nat.reduceEqDiff, map_d, avs_nil, avs_cons, iD, intsD, intssD, Nat.reduceAdd, deadH, rolD, rolC, gotP, sz_29, za_29]
  refine hK2 _ _ ?_
  refine awp_seq_s KT_ok hc rfl fun K3 hK3 => ?_
  simp -dsimp -implicitDefEqProofs (disch := first | assumption | omega | (simp [maxLen, avs_len] <;> omega) | decide) only [sT_move, sT_load, sT_build, sT_store, sT_nil, oK_some, q_o, loadF, buildF, storeF, ↓reduceIte, q_b, ifp, ifn, q_f, q_s, q_l, q_a, fill_cons, AV.one, D.one, Value.oneCell', q_n, Nat.reduceEqDiff, takeD_all, Nat.reduceAdd, sz_29, ag_29, pa_40, pl_40_0, pl_40_1, sz_40, zc_40]
  refine hK3 _ _ ?_
  refine awp_ret ?_
  try dsimp only [thenA, inBlockA]
  refine PostA_retc rfl ?_
  simp -dsimp -implicitDefEqProofs (disch := first | assumption | omega | (simp [maxLen, avs_len] <;> omega) | decide) only [oK_some, q_o, loadF, ↓reduceIte, q_b, ifp, q_f, q_l, q_n, Nat.reduceEqDiff, takeD_all, Nat.reduceAdd, sz_40, ag_40]
  show closeA _ _ = _
  simp (disch := first | assumption | omega | (simp [maxLen, avs_len] <;> omega) | decide) only [closeA, deep_d, deep_agg, deepL_nil, deepL_cons, Nat.reduceAdd, Nat.zero_add, D.fix, Option.map_some, Option.bind_some, List.length_cons, List.length_nil, iD, intsD, intssD, gotD]
set_option maxRecDepth 100000 in
set_option linter.unusedVariables false in
set_option maxHeartbeats 4000000 in
theorem resume1_c (r : Rol) : PCalls Try.prog 23 [rolD r] (.d (gotD (resumeG r))) := by
  refine pcalls_of0 (fn := Try.f23) (by kernel_rfl) Try.func23 rfl (Nat.le_of_ble_eq_true rfl) fun c hc hp => ?_
  refine awp_less (τ' := frL [(0, .d (rolD r))]) (less_cons (less_nil _) rfl) ?_
  refine awp_seq_s KT_ok hc rfl fun K1 hK1 => ?_
  simp -dsimp -implicitDefEqProofs (disch := first | assumption | omega | (simp [maxLen, avs_len] <;> omega) | decide) only [sT_box, sT_alloc, deadH, sT_nil, oK_some, q_o, layF, ↓reduceIte, q_b, q_f, q_s, q_l, as_dagg, D.one, Value.oneCell', q_n, map_d, avs_nil, avs_cons, iD, intsD, intssD, deadH, rolD, rolC, za_40]
  refine hK1 _ _ ?_
  refine awp_seq_s KT_ok hc rfl fun K2 hK2 => ?_
  simp -dsimp -implicitDefEqProofs (disch := first | assumption | omega | (simp [maxLen, avs_len] <;> omega) | decide) only [sT_load, sT_call0, oK_some, q_o, loadF, ↓reduceIte, q_b, ifp, q_f, q_s, q_l, q_n, Nat.reduceEqDiff, takeD_all, Nat.reduceAdd, sz_29, ag_29]
  refine kc_by (resume_c r) rfl ?_
  simp -dsimp -implicitDefEqProofs (disch := first | assumption | omega | (simp [maxLen, avs_len] <;> omega) | decide) only [sT_move, sT_assign, sT_extract, sT_alloc, sT_store, deadH, sT_nil, oK_some, q_o, layF, storeF, ↓reduceIte, q_b, ifp, q_f, q_s, q_l, as_dagg, q_a, D.one, Value.oneCell', q_n, Nat.reduceEqDiff, map_d, avs_nil, avs_cons, iD, intsD, intssD, Nat.reduceAdd, deadH, rolD, rolC, gotP, sz_29, za_29]
  refine hK2 _ _ ?_
  refine awp_seq_s KT_ok hc rfl fun K3 hK3 => ?_
  simp -dsimp -implicitDefEqProofs (disch := first | assumption | omega | (simp [maxLen, avs_len] <;> omega) | decide) only [sT_move, sT_load, sT_build, sT_store, sT_nil, oK_some, q_o, loadF, buildF, storeF, ↓reduceIte, q_b, ifp, ifn, q_f, q_s, q_l, q_a, fill_cons, AV.one, D.one, Value.oneCell', q_n, Nat.reduceEqDiff, takeD_all, Nat.reduceAdd, sz_29, ag_29, pa_40, pl_40_0, pl_40_1, sz_40, zc_40]
  refine hK3 _ _ ?_
  refine awp_ret ?_
  try dsimp only [thenA, inBlockA]
  refine PostA_retc rfl ?_
  simp -dsimp -implicitDefEqProofs (disch := first | assumption | omega | (simp [maxLen, avs_len] <;> omega) | decide) only [oK_some, q_o, loadF, ↓reduceIte, q_b, ifp, q_f, q_l, q_n, Nat.reduceEqDiff, takeD_all, Nat.reduceAdd, sz_40, ag_40]
  show closeA _ _ = _
  simp (disch := first | assumption | omega | (simp [maxLen, avs_len] <;> omega) | decide) only [closeA, deep_d, deep_agg, deepL_nil, deepL_cons, Nat.reduceAdd, Nat.zero_add, D.fix, Option.map_some, Option.bind_some, List.length_cons, List.length_nil, iD, intsD, intssD, gotD]
set_option maxRecDepth 100000 in
set_option linter.unusedVariables false in
set_option maxHeartbeats 4000000 in
theorem back1_c (r : Rol) (hr : ShortR r) (hi : OkI r) : PCalls Try.prog 25 [rolD r] (.d (gotD (backG r))) := by
  refine pcalls_of0 (fn := Try.f25) (by kernel_rfl) Try.func25 rfl (Nat.le_of_ble_eq_true rfl) fun c hc hp => ?_
  refine awp_less (τ' := frL [(0, .d (rolD r))]) (less_cons (less_nil _) rfl) ?_
  refine awp_seq_s KT_ok hc rfl fun K1 hK1 => ?_
  simp -dsimp -implicitDefEqProofs (disch := first | assumption | omega | (simp [maxLen, avs_len] <;> omega) | decide) only [sT_box, sT_alloc, deadH, sT_nil, oK_some, q_o, layF, ↓reduceIte, q_b, q_f, q_s, q_l, as_dagg, D.one, Value.oneCell', q_n, map_d, avs_nil, avs_cons, iD, intsD, intssD, deadH, rolD, rolC, za_40]
  refine hK1 _ _ ?_
  refine awp_seq_s KT_ok hc rfl fun K2 hK2 => ?_
  simp -dsimp -implicitDefEqProofs (disch := first | assumption | omega | (simp [maxLen, avs_len] <;> omega) | decide) only [sT_load, sT_call0, oK_some, q_o, loadF, ↓reduceIte, q_b, ifp, q_f, q_s, q_l, q_n, Nat.reduceEqDiff, takeD_all, Nat.reduceAdd, sz_29, ag_29]
  refine kc_by (back_c r hr hi) rfl ?_
  simp -dsimp -implicitDefEqProofs (disch := first | assumption | omega | (simp [maxLen, avs_len] <;> omega) | decide) only [sT_move, sT_assign, sT_extract, sT_alloc, sT_store, deadH, sT_nil, oK_some, q_o, layF, storeF, ↓reduceIte, q_b, ifp, q_f, q_s, q_l, as_dagg, q_a, D.one, Value.oneCell', q_n, Nat.reduceEqDiff, map_d, avs_nil, avs_cons, iD, intsD, intssD, Nat.reduceAdd, deadH, rolD, rolC, gotP, sz_29, za_29]
  refine hK2 _ _ ?_
  refine awp_seq_s KT_ok hc rfl fun K3 hK3 => ?_
  simp -dsimp -implicitDefEqProofs (disch := first | assumption | omega | (simp [maxLen, avs_len] <;> omega) | decide) only [sT_move, sT_load, sT_build, sT_store, sT_nil, oK_some, q_o, loadF, buildF, storeF, ↓reduceIte, q_b, ifp, ifn, q_f, q_s, q_l, q_a, fill_cons, AV.one, D.one, Value.oneCell', q_n, Nat.reduceEqDiff, takeD_all, Nat.reduceAdd, sz_29, ag_29, pa_40, pl_40_0, pl_40_1, sz_40, zc_40]
  refine hK3 _ _ ?_
  refine awp_ret ?_
  try dsimp only [thenA, inBlockA]
  refine PostA_retc rfl ?_
  simp -dsimp -implicitDefEqProofs (disch := first | assumption | omega | (simp [maxLen, avs_len] <;> omega) | decide) only [oK_some, q_o, loadF, ↓reduceIte, q_b, ifp, q_f, q_l, q_n, Nat.reduceEqDiff, takeD_all, Nat.reduceAdd, sz_40, ag_40]
  show closeA _ _ = _
  simp (disch := first | assumption | omega | (simp [maxLen, avs_len] <;> omega) | decide) only [closeA, deep_d, deep_agg, deepL_nil, deepL_cons, Nat.reduceAdd, Nat.zero_add, D.fix, Option.map_some, Option.bind_some, List.length_cons, List.length_nil, iD, intsD, intssD, gotD]
set_option maxRecDepth 100000 in
set_option linter.unusedVariables false in
set_option maxHeartbeats 4000000 in
theorem same_c (a b : Rol × Int) (ha : ShortR a.1) (hb : ShortR b.1) : PCalls Try.prog 14 [gotD a, gotD b] (.d (oD (decide (a = b)))) := by
  refine pcalls_of0 (fn := Try.f14) (by kernel_rfl) Try.func14 rfl (Nat.le_of_ble_eq_true rfl) fun c hc hp => ?_
  refine awp_less (τ' := frL [(0, .d (gotD a)), (1, .d (gotD b))]) (less_cons (less_cons (less_nil _) rfl) rfl) ?_
  refine awp_seq_s KT_ok hc rfl fun K1 hK1 => ?_
  simp -dsimp -implicitDefEqProofs (disch := first | assumption | omega | (simp [maxLen, avs_len] <;> omega) | decide) only [sT_assign, sT_box, deadH, sT_nil, oK_some, q_o, layF, ↓reduceIte, q_b, q_f, q_s, q_l, as_dagg, D.one, Value.oneCell', q_n, Nat.reduceEqDiff, iD, intsD, intssD, deadH, gotD]
  refine hK1 _ _ ?_
  refine awp_seq_s KT_ok hc rfl fun K2 hK2 => ?_
  by_cases hg : a.2 = b.2
  · have hx : decide (a = b) = decide (a.1 = b.1) := decide_eq_decide.2 ⟨fun e => by rw [e], fun e => Prod.ext e hg⟩
    simp -dsimp -implicitDefEqProofs (disch := first | assumption | omega | (simp [maxLen, avs_len] <;> omega) | decide) only [sT_move, sT_load, sT_fa, sT_bin, sT_call0, sT_g, oK_some, gK_t, q_o, loadF, fieldAddrF, binF_v, v_eql, ↓reduceIte, q_b, ifp, guardA_some, guardV_t, q_f, q_s, q_l, q_n, Nat.reduceEqDiff, takeD_zero, takeD_cs, Nat.reduceAdd, beq_t, fo_40_1, sz_38, ag_38, fo_40_0, sz_29, ag_29]
    refine kc_by (samep_c a.1 b.1 ha hb) rfl ?_
    simp -dsimp -implicitDefEqProofs (disch := first | assumption | omega | (simp [maxLen, avs_len] <;> omega) | decide) only [sT_assign, sT_pick, sT_nil, oK_some, ↓reduceIte, q_b, q_f, Nat.reduceEqDiff, oD]
    refine hK2 _ _ ?_
    refine awp_ret ?_
    show closeA _ _ = _
    simp (disch := first | assumption | omega | (simp [maxLen, avs_len] <;> omega) | decide) only [closeA, retV, deep_d, Nat.reduceAdd, Nat.zero_add, D.fix, frL_get, ↓reduceIte, Option.map_some, List.length_cons, List.length_nil, oD, hx]
  · have hx : decide (a = b) = false := decide_eq_false fun e => hg (by rw [e])
    simp -dsimp -implicitDefEqProofs (disch := first | assumption | omega | (simp [maxLen, avs_len] <;> omega) | decide) only [sT_move, sT_assign, sT_pick, sT_load, sT_fa, sT_bin, sT_nil, sT_g, oK_some, gK_f, q_o, loadF, fieldAddrF, binF_v, v_eql, ↓reduceIte, q_b, ifp, guardA_some, guardV_t, q_f, q_l, q_n, Nat.reduceEqDiff, Nat.reduceAdd, beq_f, fo_40_1, sz_38, ag_38]
    refine hK2 _ _ ?_
    refine awp_ret ?_
    show closeA _ _ = _
    simp (disch := first | assumption | omega | (simp [maxLen, avs_len] <;> omega) | decide) only [closeA, retV, deep_d, Nat.reduceAdd, Nat.zero_add, D.fix, frL_get, ↓reduceIte, Option.map_some, List.length_cons, List.length_nil, oD, hx]
def goodR (r : Rol) (c : Int) : Rep := ⟨c, r.to, r.slk, true, true⟩
set_option maxRecDepth 100000 in
set_option linter.unusedVariables false in
set_option maxHeartbeats 4000000 in
theorem goodr_c (r : Rol) (n : Int) : PCalls Try.prog 33 [rolD r, iD n] (.d (repD (goodR r n))) := by
  refine pcalls_of0 (fn := Try.f33) (by kernel_rfl) Try.func33 rfl (Nat.le_of_ble_eq_true rfl) fun c hc hp => ?_
  refine awp_less (τ' := frL [(0, .d (rolD r)), (1, .d (iD n))]) (less_cons (less_cons (less_nil _) rfl) rfl) ?_
  refine awp_seq_s KT_ok hc rfl fun K1 hK1 => ?_
  simp -dsimp -implicitDefEqProofs (disch := first | assumption | omega | (simp [maxLen, avs_len] <;> omega) | decide) only [sT_box, sT_alloc, deadH, sT_nil, oK_some, q_o, layF, ↓reduceIte, q_b, q_f, q_s, q_l, as_dagg, D.one, Value.oneCell', q_n, map_d, avs_nil, avs_cons, iD, intsD, intssD, deadH, rolD, rolC, za_31]
  refine hK1 _ _ ?_
  refine awp_seq_s KT_ok hc rfl fun K2 hK2 => ?_
  simp -dsimp -implicitDefEqProofs (disch := first | assumption | omega | (simp [maxLen, avs_len] <;> omega) | decide) only [sT_move, sT_load, sT_fa, sT_build, sT_store, sT_nil, oK_some, q_o, loadF, fieldAddrF, buildF, storeF, ↓reduceIte, q_b, ifp, ifn, q_f, q_s, q_l, q_a, fill_cons, AV.one, D.one, Value.oneCell', q_n, Nat.reduceEqDiff, Nat.reduceAdd, fo_29_1, sz_3, ag_3, fo_29_3, pa_31, pl_31_0, pl_31_1, pl_31_2, pl_31_3, pl_31_4, sz_31, zc_31]
  refine hK2 _ _ ?_
  refine awp_ret ?_
  try dsimp only [thenA, inBlockA]
  refine PostA_retc rfl ?_
  simp -dsimp -implicitDefEqProofs (disch := first | assumption | omega | (simp [maxLen, avs_len] <;> omega) | decide) only [oK_some, q_o, loadF, ↓reduceIte, q_b, ifp, q_f, q_l, q_n, Nat.reduceEqDiff, takeD_all, Nat.reduceAdd, sz_31, ag_31]
  show closeA _ _ = _
  simp (disch := first | assumption | omega | (simp [maxLen, avs_len] <;> omega) | decide) only [closeA, deep_d, deep_agg, deepL_nil, deepL_cons, Nat.reduceAdd, Nat.zero_add, D.fix, Option.map_some, Option.bind_some, List.length_cons, List.length_nil, iD, oD, goodR, repD, repC]
def smallB (r : Rol) : Bool := (r.wv.take 71).all (fun l => decide (l.length ≤ 70)) && decide (r.wv.length ≤ 70) && decide (r.dn.length ≤ 70)
set_option maxRecDepth 100000 in
set_option linter.unusedVariables false in
set_option maxHeartbeats 4000000 in
theorem small_c (r : Rol) (hw : r.wv.length ≤ maxLen) (hw2 : ∀ l ∈ r.wv, l.length ≤ maxLen) (hd : r.dn.length ≤ maxLen) : PCalls Try.prog 10 [rolD r] (.d (.val (.bool (smallB r)))) := by
  refine pcalls_of0 (fn := Try.f10) (by kernel_rfl) Try.func10 rfl (Nat.le_of_ble_eq_true rfl) fun c hc hp => ?_
  refine awp_less (τ' := frL [(0, .d (rolD r))]) (less_cons (less_nil _) rfl) ?_
  unfold maxLen at hw hw2 hd
  refine awp_seq_s KT_ok hc rfl fun K1 hK1 => ?_
  simp -dsimp -implicitDefEqProofs (disch := first | assumption | omega | (simp [maxLen, avs_len] <;> omega) | decide) only [sT_assign, sT_box, deadH, sT_nil, oK_some, q_o, layF, ↓reduceIte, q_b, q_f, q_s, q_l, as_dagg, D.one, Value.oneCell', iD, intsD, intssD, deadH, rolD, rolC]
  refine hK1 _ _ ?_
  refine awp_seq_k fun K2 hK2 => ?_
  refine awp_seq_s KT_ok hc rfl fun K3 hK3 => ?_
  simp -dsimp -implicitDefEqProofs (disch := first | assumption | omega | (simp [maxLen, avs_len] <;> omega) | decide) only [sT_assign, sT_nil, q_f]
  refine hK3 _ _ ?_
  refine awp_block ?_
  refine awp_loop_rt hp (fun τ' H' mm => ∃ k, (k ≤ r.wv.length ∧ k ≤ 71 ∧ ∀ j, j < k → (nth r.wv j).length ≤ 70) ∧ mm = r.wv.length - k ∧ H' = [.cells (avs (rolC r))] ∧ τ' = frL [(1, .op 0 0), (3, .d (iD k))]) (r.wv.length) ?_ ⟨0, ⟨Nat.zero_le _, by omega, fun j hj => absurd hj (by omega)⟩, rfl, rfl, rfl⟩ ?_
  · refine Rt.end (less_cons (less_cons (less_nil _) rfl) rfl) ?_
    first | rfl | (simp only [intsD, boolsD, bytesD, intssD, bytessD, gcH, gcO, gcVs_avs, gcVs, gcV, gcV_d, fzH, fzO, fzVs_avs, fzVs, fzV, posN, avs_nil, avs_cons, List.map_cons, List.map_nil, List.getD_cons_zero, List.getD_cons_succ, ↓reduceIte, Nat.reduceEqDiff, Option.map_some, List.set_cons_zero, List.set_cons_succ, takeD_avs, takeD_all, Nat.mul_one, List.length_map, List.cons_append, List.nil_append, rolD, rolC]; first | done | rfl)
  rintro τ' H' mm ⟨k, ⟨hk, hk2, hf⟩, rfl, rfl, rfl⟩
  refine awp_seq_k fun K4 hK4 => ?_
  refine awp_seq_s KT_ok hc rfl fun K5 hK5 => ?_
  rcases (show (k < r.wv.length ∧ k < 71) ∨ (k < r.wv.length ∧ ¬ k < 71) ∨ ¬ k < r.wv.length from by omega) with ⟨hlt, hlt2⟩ | ⟨hlt, hlt2⟩ | hlt
  · simp -dsimp -implicitDefEqProofs (disch := first | assumption | omega | (simp [maxLen, avs_len] <;> omega) | decide) only [sT_move, sT_pick, sT_load, sT_fa, sT_bin, sT_len, sT_nil, sT_g, oK_some, gK_t, q_o, loadF, fieldAddrF, binF_v, lenF, builtinF, v_lss, ↓reduceIte, q_b, ifp, guardA_some, guardV_t, q_f, q_s, q_l, q_n, Nat.reduceEqDiff, avs_nil, avs_cons, iD, intsD, intssD, rolC, dec_t, fo_29_2, sz_26, ag_26, eo_26]
    refine hK5 _ _ ?_
    refine awp_cond rfl (fun ht => ?_) (fun ht => ?_)
    · have hl2 := hw2 _ (nth_mem hlt)
      refine awp_skip (hK4 _ _ ?_)
      refine awp_seq_k fun K6 hK6 => ?_
      refine awp_block ?_
      refine awp_seq_s KT_ok hc rfl fun K7 hK7 => ?_
      simp -dsimp -implicitDefEqProofs (disch := first | assumption | omega | (simp [maxLen, avs_len] <;> omega) | decide) only [sT_move, sT_load, sT_fa, sT_ia, sT_bin, sT_len, sT_nil, oK_some, q_o, loadF, fieldAddrF, ixO, indexAddrF, binF_v, lenF, builtinF, v_gtr, ↓reduceIte, q_b, ifp, q_f, q_s, q_l, Int.toNat_natCast, q_n, Nat.reduceEqDiff, get_map, intsD, fo_29_2, sz_26, ag_26, eo_26, sz_27, ag_27, eo_27]
      refine hK7 _ _ ?_
      refine awp_cond rfl (fun ht => ?_) (fun ht => ?_)
      · have hgt : ¬ (nth r.wv k).length ≤ 70 := by simp at ht; omega
        have hx : smallB r = false := by
          have : (r.wv.take 71).all (fun l => decide (l.length ≤ 70)) = false := by
            rw [List.all_eq_false]
            exact ⟨nth r.wv k, by rw [nth_eq hlt]; exact List.mem_take_iff_getElem.2 ⟨k, by omega, rfl⟩, by simpa using hgt⟩
          simp [smallB, this]
        refine awp_seq_s KT_ok hc rfl fun K8 hK8 => ?_
        simp -dsimp -implicitDefEqProofs (disch := first | assumption | omega | (simp [maxLen, avs_len] <;> omega) | decide) only [sT_assign, sT_nil, q_f]
        refine hK8 _ _ ?_
        refine awp_ret ?_
        show closeA _ _ = _
        simp (disch := first | assumption | omega | (simp [maxLen, avs_len] <;> omega) | decide) only [closeA, retV, deep_d, Nat.zero_add, D.fix, frL_get, ↓reduceIte, Option.map_some, List.length_cons, List.length_nil, hx]
      · have hle : (nth r.wv k).length ≤ 70 := by simp at ht; omega
        refine awp_skip (hK6 _ _ ?_)
        refine awp_s KT_ok hc rfl fun K9 hK9 => ?_
        simp -dsimp -implicitDefEqProofs (disch := first | assumption | omega | (simp [maxLen, avs_len] <;> omega) | decide) only [sT_move, sT_assign, sT_bin, sT_nil, oK_some, q_o, binF_v, v_add, ↓reduceIte, q_b, q_f, Nat.reduceEqDiff]
        refine hK9 _ _ ⟨_, _, _, ?_, ⟨k + 1, ⟨by omega, by omega, fun j hj => by rcases Nat.lt_or_ge j k with h | h; exact hf j h; (obtain rfl : j = k := (by omega)); exact hle⟩, rfl, rfl, rfl⟩, ?_⟩
        · first | omega | (simp only [List.length_cons]; omega) | (dsimp only; omega)
        · refine Rt.end (less_cons (less_cons (less_nil _) rfl) rfl) ?_
          first | rfl | (simp only [intsD, boolsD, bytesD, intssD, bytessD, gcH, gcO, gcVs_avs, gcVs, gcV, gcV_d, fzH, fzO, fzVs_avs, fzVs, fzV, posN, avs_nil, avs_cons, List.map_cons, List.map_nil, List.getD_cons_zero, List.getD_cons_succ, ↓reduceIte, Nat.reduceEqDiff, Option.map_some, List.set_cons_zero, List.set_cons_succ, takeD_avs, takeD_all, Nat.mul_one, List.length_map, List.cons_append, List.nil_append, rolD, rolC]; first | done | rfl)
    · cases ht
  · simp -dsimp -implicitDefEqProofs (disch := first | assumption | omega | (simp [maxLen, avs_len] <;> omega) | decide) only [sT_move, sT_pick, sT_load, sT_fa, sT_bin, sT_len, sT_nil, sT_g, oK_some, gK_t, q_o, loadF, fieldAddrF, binF_v, lenF, builtinF, v_lss, ↓reduceIte, q_b, ifp, guardA_some, guardV_t, q_f, q_s, q_l, q_n, Nat.reduceEqDiff, avs_nil, avs_cons, iD, intsD, intssD, rolC, dec_t, dec_f, fo_29_2, sz_26, ag_26, eo_26]
    refine hK5 _ _ ?_
    refine awp_cond rfl (fun ht => ?_) (fun ht => ?_)
    · cases ht
    · refine awp_exit (hK2 _ _ ?_)
      have hal : k = 71 ∨ k = r.wv.length := by omega
      have hall : (r.wv.take 71).all (fun l => decide (l.length ≤ 70)) = true := List.all_eq_true.2 fun l hl => by
        obtain ⟨j, hj, rfl⟩ := List.mem_take_iff_getElem.1 hl
        have := hf j (by omega)
        rw [nth_eq (by omega)] at this
        simpa using this
      refine awp_seq_s KT_ok hc rfl fun K10 hK10 => ?_
      rcases (show r.wv.length ≤ 70 ∨ ¬ r.wv.length ≤ 70 from by omega) with h | h
      · exfalso
        omega
      · have hx : smallB r = false := by simp [smallB, h]
        simp -dsimp -implicitDefEqProofs (disch := first | assumption | omega | (simp [maxLen, avs_len] <;> omega) | decide) only [sT_move, sT_assign, sT_pick, sT_load, sT_fa, sT_bin, sT_len, sT_nil, sT_g, oK_some, gK_f, q_o, loadF, fieldAddrF, binF_v, lenF, builtinF, v_leq, ↓reduceIte, q_b, ifp, guardA_some, guardV_t, q_f, q_s, q_l, q_n, Nat.reduceEqDiff, dec_f, fo_29_2, sz_26, ag_26, eo_26]
        refine hK10 _ _ ?_
        refine awp_ret ?_
        show closeA _ _ = _
        simp (disch := first | assumption | omega | (simp [maxLen, avs_len] <;> omega) | decide) only [closeA, retV, deep_d, Nat.zero_add, D.fix, frL_get, ↓reduceIte, Option.map_some, List.length_cons, List.length_nil, hx]
  · simp -dsimp -implicitDefEqProofs (disch := first | assumption | omega | (simp [maxLen, avs_len] <;> omega) | decide) only [sT_move, sT_pick, sT_load, sT_fa, sT_bin, sT_len, sT_nil, sT_g, oK_some, gK_f, q_o, loadF, fieldAddrF, binF_v, lenF, builtinF, v_lss, ↓reduceIte, q_b, ifp, guardA_some, guardV_t, q_f, q_s, q_l, q_n, Nat.reduceEqDiff, avs_nil, avs_cons, iD, intsD, intssD, rolC, dec_f, fo_29_2, sz_26, ag_26, eo_26]
    refine hK5 _ _ ?_
    refine awp_cond rfl (fun ht => ?_) (fun ht => ?_)
    · cases ht
    · refine awp_exit (hK2 _ _ ?_)
      have hal : k = 71 ∨ k = r.wv.length := by omega
      have hall : (r.wv.take 71).all (fun l => decide (l.length ≤ 70)) = true := List.all_eq_true.2 fun l hl => by
        obtain ⟨j, hj, rfl⟩ := List.mem_take_iff_getElem.1 hl
        have := hf j (by omega)
        rw [nth_eq (by omega)] at this
        simpa using this
      refine awp_seq_s KT_ok hc rfl fun K11 hK11 => ?_
      rcases (show r.wv.length ≤ 70 ∨ ¬ r.wv.length ≤ 70 from by omega) with h | h
      · have hx : smallB r = decide ((r.dn.length : Int) ≤ 70) := by simp only [smallB, hall, h, decide_true, Bool.and_self, Bool.true_and]; rw [decide_eq_decide]; omega
        simp -dsimp -implicitDefEqProofs (disch := first | assumption | omega | (simp [maxLen, avs_len] <;> omega) | decide) only [sT_move, sT_assign, sT_pick, sT_load, sT_fa, sT_bin, sT_len, sT_nil, sT_g, oK_some, gK_t, q_o, loadF, fieldAddrF, binF_v, lenF, builtinF, v_leq, ↓reduceIte, q_b, ifp, guardA_some, guardV_t, q_f, q_s, q_l, q_n, Nat.reduceEqDiff, dec_t, fo_29_2, sz_26, ag_26, eo_26, fo_29_5, sz_27, ag_27, eo_27]
        refine hK11 _ _ ?_
        refine awp_ret ?_
        show closeA _ _ = _
        simp (disch := first | assumption | omega | (simp [maxLen, avs_len] <;> omega) | decide) only [closeA, retV, deep_d, Nat.zero_add, D.fix, frL_get, ↓reduceIte, Option.map_some, List.length_cons, List.length_nil, hx]
      · have hx : smallB r = false := by simp [smallB, h]
        simp -dsimp -implicitDefEqProofs (disch := first | assumption | omega | (simp [maxLen, avs_len] <;> omega) | decide) only [sT_move, sT_assign, sT_pick, sT_load, sT_fa, sT_bin, sT_len, sT_nil, sT_g, oK_some, gK_f, q_o, loadF, fieldAddrF, binF_v, lenF, builtinF, v_leq, ↓reduceIte, q_b, ifp, guardA_some, guardV_t, q_f, q_s, q_l, q_n, Nat.reduceEqDiff, dec_f, fo_29_2, sz_26, ag_26, eo_26]
        refine hK11 _ _ ?_
        refine awp_ret ?_
        show closeA _ _ = _
        simp (disch := first | assumption | omega | (simp [maxLen, avs_len] <;> omega) | decide) only [closeA, retV, deep_d, Nat.zero_add, D.fix, frL_get, ↓reduceIte, Option.map_some, List.length_cons, List.length_nil, hx]
end Go.Proofs.Ytinefghmmbggeaa

/- Valid rollouts: plain laws. -/
set_option linter.unusedVariables false
set_option linter.unusedSimpArgs false
namespace Go.Proofs.Ytinefghmmbggeaa
open Go Go.RowKit
theorem mem_upto {r : Rol} {n x : Int} : x ∈ uptoL r n ↔ ∃ j : Nat, (j : Int) < n ∧ j < r.wv.length ∧ x ∈ nth r.wv j := by
  unfold uptoL
  rw [List.mem_flatten]
  constructor
  · rintro ⟨l, hl, hx⟩
    obtain ⟨j, hj, rfl⟩ := List.mem_take_iff_getElem.1 hl
    exact ⟨j, by omega, by omega, by rw [nth_eq (by omega)]; exact hx⟩
  · rintro ⟨j, h1, h2, hx⟩
    exact ⟨nth r.wv j, by rw [nth_eq h2]; exact List.mem_take_iff_getElem.2 ⟨j, by omega, rfl⟩, hx⟩
theorem upto_mono {r : Rol} {m n x : Int} (h : m ≤ n) (hx : x ∈ uptoL r m) : x ∈ uptoL r n := by
  obtain ⟨j, h1, h2, h3⟩ := mem_upto.1 hx
  exact mem_upto.2 ⟨j, by omega, h2, h3⟩
theorem upto_all {r : Rol} : uptoL r r.wv.length = r.wv.flatten := by
  unfold uptoL
  rw [Int.toNat_natCast, List.take_length]
theorem flat_sub {r : Rol} {n x : Int} (hx : x ∈ uptoL r n) : x ∈ r.wv.flatten := by
  obtain ⟨j, h1, h2, h3⟩ := mem_upto.1 hx
  exact List.mem_flatten.2 ⟨_, nth_mem h2, h3⟩
/-- A chip is in one wave. -/
theorem wave_one {w : List (List Int)} (h : w.flatten.Nodup) {i j : Nat} {x : Int} (hi : i < w.length) (hj : j < w.length) (h1 : x ∈ nth w i) (h2 : x ∈ nth w j) : i = j := by
  have key : ∀ (i j : Nat), i < j → j < w.length → x ∈ nth w i → x ∈ nth w j → False := fun i j hij hj h1 h2 => by
    have e : w.flatten = (w.take (j + 1)).flatten ++ (w.drop (j + 1)).flatten := by rw [← List.flatten_append, List.take_append_drop]
    rw [e] at h
    have hn := (List.nodup_append.1 h).1
    rw [flat_step hj, List.nodup_append] at hn
    refine hn.2.2 x ?_ x h2 rfl
    exact List.mem_flatten.2 ⟨nth w i, by rw [nth_eq (by omega)]; exact List.mem_take_iff_getElem.2 ⟨i, by omega, rfl⟩, h1⟩
  rcases Nat.lt_trichotomy i j with hl | hl | hl
  · exact (key i j hl hj h1 h2).elim
  · exact hl
  · exact (key j i hl hi h2 h1).elim
theorem findI_spec {α : Type} [Inhabited α] {p : α → Bool} {l : List α} (h : 0 ≤ findI p l) : ∃ k : Nat, findI p l = k ∧ k < l.length ∧ p (nth l k) = true := by
  unfold findI at *
  cases hf : l.findIdx? p with
  | none => rw [hf] at h; simp at h
  | some i =>
    obtain ⟨h1, h2, _⟩ := List.findIdx?_eq_some_iff_getElem.1 hf
    exact ⟨i, rfl, h1, by rw [nth_eq h1]; exact h2⟩
theorem wave_spec {c : Int} {w : List (List Int)} (h : 0 ≤ waveI c w) : ∃ k : Nat, waveI c w = k ∧ k < w.length ∧ c ∈ nth w k := by
  obtain ⟨k, h1, h2, h3⟩ := findI_spec (p := inB c) h
  exact ⟨k, h1, h2, inB_iff.1 h3⟩
theorem wave_neg {c : Int} {w : List (List Int)} : waveI c w < 0 ↔ c ∉ w.flatten := by
  have := findI_neg (p := inB c) (l := w)
  constructor
  · intro h hm
    obtain ⟨l, hl, hc⟩ := List.mem_flatten.1 hm
    have h2 : w.any (inB c) = true := List.any_eq_true.2 ⟨l, hl, inB_iff.2 hc⟩
    rw [h2, decide_eq_true_eq] at this
    unfold waveI at h; omega
  · intro hm
    rcases (show waveI c w < 0 ∨ 0 ≤ waveI c w from by omega) with h | h
    · exact h
    · obtain ⟨k, _, h2, h3⟩ := wave_spec h
      exact (hm (List.mem_flatten.2 ⟨_, nth_mem h2, h3⟩)).elim
structure WOk (w : List (List Int)) : Prop where
  chip : ∀ x ∈ w.flatten, 0 ≤ x ∧ x < 64
  nd : w.flatten.Nodup
  full : ∀ k, k < w.length → nth w k ≠ []
  one : 1 ≤ w.length
  few : w.length ≤ 64
theorem wok_iff {w : List (List Int)} : validW w = true ↔ WOk w := by
  unfold validW
  simp only [Bool.and_eq_true, decide_eq_true_eq, chips_iff, fullB, List.all_eq_true]
  constructor
  · rintro ⟨⟨⟨⟨h1, h2⟩, h3⟩, h4⟩, h5⟩
    exact ⟨h1, h2, fun k hk => by have := h3 _ (nth_mem hk); simpa using this, h4, h5⟩
  · rintro ⟨h1, h2, h3, h4, h5⟩
    refine ⟨⟨⟨⟨h1, h2⟩, fun l hl => ?_⟩, h4⟩, h5⟩
    obtain ⟨i, hi, rfl⟩ := List.getElem_of_mem hl
    have := h3 i hi
    rw [nth_eq hi] at this
    simpa using this
/-- Where a rollout stands. -/
def PosOk (r : Rol) : Prop :=
  (r.st = 3 ∧ r.pos = r.wv.length ∧ ∀ x, x ∈ r.dn ↔ x ∈ uptoL r r.wv.length) ∨
  (r.st ≠ 3 ∧ r.pos < r.wv.length ∧ (∀ x ∈ r.dn, x ∈ uptoL r (r.pos + 1)) ∧
    (((r.st = 0 ∨ r.st = 1) ∧ (¬ ∀ x ∈ uptoL r (r.pos + 1), x ∈ r.dn) ∧ ∀ x ∈ uptoL r r.pos, x ∈ r.dn) ∨
    (r.st = 2 ∧ ¬ ∀ x ∈ uptoL r (r.pos + 1), x ∈ r.dn) ∨ (r.st = 4 ∧ ∀ x ∈ uptoL r (r.pos + 1), x ∈ r.dn)))
structure VR (r : Rol) : Prop where
  f1 : 1 ≤ r.frm
  t1 : 1 ≤ r.to
  ne : r.frm ≠ r.to
  s0 : 0 ≤ r.slk
  w : WOk r.wv
  p0 : 0 ≤ r.pos
  inc : Inc r.dn
  pok : PosOk r
theorem vr_iff {r : Rol} : validR r = true ↔ VR r := by
  have hsub : ∀ a b : List Int, (subB a b = false) ↔ ¬ ∀ x ∈ a, x ∈ b := fun a b => by rw [← Bool.not_eq_true, subB_iff]
  have hst : stateB r = true ∧ r.pos ≤ r.wv.length ↔ PosOk r := by
    unfold stateB PosOk
    by_cases h3 : r.st = 3
    · simp only [h3, if_true, Bool.and_eq_true, beq_iff_eq, subB_iff, true_and, ne_eq, not_true_eq_false, false_and, or_false]
      constructor
      · rintro ⟨⟨⟨h1, h2⟩, h4⟩, _⟩
        exact ⟨h1, fun x => ⟨h4 x, h2 x⟩⟩
      · rintro ⟨h1, h2⟩
        exact ⟨⟨⟨h1, fun x hx => (h2 x).2 hx⟩, fun x hx => (h2 x).1 hx⟩, by omega⟩
    · simp only [h3, if_false, Bool.and_eq_true, bne_iff_ne, ne_eq, subB_iff, false_and, false_or, not_false_eq_true, true_and]
      constructor
      · rintro ⟨⟨⟨h1, h2⟩, h4⟩, h5⟩
        refine ⟨by omega, h2, ?_⟩
        by_cases h01 : r.st = 0 ∨ r.st = 1
        · rw [if_pos h01, Bool.and_eq_true, Bool.not_eq_true', hsub, subB_iff] at h4
          exact .inl ⟨h01, h4⟩
        · rw [if_neg h01] at h4
          by_cases h22 : r.st = 2
          · rw [if_pos h22, Bool.not_eq_true', hsub] at h4
            exact .inr (.inl ⟨h22, h4⟩)
          · rw [if_neg h22] at h4
            by_cases h44 : r.st = 4
            · rw [if_pos h44, subB_iff] at h4
              exact .inr (.inr ⟨h44, h4⟩)
            · rw [if_neg h44] at h4; cases h4
      · rintro ⟨h1, h2, h4⟩
        refine ⟨⟨⟨by omega, h2⟩, ?_⟩, by omega⟩
        rcases h4 with ⟨h5, h6, h7⟩ | ⟨h5, h6⟩ | ⟨h5, h6⟩
        · rw [if_pos h5, Bool.and_eq_true, Bool.not_eq_true', hsub, subB_iff]; exact ⟨h6, h7⟩
        · rw [if_neg (by omega), if_pos h5, Bool.not_eq_true', hsub]; exact h6
        · rw [if_neg (by omega), if_neg (by omega), if_pos h5, subB_iff]; exact h6
  unfold validR headB
  simp only [Bool.and_eq_true, decide_eq_true_eq, bne_iff_ne, ne_eq, wok_iff, incB_inc]
  constructor
  · rintro ⟨⟨⟨⟨⟨⟨⟨⟨a1, a2⟩, a3⟩, a4⟩, a5⟩, a6⟩, a7⟩, a8⟩, a9⟩
    exact ⟨a1, a2, a3, a4, a5, a6, a8, hst.1 ⟨a9, a7⟩⟩
  · rintro ⟨a1, a2, a3, a4, a5, a6, a7, a8⟩
    obtain ⟨b1, b2⟩ := hst.2 a8
    exact ⟨⟨⟨⟨⟨⟨⟨⟨a1, a2⟩, a3⟩, a4⟩, a5⟩, a6⟩, b2⟩, a7⟩, b1⟩
theorem VR.dsub {r : Rol} (h : VR r) : ∀ x ∈ r.dn, x ∈ r.wv.flatten := fun x hx => by
  rcases h.pok with ⟨_, _, h2⟩ | ⟨_, _, h2, _⟩
  · exact flat_sub ((h2 x).1 hx)
  · exact flat_sub (h2 x hx)
theorem VR.flen {r : Rol} (h : VR r) : r.wv.flatten.length ≤ 64 := pigeon h.w.nd h.w.chip
theorem VR.dlen {r : Rol} (h : VR r) : r.dn.length ≤ 64 := pigeon (h.inc.imp fun h e => by omega) fun x hx => h.w.chip x (h.dsub x hx)
theorem VR.short {r : Rol} (h : VR r) : ShortR r := ⟨by have := h.w.few; omega, by have := h.flen; unfold sumL; omega, by have := h.dlen; omega⟩
theorem VR.ok {r : Rol} (h : VR r) : OkI r := ⟨fun l hl x hx => by have := h.w.chip x (List.mem_flatten.2 ⟨l, hl, hx⟩); exact ⟨by omega, by omega⟩, fun x hx => by have := h.w.chip x (h.dsub x hx); exact ⟨by omega, by omega⟩, by
  have h0 := h.p0
  have hf := h.w.few
  have hl : r.pos ≤ r.wv.length := by rcases h.pok with ⟨_, h1, _⟩ | ⟨_, h1, _⟩ <;> omega
  exact ⟨by omega, by omega⟩⟩
theorem VR.stb {r : Rol} (h : VR r) : 0 ≤ r.st ∧ r.st ≤ 4 := by rcases h.pok with ⟨h1, _⟩ | ⟨_, _, _, ⟨h1, _⟩ | ⟨h1, _⟩ | ⟨h1, _⟩⟩ <;> omega
theorem VR.posb {r : Rol} (h : VR r) (h3 : r.st ≠ 3) : 0 ≤ r.pos ∧ r.pos < r.wv.length := by
  rcases h.pok with ⟨h1, _⟩ | ⟨_, h1, _⟩
  · exact (h3 h1).elim
  · exact ⟨h.p0, h1⟩
theorem VR.pos02 {r : Rol} (h : VR r) : r.st = 0 ∨ r.st = 2 → 0 ≤ r.pos ∧ r.pos < r.wv.length := fun hs => h.posb (by omega)
theorem VR.see {r : Rol} (h : VR r) {p : Rep} (hp : I64 p.chip) : SeeOk r p := ⟨h.short, h.ok, hp, by have := h.dlen; omega, h.stb.1, h.stb.2, h.pos02⟩
theorem mem_done {r : Rol} {p : Rep} {x : Int} : x ∈ listS (doneS r p) ↔ x = p.chip ∨ x ∈ r.dn := by
  rw [mem_listS]; unfold doneS; rw [mem_put, mem_of]
theorem inc_done {r : Rol} {p : Rep} (h : Inc r.dn) : Inc (listS (doneS r p)) := by
  have : listS (doneS r p) = insL p.chip r.dn := (ins_put h).symm
  rw [this]; exact inc_ins h
theorem allIn_iff {σ : SetS} {l : List Int} : allIn σ l = true ↔ ∀ x ∈ l, x ∈ listS σ := by
  unfold allIn
  rw [List.all_eq_true]
  simp only [decide_eq_true_eq, mem_listS]
/-- A chip of the waves that have started. -/
theorem chip_started {r : Rol} {c : Int} (h0 : ¬ waveI c r.wv < 0) (h1 : ¬ r.pos < waveI c r.wv) : c ∈ uptoL r (r.pos + 1) := by
  obtain ⟨k, h2, h3, h4⟩ := wave_spec (by omega : 0 ≤ waveI c r.wv)
  exact mem_upto.2 ⟨k, by omega, h3, h4⟩
theorem upto_st {r : Rol} {n : Int} {d : List Int} {s p : Int} : uptoL { r with dn := d, pos := p, st := s } n = uptoL r n := rfl
theorem VR.active {r : Rol} (h : VR r) (h0 : r.st = 0) {p : Rep} (hw : ¬ waveI p.chip r.wv < 0) : VR (activeG r p) := by
  have hold : VR { r with st := 1 } := by
    refine ⟨h.f1, h.t1, h.ne, h.s0, h.w, h.p0, h.inc, ?_⟩
    rcases h.pok with ⟨h1, _⟩ | ⟨_, h2, h3, h4⟩
    · omega
    · refine .inr ⟨by simp, h2, h3, .inl ⟨.inr rfl, ?_⟩⟩
      rcases h4 with ⟨_, h5⟩ | ⟨h5, _⟩ | ⟨h5, _⟩
      · exact h5
      · omega
      · omega
  unfold activeG
  split
  · split
    · exact hold
    · exact h
  · split
    · exact hold
    · rename_i hno hg
      simp only [not_or] at hg
      have hst := chip_started hw hg.2.2.2
      rcases h.pok with ⟨h1, _⟩ | ⟨_, h2, h3, h4⟩
      · omega
      have h5 : (¬ ∀ x ∈ uptoL r (r.pos + 1), x ∈ r.dn) ∧ ∀ x ∈ uptoL r r.pos, x ∈ r.dn := by
        rcases h4 with ⟨_, h5⟩ | ⟨h5, _⟩ | ⟨h5, _⟩
        · exact h5
        · omega
        · omega
      have hp0 := h.p0
      have hd : ∀ x ∈ listS (doneS r p), x ∈ uptoL r (r.pos + 1) := fun x hx => by
        rcases mem_done.1 hx with rfl | hx
        · exact hst
        · exact h3 x hx
      have hnth : ∀ x, x ∈ uptoL r (r.pos + 1) ↔ x ∈ uptoL r r.pos ∨ x ∈ nth r.wv r.pos.toNat := fun x => by
        constructor
        · intro hx
          obtain ⟨j, j1, j2, j3⟩ := mem_upto.1 hx
          rcases (show (j : Int) < r.pos ∨ j = r.pos.toNat from by omega) with hj | rfl
          · exact .inl (mem_upto.2 ⟨j, hj, j2, j3⟩)
          · exact .inr j3
        · rintro (hx | hx)
          · exact upto_mono (by omega) hx
          · exact mem_upto.2 ⟨r.pos.toNat, by omega, by omega, hx⟩
      split
      · rename_i hall
        have hall := allIn_iff.1 hall
        have hfull : ∀ x ∈ uptoL r (r.pos + 1), x ∈ listS (doneS r p) := fun x hx => by
          rcases (hnth x).1 hx with hx | hx
          · exact mem_done.2 (.inr (h5.2 x hx))
          · exact hall x hx
        split
        · rename_i he
          refine ⟨h.f1, h.t1, h.ne, h.s0, h.w, by show 0 ≤ r.pos + 1; omega, inc_done h.inc, .inl ⟨rfl, he, fun x => ?_⟩⟩
          show x ∈ listS (doneS r p) ↔ x ∈ uptoL r r.wv.length
          rw [← he]
          exact ⟨hd x, hfull x⟩
        · rename_i he
          refine ⟨h.f1, h.t1, h.ne, h.s0, h.w, by show 0 ≤ r.pos + 1; omega, inc_done h.inc, .inr ⟨by show r.st ≠ 3; omega, by show r.pos + 1 < r.wv.length; omega, fun x hx => upto_mono (by show r.pos + 1 ≤ r.pos + 1 + 1; omega) (hd x hx), .inl ⟨.inl h0, fun hh => ?_, hfull⟩⟩⟩
          have hlt : r.pos.toNat + 1 < r.wv.length := by omega
          have hne := h.w.full (r.pos.toNat + 1) hlt
          obtain ⟨y, hy⟩ := List.exists_mem_of_ne_nil _ hne
          have hyd := hd y (hh y (mem_upto.2 ⟨r.pos.toNat + 1, by show ((r.pos.toNat + 1 : Nat) : Int) < r.pos + 1 + 1; omega, hlt, hy⟩))
          obtain ⟨j, j1, j2, j3⟩ := mem_upto.1 hyd
          have := wave_one h.w.nd j2 hlt j3 hy
          omega
      · rename_i hall
        refine ⟨h.f1, h.t1, h.ne, h.s0, h.w, hp0, inc_done h.inc, .inr ⟨by show r.st ≠ 3; omega, h2, hd, .inl ⟨.inl h0, fun hh => hall (allIn_iff.2 fun x hx => hh x ((hnth x).2 (.inr hx))), fun x hx => mem_done.2 (.inr (h5.2 x hx))⟩⟩⟩
theorem VR.turned {r : Rol} (h : VR r) (h0 : r.st = 2) {p : Rep} (hw : ¬ waveI p.chip r.wv < 0) : VR (turnedG r p) := by
  unfold turnedG
  split
  · exact h
  · rename_i hg
    simp only [not_or] at hg
    have hst := chip_started hw hg.2.2
    rcases h.pok with ⟨h1, _⟩ | ⟨_, h2, h3, _⟩
    · omega
    have hd : ∀ x ∈ listS (doneS r p), x ∈ uptoL r (r.pos + 1) := fun x hx => by
      rcases mem_done.1 hx with rfl | hx
      · exact hst
      · exact h3 x hx
    split
    · rename_i hall
      exact ⟨h.f1, h.t1, h.ne, h.s0, h.w, h.p0, inc_done h.inc, .inr ⟨by simp, h2, hd, .inr (.inr ⟨rfl, allIn_iff.1 hall⟩)⟩⟩
    · rename_i hall
      exact ⟨h.f1, h.t1, h.ne, h.s0, h.w, h.p0, inc_done h.inc, .inr ⟨by show r.st ≠ 3; omega, h2, hd, .inr (.inl ⟨h0, fun hh => hall (allIn_iff.2 hh)⟩)⟩⟩
theorem see_err {r : Rol} {p : Rep} : (seeG r p).2 = 0 ↔ ¬ (waveI p.chip r.wv < 0 ∨ (p.no ≠ r.frm ∧ p.no ≠ r.to)) := by
  unfold seeG
  split
  · rename_i h; simp [h]
  · rename_i h
    simp only [h, not_false_eq_true, iff_true]
    split
    · rfl
    · split <;> rfl
theorem VR.seeG {r : Rol} (h : VR r) {p : Rep} (he : (seeG r p).2 = 0) : VR (seeG r p).1 := by
  have hn := see_err.1 he
  have hw : ¬ waveI p.chip r.wv < 0 := fun h => hn (.inl h)
  unfold Go.Proofs.Ytinefghmmbggeaa.seeG
  rw [if_neg hn]
  split
  · rename_i h0; exact h.active h0 hw
  · split
    · rename_i h0; exact h.turned h0 hw
    · exact h
theorem VR.resume {r : Rol} (h : VR r) (h1 : r.st = 1) : VR { r with st := 0 } := by
  refine ⟨h.f1, h.t1, h.ne, h.s0, h.w, h.p0, h.inc, ?_⟩
  rcases h.pok with ⟨h1, _⟩ | ⟨_, h2, h3, h4⟩
  · omega
  · refine .inr ⟨by simp, h2, h3, .inl ⟨.inl rfl, ?_⟩⟩
    rcases h4 with ⟨_, h5⟩ | ⟨h5, _⟩ | ⟨h5, _⟩
    · exact h5
    · omega
    · omega
theorem upto_ne {r : Rol} (hw : WOk r.wv) {n : Int} (h : 0 < n) : ∃ x, x ∈ uptoL r n := by
  have h1 := hw.one
  obtain ⟨y, hy⟩ := List.exists_mem_of_ne_nil _ (hw.full 0 (by omega))
  exact ⟨y, mem_upto.2 ⟨0, by omega, by omega, hy⟩⟩
theorem VR.back {r : Rol} (h : VR r) : VR { r with st := 2, dn := [], pos := min r.pos (r.wv.length - 1) } := by
  have h0 := h.p0
  have h1 := h.w.one
  refine ⟨h.f1, h.t1, h.ne, h.s0, h.w, by show 0 ≤ min r.pos ((r.wv.length : Int) - 1); omega, List.Pairwise.nil, .inr ⟨by simp, by show min r.pos ((r.wv.length : Int) - 1) < r.wv.length; omega, fun x hx => (by cases hx), .inr (.inl ⟨rfl, fun hh => ?_⟩)⟩⟩
  obtain ⟨x, hx⟩ := upto_ne (r := r) h.w (n := min r.pos ((r.wv.length : Int) - 1) + 1) (by omega)
  have := hh x hx
  cases this
theorem VR.new {a b : Int} {w : List (List Int)} {s : Int} (h1 : 1 ≤ a) (h2 : 1 ≤ b) (h3 : a ≠ b) (h4 : 0 ≤ s) (hw : WOk w) : VR (newR a b w s) := by
  have h5 := hw.one
  refine ⟨h1, h2, h3, h4, hw, Int.le_refl 0, List.Pairwise.nil, .inr ⟨by simp [newR], by show (0 : Int) < w.length; omega, fun x hx => (by cases hx), .inl ⟨.inl rfl, fun hh => ?_, fun x hx => ?_⟩⟩⟩
  · obtain ⟨x, hx⟩ := upto_ne (r := newR a b w s) hw (n := 0 + 1) (by omega)
    have := hh x hx
    cases this
  · obtain ⟨j, h1, _⟩ := mem_upto.1 hx
    have : (j : Int) < 0 := h1
    omega
end Go.Proofs.Ytinefghmmbggeaa

/- The reference: Start, Report, Next, Made. -/
set_option linter.unusedVariables false
set_option linter.unusedSimpArgs false
namespace Go.Proofs.Ytinefghmmbggeaa
open Go Go.RowKit
/-- A step, and what describes a rollout. -/
structure Sp where
  kind : Int
  chip : Int
  slk : Int
  same : Bool
  runs : Bool
  new : Bool
  deriving Inhabited
structure Rw where
  ws : List Int
  slk : Int
  steps : List Sp
  deriving Inhabited
def spC (s : Sp) : List D := [bD s.kind, bD s.chip, bD s.slk, oD s.same, oD s.runs, oD s.new]
def spD (s : Sp) : D := .agg (spC s)
def spsD (l : List Sp) : D := .fs (l.flatMap spC) l.length
def rwD (x : Rw) : D := .agg [bytesD x.ws, bD x.slk, spsD x.steps]
theorem sp_w (s : Sp) : (spC s).length = 6 := rfl
theorem sp_row {l : List Sp} {k : Nat} (h : k < l.length) : takeD (l.flatMap spC) (k * 6) 6 = some (spC (nth l k)) := flat_row sp_w h
theorem sps_len {l : List Sp} : (l.flatMap spC).length = l.length * 6 := flat_len sp_w l
def B8 (n : Int) : Prop := 0 ≤ n ∧ n < 256
structure SpOk (s : Sp) : Prop where
  k : B8 s.kind
  c : B8 s.chip
  s : B8 s.slk
structure RwOk (x : Rw) : Prop where
  w : ∀ b ∈ x.ws, B8 b
  s : B8 x.slk
  st : ∀ s ∈ x.steps, SpOk s
/-- The waves that bytes say: the chips so far, and the waves so far. -/
def stW (σ : List Int × List (List Int)) (b : Int) : List Int × List (List Int) :=
  if inB (b % 12) σ.1 = true then σ
  else (σ.1 ++ [b % 12], if 128 ≤ b ∧ 0 < σ.2.length then σ.2.set (σ.2.length - 1) (nth σ.2 (σ.2.length - 1) ++ [b % 12]) else σ.2 ++ [[b % 12]])
def stS (l : List Int) : List Int × List (List Int) := l.foldl stW ([], [])
theorem stS_step {l : List Int} {k : Nat} (h : k < l.length) : stS (l.take (k + 1)) = stW (stS (l.take k)) (nth l k) := by
  rw [take_nth h]; simp [stS]
structure StOk (σ : List Int × List (List Int)) (n : Nat) : Prop where
  flat : σ.2.flatten = σ.1
  nd : σ.1.Nodup
  rng : ∀ x ∈ σ.1, 0 ≤ x ∧ x < 12
  full : ∀ k, k < σ.2.length → nth σ.2 k ≠ []
  len : σ.1.length ≤ n
  wl : σ.2.length ≤ n
theorem set_last {W : List (List Int)} (h : 0 < W.length) (c : Int) : (W.set (W.length - 1) (nth W (W.length - 1) ++ [c])).flatten = W.flatten ++ [c] := by
  have e : W = W.take (W.length - 1) ++ [nth W (W.length - 1)] := by
    rw [← take_nth (by omega), show W.length - 1 + 1 = W.length by omega, List.take_length]
  generalize hL : nth W (W.length - 1) = L at e ⊢
  generalize hT : W.take (W.length - 1) = T at e
  have hl : W.length - 1 = T.length := by rw [← hT]; simp
  rw [hl, e]
  simp
theorem stOk_step {σ : List Int × List (List Int)} {n : Nat} (h : StOk σ n) {b : Int} (hb : B8 b) : StOk (stW σ b) (n + 1) := by
  unfold stW
  split
  · exact ⟨h.flat, h.nd, h.rng, h.full, by have := h.len; omega, by have := h.wl; omega⟩
  · rename_i hn
    have hn : b % 12 ∉ σ.1 := fun hm => hn (inB_iff.2 hm)
    have hnd : (σ.1 ++ [b % 12]).Nodup := List.nodup_append.2 ⟨h.nd, by simp, fun a ha c hc e => hn (by rw [List.mem_singleton] at hc; rw [← hc, ← e]; exact ha)⟩
    have hr : ∀ x ∈ σ.1 ++ [b % 12], 0 ≤ x ∧ x < 12 := fun x hx => by
      rcases List.mem_append.1 hx with hx | hx
      · exact h.rng x hx
      · rw [List.mem_singleton] at hx; subst hx
        have := hb.1
        exact ⟨by omega, by omega⟩
    split
    · rename_i hc
      refine ⟨by show (σ.2.set _ _).flatten = _; rw [set_last hc.2, h.flat], hnd, hr, fun k hk => ?_, by simp; exact h.len, by simp; have := h.wl; omega⟩
      have hk : k < σ.2.length := by simpa using hk
      show nth (σ.2.set (σ.2.length - 1) _) k ≠ []
      rcases Nat.decEq k (σ.2.length - 1) with he | he
      · rw [nth_set_ne (fun e => he e.symm)]; exact h.full k hk
      · subst he; rw [nth_set_eq hk]; simp
    · refine ⟨by show (σ.2 ++ [[b % 12]]).flatten = _; rw [List.flatten_append, h.flat]; simp, hnd, hr, fun k hk => ?_, by simp; exact h.len, by simp; have := h.wl; omega⟩
      show nth (σ.2 ++ [[b % 12]]) k ≠ []
      have hk : k < σ.2.length + 1 := by simpa using hk
      rcases Nat.lt_or_ge k σ.2.length with hl | hl
      · rw [nth_append_left hl]; exact h.full k hl
      · obtain rfl : k = σ.2.length := by omega
        rw [nth_append_end]; simp
theorem stOk : ∀ {l : List Int}, (∀ b ∈ l, B8 b) → ∀ {σ : List Int × List (List Int)} {n : Nat}, StOk σ n → StOk (l.foldl stW σ) (n + l.length)
  | [], _, _, _, h => h
  | b :: l, hb, σ, n, h => by
    have := stOk (l := l) (fun b hb' => hb b (List.mem_cons_of_mem _ hb')) (stOk_step h (hb b (List.mem_cons_self ..)))
    rw [List.length_cons, show n + (l.length + 1) = n + 1 + l.length by omega]
    exact this
theorem stOk_take {l : List Int} (h : ∀ b ∈ l, B8 b) (k : Nat) : StOk (stS (l.take k)) k := by
  have := stOk (l := l.take k) (fun b hb => h b (List.mem_of_mem_take hb)) (σ := ([], [])) (n := 0) ⟨rfl, List.nodup_nil, fun x hx => (by cases hx), fun k hk => by simp at hk, Nat.le_refl _, Nat.le_refl _⟩
  have hl : (l.take k).length ≤ k := by simp; omega
  exact ⟨this.flat, this.nd, this.rng, this.full, by have := this.len; unfold stS; omega, by have := this.wl; unfold stS; omega⟩
/-- The waves. -/
def rawW (x : Rw) : List (List Int) := if (stS (x.ws.take 10)).2.length = 0 then [[0, 5]] else (stS (x.ws.take 10)).2
theorem rawW_ok {x : Rw} (h : RwOk x) : WOk (rawW x) := by
  unfold rawW
  split
  · refine ⟨by simp, by simp, fun k hk => ?_, by simp, by simp⟩
    have : k = 0 := by simpa using hk
    subst this; simp [nth]
  · rename_i hn
    have := stOk_take h.w 10
    exact ⟨fun x hx => by have := this.rng x (this.flat ▸ hx); omega, this.flat ▸ this.nd, this.full, by omega, by have := this.wl; omega⟩
def startR (x : Rw) : Rol := newR 3 4 (rawW x) (x.slk % 8)
theorem startR_ok {x : Rw} (h : RwOk x) : VR (startR x) := VR.new (by decide) (by decide) (by decide) (by have := h.s.1; omega) (rawW_ok h)
theorem startR_new {x : Rw} (h : RwOk x) : newG 3 4 (rawW x) (x.slk % 8) = (startR x, 0) := by
  unfold newG
  rw [show validR (newR 3 4 (rawW x) (x.slk % 8)) = true from vr_iff.2 (startR_ok h)]; rfl
theorem baseOk_in {N : Nat} {al : List Nat} {k id off n : Nat} (h : al.contains (id - N) = true) : baseOk N al (.os k id off n) = true := by
  unfold baseOk; simp only [h, Bool.or_true]
theorem gcVs_set {keep : List Nat} {a : List D} {i : Nat} {x : AV} : gcVs keep ((avs a).set i x) = (avs a).set i (gcV keep x) := by
  rw [gcVs_eq, List.map_set]
  congr 1
  rw [← gcVs_eq]; exact gcVs_avs
theorem gcVs_app {keep : List Nat} {a : List D} {x : AV} : gcVs keep (avs a ++ [x]) = avs a ++ [gcV keep x] := by
  rw [gcVs_eq, List.map_append]
  congr 1
  rw [← gcVs_eq]; exact gcVs_avs
theorem fzVs_app {id : Nat} {l : List D} {a : List D} {x : AV} : fzVs id l (avs a ++ [x]) = avs a ++ [fzV id l x] := by
  rw [fzVs_eq, List.map_append]
  congr 1
  rw [← fzVs_eq]; exact fzVs_avs
theorem takeD_1 {α : Type} {x : α} : takeD [x] 0 1 = some [x] := rfl
theorem fzVs_set {id : Nat} {l : List D} {a : List D} {i : Nat} {x : AV} : fzVs id l ((avs a).set i x) = (avs a).set i (fzV id l x) := by
  rw [fzVs_eq, List.map_set]
  congr 1
  rw [← fzVs_eq]; exact fzVs_avs
set_option maxRecDepth 100000 in
set_option linter.unusedVariables false in
set_option maxHeartbeats 4000000 in
theorem start_c (x : Rw) (hx : RwOk x) : PCalls Try.prog 27 [rwD x] (.d (rolD (startR x))) := by
  refine pcalls_of0 (fn := Try.f27) (by kernel_rfl) Try.func27 rfl (Nat.le_of_ble_eq_true rfl) fun c hc hp => ?_
  refine awp_less (τ' := frL [(0, .d (rwD x))]) (less_cons (less_nil _) rfl) ?_
  have hs0 := hx.s.1
  have hs1 := hx.s.2
  refine awp_seq_s KT_ok hc rfl fun K1 hK1 => ?_
  simp -dsimp -implicitDefEqProofs (disch := first | assumption | omega | (simp [maxLen, avs_len] <;> omega) | decide) only [sT_box, sT_alloc, deadH, sT_nil, oK_some, q_o, layF, ↓reduceIte, q_b, q_f, q_s, q_l, as_dagg, D.one, Value.oneCell', q_n, map_d, avs_nil, avs_cons, bD, bytesD, deadH, rwD, bytesD, spsD, za_29]
  refine hK1 _ _ ?_
  refine awp_seq_s KT_ok hc rfl fun K2 hK2 => ?_
  simp -dsimp -implicitDefEqProofs (disch := first | assumption | omega | (simp [maxLen, avs_len] <;> omega) | decide) only [sT_load, sT_fa, sT_bin, sT_conv, sT_build, sT_alloc, sT_store, deadH, sT_nil, oK_some, q_o, loadF, fieldAddrF, binF_v, convF, buildF, layF, storeF, v_rem, ↓reduceIte, q_b, ifp, ifn, q_f, q_s, q_l, q_a, fill_cons, AV.one, D.one, Value.oneCell', q_n, Nat.reduceEqDiff, map_d, avs_nil, avs_cons, w_i64, Nat.reduceAdd, deadH, fo_25_1, sz_5, ag_5, ik_5, ik_3, pa_35, pl_35_0, pl_35_1, pl_35_3, sz_35, za_35, zc_35]
  refine hK2 _ _ ?_
  refine awp_seq_s KT_ok hc rfl fun K3 hK3 => ?_
  simp -dsimp -implicitDefEqProofs (disch := first | assumption | omega | (simp [maxLen, avs_len] <;> omega) | decide) only [sT_assign, sT_bs, deadH, sT_nil, oK_some, q_o, layF, ↓reduceIte, q_b, ifp, q_f, q_s, q_l, List.replicate_zero, reps_def, q_a, q_n, Nat.reduceAdd, deadH, mk_27]
  refine hK3 _ _ ?_
  refine awp_seq_k fun K4 hK4 => ?_
  refine awp_seq_s KT_ok hc rfl fun K5 hK5 => ?_
  simp -dsimp -implicitDefEqProofs (disch := first | assumption | omega | (simp [maxLen, avs_len] <;> omega) | decide) only [sT_assign, sT_nil, q_f]
  refine hK5 _ _ ?_
  refine awp_block ?_
  refine awp_loop_rt hp (fun τ' H' mm => ∃ k, (k ≤ x.ws.length ∧ k ≤ 10) ∧ mm = 10 - k ∧ H' = [.cells [.d (bytesD x.ws), .d (bD x.slk), .d (spsD x.steps)], .cells [.d (iD 0), .d (iD 0), .d (.val (.slice none 0 0)), .d (iD 0), .d (iD 0), .d (.val (.slice none 0 0)), .d (iD 0)], .cells [.d (iD 3), .d (iD 4), .os 1 4 0 (stS (x.ws.take k)).2.length, .d (iD (x.slk % 8))], .cells (avs ((stS (x.ws.take k)).1.map iD)), .cells (avs ((stS (x.ws.take k)).2.map intsD))] ∧ τ' = frL [(1, .op 0 0), (2, .op 1 0), (3, .op 2 0), (4, .os 1 3 0 (stS (x.ws.take k)).1.length), (5, .d (iD k))]) (10) ?_ ⟨0, ⟨Nat.zero_le _, Nat.zero_le _⟩, rfl, rfl, rfl⟩ ?_
  · refine Rt.trans (Rt.nilc 2 2 1 rfl rfl) ?_
    refine Rt.end (less_cons (less_cons (less_cons (less_cons (less_cons (less_nil _) rfl) rfl) rfl) rfl) rfl) ?_
    first | rfl | (simp only [intsD, boolsD, bytesD, intssD, bytessD, gcH, gcO, gcVs_avs, gcVs, gcV, gcV_d, fzH, fzO, fzVs_avs, fzVs, fzV, posN, avs_nil, avs_cons, List.map_cons, List.map_nil, List.getD_cons_zero, List.getD_cons_succ, ↓reduceIte, Nat.reduceEqDiff, Option.map_some, List.set_cons_zero, List.set_cons_succ, takeD_avs, takeD_all, Nat.mul_one, List.length_map, List.cons_append, List.nil_append, rwD, planD, bytesD, spsD]; first | done | rfl)
  rintro τ' H' mm ⟨k, ⟨hk, hk2⟩, rfl, rfl, rfl⟩
  refine awp_seq_k fun K6 hK6 => ?_
  refine awp_seq_s KT_ok hc rfl fun K7 hK7 => ?_
  rcases (show (k < x.ws.length ∧ k < 10) ∨ (k < x.ws.length ∧ ¬ k < 10) ∨ ¬ k < x.ws.length from by omega) with ⟨hlt, hlt2⟩ | ⟨hlt, hlt2⟩ | hlt
  · simp -dsimp -implicitDefEqProofs (disch := first | assumption | omega | (simp [maxLen, avs_len] <;> omega) | decide) only [sT_move, sT_pick, sT_load, sT_fa, sT_bin, sT_len, sT_nil, sT_g, oK_some, gK_t, q_o, loadF, fieldAddrF, binF_v, lenF, builtinF, v_lss, ↓reduceIte, q_b, ifp, guardA_some, guardV_t, q_f, q_s, q_l, q_n, Nat.reduceEqDiff, iD, bD, bytesD, Nat.reduceAdd, bytesD, spsD, dec_t, fo_25_0, sz_22, ag_22, eo_22]
    refine hK7 _ _ ?_
    refine awp_cond rfl (fun ht => ?_) (fun ht => ?_)
    · have hb := hx.w _ (nth_mem hlt)
      have hb0 := hb.1
      have hb1 := hb.2
      have hso := stOk_take hx.w k
      have hl1 := hso.len
      have hl2 := hso.wl
      have hst := stS_step hlt
      refine awp_skip (hK6 _ _ ?_)
      refine awp_seq_k fun K8 hK8 => ?_
      refine awp_block ?_
      refine awp_seq_s KT_ok hc rfl fun K9 hK9 => ?_
      simp -dsimp -implicitDefEqProofs (disch := first | assumption | omega | (simp [maxLen, avs_len] <;> omega) | decide) only [sT_move, sT_assign, sT_load, sT_fa, sT_ia, sT_bin, sT_conv, sT_nil, oK_some, q_o, loadF, fieldAddrF, ixO, indexAddrF, binF_v, convF, v_rem, ↓reduceIte, q_b, ifp, q_f, q_l, Int.toNat_natCast, q_n, Nat.reduceEqDiff, get_map, w_i64, bD, Nat.reduceAdd, fo_25_0, sz_22, ag_22, eo_22, sz_5, ag_5, ik_5, ik_3]
      refine hK9 _ _ ?_
      refine awp_seq_k fun K10 hK10 => ?_
      refine awp_seq_s KT_ok hc rfl fun K11 hK11 => ?_
      simp -dsimp -implicitDefEqProofs (disch := first | assumption | omega | (simp [maxLen, avs_len] <;> omega) | decide) only [sT_move, sT_call0, ↓reduceIte, q_b, q_f, q_s, q_l, q_n, Nat.reduceEqDiff, Nat.reduceAdd]
      refine kc_own (in_c (stS (x.ws.take k)).1 (nth x.ws k % 12) (by omega)) ?_ ?_
      · simp (disch := first | assumption | omega | (simp [maxLen, avs_len] <;> omega) | decide) only [deep_d, deepL_avs, deepL_nil, deepL_cons, lookH_eq, cellsOf_c, deep_os, Nat.reduceAdd, takeD_all, fixm_i, D.fix, Option.map_some, Option.bind_some, Nat.mul_one, List.getElem?_cons_zero, List.getElem?_cons_succ, iD, intsD]
      simp -dsimp -implicitDefEqProofs (disch := first | assumption | omega | (simp [maxLen, avs_len] <;> omega) | decide) only [sT_nil, q_f]
      refine hK11 _ _ ?_
      refine awp_cond rfl (fun ht => ?_) (fun ht => ?_)
      · have hs1 : stS (x.ws.take (k + 1)) = stS (x.ws.take k) := by rw [hst]; simp [stW, ht]
        clear hst
        refine awp_exit (hK8 _ _ ?_)
        refine awp_s KT_ok hc rfl fun K12 hK12 => ?_
        simp -dsimp -implicitDefEqProofs (disch := first | assumption | omega | (simp [maxLen, avs_len] <;> omega) | decide) only [sT_move, sT_assign, sT_bin, sT_nil, oK_some, q_o, binF_v, v_add, ↓reduceIte, q_b, q_f, Nat.reduceEqDiff]
        refine hK12 _ _ ⟨_, _, _, ?_, ⟨k + 1, ⟨by omega, by omega⟩, rfl, rfl, rfl⟩, ?_⟩
        · first | omega | (simp only [List.length_cons]; omega) | (dsimp only; omega)
        · refine Rt.end (less_cons (less_cons (less_cons (less_cons (less_cons (less_nil _) rfl) (by first | rfl | (simp [frL]; done) | simp [frL, *])) rfl) rfl) rfl) ?_
          rw [hs1]; rfl
      · refine awp_skip (hK10 _ _ ?_)
        refine awp_seq_s KT_ok hc rfl fun K13 hK13 => ?_
        simp -dsimp -implicitDefEqProofs (disch := first | assumption | omega | (simp [maxLen, avs_len] <;> omega) | decide) only [sT_move, sT_assign, sT_bs, sT_app, deadH, sT_nil, oK_some, q_o, layF, srcF, ↓reduceIte, q_b, ifp, ifn, q_f, q_s, q_l, List.append_nil, List.replicate_zero, List.replicate_succ, reps_def, q_a, fill_cons, q_n, Nat.reduceEqDiff, avs_len, avs_app1, takeD_all, List.drop_zero, Nat.reduceAdd, deadH, List.length_map, mk_27]
        refine hK13 _ _ ?_
        refine awp_rt hp (τ' := frL [(1, .op 0 0), (2, .op 1 0), (3, .op 2 0), (4, .os 1 3 0 ((stS (x.ws.take k)).1.length + 1)), (5, .d (iD k)), (6, .d (iD (nth x.ws k % 12)))]) (H' := [.cells [.d (bytesD x.ws), .d (bD x.slk), .d (spsD x.steps)], .cells [.d (iD 0), .d (iD 0), .d (.val (.slice none 0 0)), .d (iD 0), .d (iD 0), .d (.val (.slice none 0 0)), .d (iD 0)], .cells [.d (iD 3), .d (iD 4), .os 1 4 0 (stS (x.ws.take k)).2.length, .d (iD (x.slk % 8))], .cells (avs (((stS (x.ws.take k)).1 ++ [nth x.ws k % 12]).map iD)), .cells (avs ((stS (x.ws.take k)).2.map intsD))]) ?_ ?_
        · refine Rt.trans (Rt.gc (keep := [0,1,2,6,4]) (by decide) (by simp [])) ?_
          refine Rt.end (less_cons (less_cons (less_cons (less_cons (less_cons (less_cons (less_nil _) rfl) rfl) rfl) rfl) rfl) rfl) ?_
          simp only [bytesD, gcH, gcO, gcVs_avs, gcVs, gcV, posN, List.map_cons, List.map_nil, List.getD_cons_zero, List.getD_cons_succ, ↓reduceIte, Nat.reduceEqDiff, Option.map_some, bytesD, spsD]; simp only [List.map_append]; rfl
        refine awp_seq_s KT_ok hc rfl fun K14 hK14 => ?_
        rcases (show (128 ≤ nth x.ws k ∧ 0 < (stS (x.ws.take k)).2.length) ∨ (128 ≤ nth x.ws k ∧ (stS (x.ws.take k)).2.length = 0) ∨ nth x.ws k < 128 from by omega) with hv | hv | hv
        · have hs1 : stS (x.ws.take (k + 1)) = ((stS (x.ws.take k)).1 ++ [nth x.ws k % 12], (stS (x.ws.take k)).2.set ((stS (x.ws.take k)).2.length - 1) (nth (stS (x.ws.take k)).2 ((stS (x.ws.take k)).2.length - 1) ++ [nth x.ws k % 12])) := by rw [hst]; simp [stW, ht, hv]
          clear hst
          have htk : takeD (List.map iD (nth (stS (List.take k x.ws)).snd ((stS (List.take k x.ws)).snd.length - 1)) ++ [D.val (Value.int IntKind.i64 (nth x.ws k % 12))]) 0 ((nth (stS (List.take k x.ws)).snd ((stS (List.take k x.ws)).snd.length - 1)).length + 1) = some (List.map iD (nth (stS (List.take k x.ws)).snd ((stS (List.take k x.ws)).snd.length - 1)) ++ [D.val (Value.int IntKind.i64 (nth x.ws k % 12))]) := takeD_all (by simp)
          have hmp : (List.map intsD (stS (List.take k x.ws)).snd).set ((stS (List.take k x.ws)).snd.length - 1) (D.fs (List.map iD (nth (stS (List.take k x.ws)).snd ((stS (List.take k x.ws)).snd.length - 1)) ++ [D.val (Value.int IntKind.i64 (nth x.ws k % 12))]) ((nth (stS (List.take k x.ws)).snd ((stS (List.take k x.ws)).snd.length - 1)).length + 1)) = List.map intsD ((stS (List.take k x.ws)).snd.set ((stS (List.take k x.ws)).snd.length - 1) (nth (stS (List.take k x.ws)).snd ((stS (List.take k x.ws)).snd.length - 1) ++ [nth x.ws k % 12])) := by
            rw [List.map_set]; simp [intsD, iD]
          have e1 : (((stS (x.ws.take k)).2.length : Int) - 1).toNat = (stS (x.ws.take k)).2.length - 1 := by omega
          have hrw : (nth (stS (x.ws.take k)).2 ((stS (x.ws.take k)).2.length - 1)).length ≤ 10 := by
            have h1 := row_len (w := (stS (x.ws.take k)).2) (k := (stS (x.ws.take k)).2.length - 1) (by omega)
            unfold sumL at h1
            rw [hso.flat] at h1
            omega
          simp -dsimp -implicitDefEqProofs (disch := first | assumption | omega | (simp [maxLen, avs_len] <;> omega) | decide) only [sT_move, sT_pick, sT_load, sT_fa, sT_ia, sT_bin, sT_len, sT_nil, sT_g, oK_some, gK_t, q_o, loadF, fieldAddrF, ixO, indexAddrF, binF_v, lenF, builtinF, v_gtr, v_geq, ↓reduceIte, q_b, ifp, guardA_some, guardV_t, q_f, q_s, q_l, Int.toNat_natCast, q_n, Nat.reduceEqDiff, get_map, iD, bD, bytesD, Nat.reduceAdd, bytesD, spsD, dec_t, fo_25_0, sz_22, ag_22, eo_22, sz_5, ag_5, fo_35_2, sz_26, ag_26, eo_26]
          refine hK14 _ _ ?_
          refine awp_cond rfl (fun ht => ?_) (fun ht => ?_)
          · refine awp_seq_s KT_ok hc rfl fun K15 hK15 => ?_
            simp -dsimp -implicitDefEqProofs (disch := first | assumption | omega | (simp [maxLen, avs_len] <;> omega) | decide) only [sT_assign, sT_load, sT_fa, sT_bin, sT_len, sT_nil, oK_some, q_o, loadF, fieldAddrF, binF_v, lenF, builtinF, v_sub, ↓reduceIte, q_b, ifp, q_f, q_s, q_l, q_n, Nat.reduceEqDiff, Nat.reduceAdd, fo_35_2, sz_26, ag_26, eo_26]
            refine hK15 _ _ ?_
            refine awp_se KT_ok hc mixed rfl (q := 4) (by kernel_rfl) (by kernel_rfl) fun K16 hK16 => ?_
            simp -dsimp -implicitDefEqProofs (disch := first | assumption | omega | (simp [maxLen, avs_len] <;> omega) | decide) only [sE_move, sE_load, sE_fa, sE_ia, sE_bs, sE_app, sE_store, sE_nil, oK_some, q_o, loadF, fieldAddrF, ixO, indexAddrF, layF, layEF, srcF, storeF, ↓reduceIte, q_b, ifp, ifn, q_f, q_s, q_l, List.append_nil, List.replicate_zero, List.replicate_succ, reps_def, q_a, fill_cons, as_os, and_true, q_n, Nat.reduceEqDiff, shB, appB, baseOk_dd, killAll, appSh, map_d, avs_len, avs_get, avs_app1, List.drop_zero, get_map, intsD, Nat.reduceAdd, List.length_map, layEF, frzF, datas, Nat.reduceBNe, List.filterMap_nil, e1, baseOk_in, List.filterMap_cons, fo_35_2, sz_26, ag_26, eo_26, sz_27, ag_27, mk_27]
            refine hK16 _ _ (hK8 _ _ ?_)
            refine awp_s KT_ok hc rfl fun K17 hK17 => ?_
            simp -dsimp -implicitDefEqProofs (disch := first | assumption | omega | (simp [maxLen, avs_len] <;> omega) | decide) only [sT_move, sT_assign, sT_bin, sT_nil, oK_some, q_o, binF_v, v_add, ↓reduceIte, q_b, q_f, Nat.reduceEqDiff]
            refine hK17 _ _ ⟨_, _, _, ?_, ⟨k + 1, ⟨by omega, by omega⟩, rfl, rfl, rfl⟩, ?_⟩
            · first | omega | (simp only [List.length_cons]; omega) | (dsimp only; omega)
            · refine Rt.trans (Rt.fz (id := 8) rfl) ?_
              refine Rt.trans (Rt.gc (keep := [0,1,2,3,4]) (by decide) (by simp [fzH])) ?_
              refine Rt.end (less_cons (less_cons (less_cons (less_cons (less_cons (less_nil _) rfl) (by first | rfl | (simp [frL, gcV, fzV, posN]; done) | simp [frL, gcV, fzV, posN, *])) rfl) rfl) rfl) ?_
              simp only [bytesD, gcH, gcO, gcVs_avs, gcVs, gcV, fzH, fzO, fzVs_avs, fzVs, fzV, posN, List.map_cons, List.map_nil, List.getD_cons_zero, List.getD_cons_succ, ↓reduceIte, Nat.reduceEqDiff, Option.map_some, List.set_cons_zero, List.set_cons_succ, Nat.mul_one, fzVs_set, hs1, htk, avs_set, List.length_set, hmp]; rfl
          · cases ht
        · have hs1 : stS (x.ws.take (k + 1)) = ((stS (x.ws.take k)).1 ++ [nth x.ws k % 12], (stS (x.ws.take k)).2 ++ [[nth x.ws k % 12]]) := by rw [hst]; simp [stW, ht, hv]
          clear hst
          simp -dsimp -implicitDefEqProofs (disch := first | assumption | omega | (simp [maxLen, avs_len] <;> omega) | decide) only [sT_move, sT_pick, sT_load, sT_fa, sT_ia, sT_bin, sT_len, sT_nil, sT_g, oK_some, gK_t, q_o, loadF, fieldAddrF, ixO, indexAddrF, binF_v, lenF, builtinF, v_gtr, v_geq, ↓reduceIte, q_b, ifp, guardA_some, guardV_t, q_f, q_s, q_l, Int.toNat_natCast, q_n, Nat.reduceEqDiff, get_map, iD, bD, bytesD, Nat.reduceAdd, bytesD, spsD, dec_t, dec_f, fo_25_0, sz_22, ag_22, eo_22, sz_5, ag_5, fo_35_2, sz_26, ag_26, eo_26]
          refine hK14 _ _ ?_
          refine awp_cond rfl (fun ht => ?_) (fun ht => ?_)
          · cases ht
          · refine awp_s KT_ok hc rfl fun K18 hK18 => ?_
            simp -dsimp -implicitDefEqProofs (disch := first | assumption | omega | (simp [maxLen, avs_len] <;> omega) | decide) only [sT_move, sT_load, sT_fa, sT_bs, sT_app, sT_store, deadH, sT_nil, oK_some, q_o, loadF, fieldAddrF, layF, srcF, storeF, ↓reduceIte, q_b, ifp, ifn, q_f, q_s, q_l, List.replicate_zero, List.replicate_succ, reps_def, q_a, fill_cons, as_os, q_n, Nat.reduceEqDiff, avs_len, takeD_all, List.drop_zero, Nat.reduceAdd, deadH, List.length_map, fo_35_2, sz_26, ag_26, mk_27, mk_26]
            refine hK18 _ _ (hK8 _ _ ?_)
            refine awp_s KT_ok hc rfl fun K19 hK19 => ?_
            simp -dsimp -implicitDefEqProofs (disch := first | assumption | omega | (simp [maxLen, avs_len] <;> omega) | decide) only [sT_move, sT_assign, sT_bin, sT_nil, oK_some, q_o, binF_v, v_add, ↓reduceIte, q_b, q_f, Nat.reduceEqDiff]
            refine hK19 _ _ ⟨_, _, _, ?_, ⟨k + 1, ⟨by omega, by omega⟩, rfl, rfl, rfl⟩, ?_⟩
            · first | omega | (simp only [List.length_cons]; omega) | (dsimp only; omega)
            · refine Rt.trans (Rt.fz (id := 5) (l := [iD (nth x.ws k % 12)]) rfl) ?_
              refine Rt.trans (Rt.gc (keep := [0,1,2,3,7]) (by decide) (by simp [fzH])) ?_
              refine Rt.end (less_cons (less_cons (less_cons (less_cons (less_cons (less_nil _) rfl) (by first | rfl | (simp [frL, gcV, fzV, posN, iD]; done) | simp [frL, gcV, fzV, posN, iD, *])) rfl) rfl) rfl) ?_
              simp only [intsD, bytesD, gcH, gcO, gcVs_avs, gcVs, gcV, fzH, fzO, fzVs_avs, fzVs, fzV, posN, List.map_cons, List.map_nil, List.getD_cons_zero, List.getD_cons_succ, ↓reduceIte, Nat.reduceEqDiff, Option.map_some, List.set_cons_zero, List.set_cons_succ, Nat.mul_one, hs1, fzVs_app, takeD_1, avs_app1, List.append_nil, List.map_append, List.length_append]; rfl
        · have hs1 : stS (x.ws.take (k + 1)) = ((stS (x.ws.take k)).1 ++ [nth x.ws k % 12], (stS (x.ws.take k)).2 ++ [[nth x.ws k % 12]]) := by rw [hst]; simp [stW, ht, show ¬ 128 ≤ nth x.ws k by omega]
          clear hst
          simp -dsimp -implicitDefEqProofs (disch := first | assumption | omega | (simp [maxLen, avs_len] <;> omega) | decide) only [sT_move, sT_pick, sT_load, sT_fa, sT_ia, sT_bin, sT_nil, sT_g, oK_some, gK_f, q_o, loadF, fieldAddrF, ixO, indexAddrF, binF_v, v_geq, ↓reduceIte, q_b, ifp, guardA_some, guardV_t, q_f, q_l, Int.toNat_natCast, q_n, Nat.reduceEqDiff, get_map, iD, bD, bytesD, Nat.reduceAdd, bytesD, spsD, dec_f, fo_25_0, sz_22, ag_22, eo_22, sz_5, ag_5]
          refine hK14 _ _ ?_
          refine awp_cond rfl (fun ht => ?_) (fun ht => ?_)
          · cases ht
          · refine awp_s KT_ok hc rfl fun K20 hK20 => ?_
            simp -dsimp -implicitDefEqProofs (disch := first | assumption | omega | (simp [maxLen, avs_len] <;> omega) | decide) only [sT_move, sT_load, sT_fa, sT_bs, sT_app, sT_store, deadH, sT_nil, oK_some, q_o, loadF, fieldAddrF, layF, srcF, storeF, ↓reduceIte, q_b, ifp, ifn, q_f, q_s, q_l, List.replicate_zero, List.replicate_succ, reps_def, q_a, fill_cons, as_os, q_n, Nat.reduceEqDiff, avs_len, takeD_all, List.drop_zero, Nat.reduceAdd, deadH, List.length_map, fo_35_2, sz_26, ag_26, mk_27, mk_26]
            refine hK20 _ _ (hK8 _ _ ?_)
            refine awp_s KT_ok hc rfl fun K21 hK21 => ?_
            simp -dsimp -implicitDefEqProofs (disch := first | assumption | omega | (simp [maxLen, avs_len] <;> omega) | decide) only [sT_move, sT_assign, sT_bin, sT_nil, oK_some, q_o, binF_v, v_add, ↓reduceIte, q_b, q_f, Nat.reduceEqDiff]
            refine hK21 _ _ ⟨_, _, _, ?_, ⟨k + 1, ⟨by omega, by omega⟩, rfl, rfl, rfl⟩, ?_⟩
            · first | omega | (simp only [List.length_cons]; omega) | (dsimp only; omega)
            · refine Rt.trans (Rt.fz (id := 5) (l := [iD (nth x.ws k % 12)]) rfl) ?_
              refine Rt.trans (Rt.gc (keep := [0,1,2,3,7]) (by decide) (by simp [fzH])) ?_
              refine Rt.end (less_cons (less_cons (less_cons (less_cons (less_cons (less_nil _) rfl) (by first | rfl | (simp [frL, gcV, fzV, posN, iD]; done) | simp [frL, gcV, fzV, posN, iD, *])) rfl) rfl) rfl) ?_
              simp only [intsD, bytesD, gcH, gcO, gcVs_avs, gcVs, gcV, fzH, fzO, fzVs_avs, fzVs, fzV, posN, List.map_cons, List.map_nil, List.getD_cons_zero, List.getD_cons_succ, ↓reduceIte, Nat.reduceEqDiff, Option.map_some, List.set_cons_zero, List.set_cons_succ, Nat.mul_one, hs1, fzVs_app, takeD_1, avs_app1, List.append_nil, List.map_append, List.length_append]; rfl
    · cases ht
  · simp -dsimp -implicitDefEqProofs (disch := first | assumption | omega | (simp [maxLen, avs_len] <;> omega) | decide) only [sT_move, sT_pick, sT_load, sT_fa, sT_bin, sT_len, sT_nil, sT_g, oK_some, gK_t, q_o, loadF, fieldAddrF, binF_v, lenF, builtinF, v_lss, ↓reduceIte, q_b, ifp, guardA_some, guardV_t, q_f, q_s, q_l, q_n, Nat.reduceEqDiff, iD, bD, bytesD, Nat.reduceAdd, bytesD, spsD, dec_t, dec_f, fo_25_0, sz_22, ag_22, eo_22]
    refine hK7 _ _ ?_
    refine awp_cond rfl (fun ht => ?_) (fun ht => ?_)
    · cases ht
    · have he : x.ws.take k = x.ws.take 10 := by rw [show k = 10 by omega]
      refine awp_exit (hK4 _ _ ?_)
      refine awp_seq_k fun K22 hK22 => ?_
      refine awp_seq_s KT_ok hc rfl fun K23 hK23 => ?_
      simp -dsimp -implicitDefEqProofs (disch := first | assumption | omega | (simp [maxLen, avs_len] <;> omega) | decide) only [sT_load, sT_fa, sT_bin, sT_len, sT_nil, oK_some, q_o, loadF, fieldAddrF, binF_v, lenF, builtinF, v_eql, ↓reduceIte, q_b, ifp, q_f, q_s, q_l, q_n, Nat.reduceEqDiff, Nat.reduceAdd, fo_35_2, sz_26, ag_26, eo_26]
      refine hK23 _ _ ?_
      refine awp_cond rfl (fun ht => ?_) (fun ht => ?_)
      · have hW : rawW x = [[0, 5]] := by
          have h0 : (stS (x.ws.take 10)).2.length = 0 := by rw [← he]; simpa using ht
          unfold rawW; rw [if_pos h0]
        refine awp_s KT_ok hc rfl fun K24 hK24 => ?_
        simp -dsimp -implicitDefEqProofs (disch := first | assumption | omega | (simp [maxLen, avs_len] <;> omega) | decide) only [sT_fa, sT_bs, sT_store, deadH, sT_nil, oK_some, q_o, fieldAddrF, layF, storeF, ↓reduceIte, q_b, ifp, ifn, q_f, q_s, q_l, List.replicate_zero, List.replicate_succ, reps_def, q_a, fill_cons, as_os, q_n, Nat.reduceEqDiff, Nat.reduceAdd, deadH, mk_27, sz_26, mk_26, fo_35_2]
        refine hK24 _ _ (hK22 _ _ ?_)
        refine awp_rt hp (τ' := frL [(1, .op 0 0), (2, .op 1 0), (3, .op 2 0)]) (H' := [.cells [.d (bytesD x.ws), .d (bD x.slk), .d (spsD x.steps)], .cells [.d (iD 0), .d (iD 0), .d (.val (.slice none 0 0)), .d (iD 0), .d (iD 0), .d (.val (.slice none 0 0)), .d (iD 0)], .cells [.d (iD 3), .d (iD 4), .d (intssD (rawW x)), .d (iD (x.slk % 8))]]) ?_ ?_
        · refine Rt.trans (Rt.fz (id := 5) (l := [iD 0, iD 5]) rfl) ?_
          refine Rt.trans (Rt.fz (id := 6) (l := [intsD [0, 5]]) rfl) ?_
          refine Rt.trans (Rt.gc (keep := [0,1,2]) (by decide) (by simp [fzH])) ?_
          refine Rt.end (less_cons (less_cons (less_cons (less_nil _) rfl) rfl) rfl) ?_
          simp only [intsD, bytesD, intssD, gcH, gcO, gcVs, gcV, fzH, fzO, fzVs_avs, fzVs, fzV, List.map_cons, List.map_nil, List.getD_cons_zero, List.getD_cons_succ, ↓reduceIte, Nat.reduceEqDiff, List.set_cons_zero, List.set_cons_succ, Nat.mul_one, bytesD, spsD]; rw [hW]; rfl
        refine awp_seq_s KT_ok hc rfl fun K25 hK25 => ?_
        simp -dsimp -implicitDefEqProofs (disch := first | assumption | omega | (simp [maxLen, avs_len] <;> omega) | decide) only [sT_load, sT_call0, oK_some, q_o, loadF, ↓reduceIte, q_b, ifp, q_f, q_s, q_l, q_n, Nat.reduceEqDiff, takeD_all, iD, bD, bytesD, intssD, Nat.reduceAdd, bytesD, spsD, sz_35, ag_35]
        refine kc_by (newp_c 3 4 (rawW x) (x.slk % 8) (startR_ok hx).short) rfl ?_
        simp -dsimp -implicitDefEqProofs (disch := first | assumption | omega | (simp [maxLen, avs_len] <;> omega) | decide) only [sT_field, sT_store, sT_nil, oK_some, q_o, partF, fieldF, partsOf, storeF, ↓reduceIte, q_b, ifp, q_f, q_s, q_l, q_a, AV.one, D.one, Value.oneCell', q_n, Nat.reduceEqDiff, takeD_zero, takeD_cs, iD, intsD, intssD, Nat.reduceAdd, startR_new hx, gotD, ft_40_0, sz_29]
        refine hK25 _ _ ?_
        refine awp_ret ?_
        try dsimp only [thenA, inBlockA]
        refine PostA_retc rfl ?_
        simp -dsimp -implicitDefEqProofs (disch := first | assumption | omega | (simp [maxLen, avs_len] <;> omega) | decide) only [oK_some, q_o, loadF, ↓reduceIte, q_b, ifp, q_f, q_l, q_n, Nat.reduceEqDiff, takeD_all, Nat.reduceAdd, sz_29, ag_29]
        show closeA _ _ = _
        simp (disch := first | assumption | omega | (simp [maxLen, avs_len] <;> omega) | decide) only [closeA, deep_d, deep_agg, deepL_nil, deepL_cons, Nat.reduceAdd, Nat.zero_add, D.fix, Option.map_some, Option.bind_some, List.length_cons, List.length_nil, iD, intsD, intssD, rolD, rolC]
      · have hW : rawW x = (stS (x.ws.take k)).2 := by
          have h0 : ¬ (stS (x.ws.take 10)).2.length = 0 := by rw [← he]; simpa using ht
          unfold rawW; rw [if_neg h0, he]
        refine awp_skip (hK22 _ _ ?_)
        refine awp_rt hp (τ' := frL [(1, .op 0 0), (2, .op 1 0), (3, .op 2 0)]) (H' := [.cells [.d (bytesD x.ws), .d (bD x.slk), .d (spsD x.steps)], .cells [.d (iD 0), .d (iD 0), .d (.val (.slice none 0 0)), .d (iD 0), .d (iD 0), .d (.val (.slice none 0 0)), .d (iD 0)], .cells [.d (iD 3), .d (iD 4), .d (intssD (rawW x)), .d (iD (x.slk % 8))]]) ?_ ?_
        · refine Rt.trans (Rt.fz (id := 4) rfl) ?_
          refine Rt.trans (Rt.gc (keep := [0,1,2]) (by decide) (by simp [fzH])) ?_
          refine Rt.end (less_cons (less_cons (less_cons (less_nil _) rfl) rfl) rfl) ?_
          simp only [bytesD, intssD, gcH, gcO, gcVs, gcV, fzH, fzO, fzVs_avs, fzVs, fzV, List.map_cons, List.map_nil, List.getD_cons_zero, List.getD_cons_succ, ↓reduceIte, List.set_cons_zero, List.set_cons_succ, takeD_all, Nat.mul_one, List.length_map, bytesD, spsD]; rw [hW]; rfl
        refine awp_seq_s KT_ok hc rfl fun K26 hK26 => ?_
        simp -dsimp -implicitDefEqProofs (disch := first | assumption | omega | (simp [maxLen, avs_len] <;> omega) | decide) only [sT_load, sT_call0, oK_some, q_o, loadF, ↓reduceIte, q_b, ifp, q_f, q_s, q_l, q_n, Nat.reduceEqDiff, takeD_all, iD, bD, bytesD, intssD, Nat.reduceAdd, bytesD, spsD, sz_35, ag_35]
        refine kc_by (newp_c 3 4 (rawW x) (x.slk % 8) (startR_ok hx).short) rfl ?_
        simp -dsimp -implicitDefEqProofs (disch := first | assumption | omega | (simp [maxLen, avs_len] <;> omega) | decide) only [sT_field, sT_store, sT_nil, oK_some, q_o, partF, fieldF, partsOf, storeF, ↓reduceIte, q_b, ifp, q_f, q_s, q_l, q_a, AV.one, D.one, Value.oneCell', q_n, Nat.reduceEqDiff, takeD_zero, takeD_cs, iD, intsD, intssD, Nat.reduceAdd, startR_new hx, gotD, ft_40_0, sz_29]
        refine hK26 _ _ ?_
        refine awp_ret ?_
        try dsimp only [thenA, inBlockA]
        refine PostA_retc rfl ?_
        simp -dsimp -implicitDefEqProofs (disch := first | assumption | omega | (simp [maxLen, avs_len] <;> omega) | decide) only [oK_some, q_o, loadF, ↓reduceIte, q_b, ifp, q_f, q_l, q_n, Nat.reduceEqDiff, takeD_all, Nat.reduceAdd, sz_29, ag_29]
        show closeA _ _ = _
        simp (disch := first | assumption | omega | (simp [maxLen, avs_len] <;> omega) | decide) only [closeA, deep_d, deep_agg, deepL_nil, deepL_cons, Nat.reduceAdd, Nat.zero_add, D.fix, Option.map_some, Option.bind_some, List.length_cons, List.length_nil, iD, intsD, intssD, rolD, rolC]
  · simp -dsimp -implicitDefEqProofs (disch := first | assumption | omega | (simp [maxLen, avs_len] <;> omega) | decide) only [sT_move, sT_pick, sT_load, sT_fa, sT_bin, sT_len, sT_nil, sT_g, oK_some, gK_f, q_o, loadF, fieldAddrF, binF_v, lenF, builtinF, v_lss, ↓reduceIte, q_b, ifp, guardA_some, guardV_t, q_f, q_s, q_l, q_n, Nat.reduceEqDiff, iD, bD, bytesD, Nat.reduceAdd, bytesD, spsD, dec_f, fo_25_0, sz_22, ag_22, eo_22]
    refine hK7 _ _ ?_
    refine awp_cond rfl (fun ht => ?_) (fun ht => ?_)
    · cases ht
    · have he : x.ws.take k = x.ws.take 10 := by rw [List.take_of_length_le (by omega), List.take_of_length_le (by omega)]
      refine awp_exit (hK4 _ _ ?_)
      refine awp_seq_k fun K27 hK27 => ?_
      refine awp_seq_s KT_ok hc rfl fun K28 hK28 => ?_
      simp -dsimp -implicitDefEqProofs (disch := first | assumption | omega | (simp [maxLen, avs_len] <;> omega) | decide) only [sT_load, sT_fa, sT_bin, sT_len, sT_nil, oK_some, q_o, loadF, fieldAddrF, binF_v, lenF, builtinF, v_eql, ↓reduceIte, q_b, ifp, q_f, q_s, q_l, q_n, Nat.reduceEqDiff, Nat.reduceAdd, fo_35_2, sz_26, ag_26, eo_26]
      refine hK28 _ _ ?_
      refine awp_cond rfl (fun ht => ?_) (fun ht => ?_)
      · have hW : rawW x = [[0, 5]] := by
          have h0 : (stS (x.ws.take 10)).2.length = 0 := by rw [← he]; simpa using ht
          unfold rawW; rw [if_pos h0]
        refine awp_s KT_ok hc rfl fun K29 hK29 => ?_
        simp -dsimp -implicitDefEqProofs (disch := first | assumption | omega | (simp [maxLen, avs_len] <;> omega) | decide) only [sT_fa, sT_bs, sT_store, deadH, sT_nil, oK_some, q_o, fieldAddrF, layF, storeF, ↓reduceIte, q_b, ifp, ifn, q_f, q_s, q_l, List.replicate_zero, List.replicate_succ, reps_def, q_a, fill_cons, as_os, q_n, Nat.reduceEqDiff, Nat.reduceAdd, deadH, mk_27, sz_26, mk_26, fo_35_2]
        refine hK29 _ _ (hK27 _ _ ?_)
        refine awp_rt hp (τ' := frL [(1, .op 0 0), (2, .op 1 0), (3, .op 2 0)]) (H' := [.cells [.d (bytesD x.ws), .d (bD x.slk), .d (spsD x.steps)], .cells [.d (iD 0), .d (iD 0), .d (.val (.slice none 0 0)), .d (iD 0), .d (iD 0), .d (.val (.slice none 0 0)), .d (iD 0)], .cells [.d (iD 3), .d (iD 4), .d (intssD (rawW x)), .d (iD (x.slk % 8))]]) ?_ ?_
        · refine Rt.trans (Rt.fz (id := 5) (l := [iD 0, iD 5]) rfl) ?_
          refine Rt.trans (Rt.fz (id := 6) (l := [intsD [0, 5]]) rfl) ?_
          refine Rt.trans (Rt.gc (keep := [0,1,2]) (by decide) (by simp [fzH])) ?_
          refine Rt.end (less_cons (less_cons (less_cons (less_nil _) rfl) rfl) rfl) ?_
          simp only [intsD, bytesD, intssD, gcH, gcO, gcVs, gcV, fzH, fzO, fzVs_avs, fzVs, fzV, List.map_cons, List.map_nil, List.getD_cons_zero, List.getD_cons_succ, ↓reduceIte, Nat.reduceEqDiff, List.set_cons_zero, List.set_cons_succ, Nat.mul_one, bytesD, spsD]; rw [hW]; rfl
        refine awp_seq_s KT_ok hc rfl fun K30 hK30 => ?_
        simp -dsimp -implicitDefEqProofs (disch := first | assumption | omega | (simp [maxLen, avs_len] <;> omega) | decide) only [sT_load, sT_call0, oK_some, q_o, loadF, ↓reduceIte, q_b, ifp, q_f, q_s, q_l, q_n, Nat.reduceEqDiff, takeD_all, iD, bD, bytesD, intssD, Nat.reduceAdd, bytesD, spsD, sz_35, ag_35]
        refine kc_by (newp_c 3 4 (rawW x) (x.slk % 8) (startR_ok hx).short) rfl ?_
        simp -dsimp -implicitDefEqProofs (disch := first | assumption | omega | (simp [maxLen, avs_len] <;> omega) | decide) only [sT_field, sT_store, sT_nil, oK_some, q_o, partF, fieldF, partsOf, storeF, ↓reduceIte, q_b, ifp, q_f, q_s, q_l, q_a, AV.one, D.one, Value.oneCell', q_n, Nat.reduceEqDiff, takeD_zero, takeD_cs, iD, intsD, intssD, Nat.reduceAdd, startR_new hx, gotD, ft_40_0, sz_29]
        refine hK30 _ _ ?_
        refine awp_ret ?_
        try dsimp only [thenA, inBlockA]
        refine PostA_retc rfl ?_
        simp -dsimp -implicitDefEqProofs (disch := first | assumption | omega | (simp [maxLen, avs_len] <;> omega) | decide) only [oK_some, q_o, loadF, ↓reduceIte, q_b, ifp, q_f, q_l, q_n, Nat.reduceEqDiff, takeD_all, Nat.reduceAdd, sz_29, ag_29]
        show closeA _ _ = _
        simp (disch := first | assumption | omega | (simp [maxLen, avs_len] <;> omega) | decide) only [closeA, deep_d, deep_agg, deepL_nil, deepL_cons, Nat.reduceAdd, Nat.zero_add, D.fix, Option.map_some, Option.bind_some, List.length_cons, List.length_nil, iD, intsD, intssD, rolD, rolC]
      · have hW : rawW x = (stS (x.ws.take k)).2 := by
          have h0 : ¬ (stS (x.ws.take 10)).2.length = 0 := by rw [← he]; simpa using ht
          unfold rawW; rw [if_neg h0, he]
        refine awp_skip (hK27 _ _ ?_)
        refine awp_rt hp (τ' := frL [(1, .op 0 0), (2, .op 1 0), (3, .op 2 0)]) (H' := [.cells [.d (bytesD x.ws), .d (bD x.slk), .d (spsD x.steps)], .cells [.d (iD 0), .d (iD 0), .d (.val (.slice none 0 0)), .d (iD 0), .d (iD 0), .d (.val (.slice none 0 0)), .d (iD 0)], .cells [.d (iD 3), .d (iD 4), .d (intssD (rawW x)), .d (iD (x.slk % 8))]]) ?_ ?_
        · refine Rt.trans (Rt.fz (id := 4) rfl) ?_
          refine Rt.trans (Rt.gc (keep := [0,1,2]) (by decide) (by simp [fzH])) ?_
          refine Rt.end (less_cons (less_cons (less_cons (less_nil _) rfl) rfl) rfl) ?_
          simp only [bytesD, intssD, gcH, gcO, gcVs, gcV, fzH, fzO, fzVs_avs, fzVs, fzV, List.map_cons, List.map_nil, List.getD_cons_zero, List.getD_cons_succ, ↓reduceIte, List.set_cons_zero, List.set_cons_succ, takeD_all, Nat.mul_one, List.length_map, bytesD, spsD]; rw [hW]; rfl
        refine awp_seq_s KT_ok hc rfl fun K31 hK31 => ?_
        simp -dsimp -implicitDefEqProofs (disch := first | assumption | omega | (simp [maxLen, avs_len] <;> omega) | decide) only [sT_load, sT_call0, oK_some, q_o, loadF, ↓reduceIte, q_b, ifp, q_f, q_s, q_l, q_n, Nat.reduceEqDiff, takeD_all, iD, bD, bytesD, intssD, Nat.reduceAdd, bytesD, spsD, sz_35, ag_35]
        refine kc_by (newp_c 3 4 (rawW x) (x.slk % 8) (startR_ok hx).short) rfl ?_
        simp -dsimp -implicitDefEqProofs (disch := first | assumption | omega | (simp [maxLen, avs_len] <;> omega) | decide) only [sT_field, sT_store, sT_nil, oK_some, q_o, partF, fieldF, partsOf, storeF, ↓reduceIte, q_b, ifp, q_f, q_s, q_l, q_a, AV.one, D.one, Value.oneCell', q_n, Nat.reduceEqDiff, takeD_zero, takeD_cs, iD, intsD, intssD, Nat.reduceAdd, startR_new hx, gotD, ft_40_0, sz_29]
        refine hK31 _ _ ?_
        refine awp_ret ?_
        try dsimp only [thenA, inBlockA]
        refine PostA_retc rfl ?_
        simp -dsimp -implicitDefEqProofs (disch := first | assumption | omega | (simp [maxLen, avs_len] <;> omega) | decide) only [oK_some, q_o, loadF, ↓reduceIte, q_b, ifp, q_f, q_l, q_n, Nat.reduceEqDiff, takeD_all, Nat.reduceAdd, sz_29, ag_29]
        show closeA _ _ = _
        simp (disch := first | assumption | omega | (simp [maxLen, avs_len] <;> omega) | decide) only [closeA, deep_d, deep_agg, deepL_nil, deepL_cons, Nat.reduceAdd, Nat.zero_add, D.fix, Option.map_some, Option.bind_some, List.length_cons, List.length_nil, iD, intsD, intssD, rolD, rolC]
end Go.Proofs.Ytinefghmmbggeaa

/- The reference: Report, Next, Made. -/
set_option linter.unusedVariables false
set_option linter.unusedSimpArgs false
namespace Go.Proofs.Ytinefghmmbggeaa
open Go Go.RowKit
def allC (r : Rol) : List Int := srtL (uptoL r r.wv.length)
theorem allC_len {r : Rol} (h : VR r) : 0 < (allC r).length ∧ (allC r).length ≤ 64 := by
  have h1 := h.w.one
  obtain ⟨x, hx⟩ := upto_ne (r := r) h.w (n := r.wv.length) (by omega)
  refine ⟨List.length_pos_of_mem (mem_srt.2 hx : x ∈ allC r), ?_⟩
  have := srt_len (uptoL r r.wv.length)
  rw [upto_all] at this
  have := h.flen
  unfold allC; rw [upto_all]; omega
theorem mem_allC {r : Rol} {x : Int} : x ∈ allC r ↔ x ∈ r.wv.flatten := by unfold allC; rw [mem_srt, upto_all]
def reportR (r : Rol) (s : Sp) : Rep where
  chip := if 64 ≤ s.chip then nth (allC r) (s.chip % (allC r).length).toNat else s.chip % 13
  no := if s.kind % 16 = 15 then s.slk else if s.new = true then r.to else r.frm
  slk := s.slk % 12
  same := s.same
  runs := s.runs
theorem rep_slk {r : Rol} {s : Sp} : (reportR r s).slk = s.slk % 12 := rfl
theorem rep_same {r : Rol} {s : Sp} : (reportR r s).same = s.same := rfl
theorem rep_runs {r : Rol} {s : Sp} : (reportR r s).runs = s.runs := rfl
theorem allC_at {r : Rol} (h : VR r) (n : Int) (hn : 0 ≤ n) : (n % (allC r).length).toNat < (allC r).length := by
  have h1 := (allC_len h).1
  have h2 := Int.emod_lt_of_pos n (show (0 : Int) < (allC r).length by omega)
  have h3 := Int.emod_nonneg n (show ((allC r).length : Int) ≠ 0 by omega)
  omega
theorem rep_chip {r : Rol} (h : VR r) {s : Sp} (hs : SpOk s) : 0 ≤ (reportR r s).chip ∧ (reportR r s).chip < 64 := by
  have h0 := hs.c.1
  unfold reportR
  simp only
  split
  · have := nth_mem (allC_at h s.chip h0)
    exact h.w.chip _ (mem_allC.1 this)
  · exact ⟨by omega, by omega⟩
theorem rep_i64 {r : Rol} (h : VR r) {s : Sp} (hs : SpOk s) : I64 (reportR r s).chip := by
  have := rep_chip h hs
  exact ⟨by omega, by omega⟩
set_option maxRecDepth 100000 in
set_option linter.unusedVariables false in
set_option maxHeartbeats 4000000 in
theorem report_c (r : Rol) (s : Sp) (hr : VR r) (hs : SpOk s) : PCalls Try.prog 17 [rolD r, spD s] (.d (repD (reportR r s))) := by
  refine pcalls_of0 (fn := Try.f17) (by kernel_rfl) Try.func17 rfl (Nat.le_of_ble_eq_true rfl) fun c hc hp => ?_
  refine awp_less (τ' := frL [(0, .d (rolD r)), (1, .d (spD s))]) (less_cons (less_cons (less_nil _) rfl) rfl) ?_
  have k0 := hs.k.1
  have k1 := hs.k.2
  have c0 := hs.c.1
  have c1 := hs.c.2
  have s0 := hs.s.1
  have s1 := hs.s.2
  have hal := allC_len hr
  have hat := allC_at hr s.chip c0
  have hem0 : 0 ≤ s.chip % ((allC r).length : Int) := Int.emod_nonneg _ (by omega)
  have hem1 : s.chip % ((allC r).length : Int) < (allC r).length := Int.emod_lt_of_pos _ (by omega)
  refine awp_seq_s KT_ok hc rfl fun K1 hK1 => ?_
  simp -dsimp -implicitDefEqProofs (disch := first | assumption | omega | (simp [maxLen, avs_len] <;> omega) | decide) only [sT_box, sT_alloc, deadH, sT_nil, oK_some, q_o, layF, ↓reduceIte, q_b, q_f, q_s, q_l, as_dagg, D.one, Value.oneCell', q_n, Nat.reduceEqDiff, map_d, avs_nil, avs_cons, iD, bD, oD, intsD, intssD, Nat.reduceAdd, deadH, rolD, rolC, spD, spC, za_31]
  refine hK1 _ _ ?_
  refine awp_seq_s KT_ok hc rfl fun K2 hK2 => ?_
  simp -dsimp -implicitDefEqProofs (disch := first | assumption | omega | (simp [maxLen, avs_len] <;> omega) | decide) only [sT_load, sT_fa, sT_len, sT_call0, oK_some, q_o, loadF, fieldAddrF, lenF, builtinF, ↓reduceIte, q_b, ifp, q_f, q_s, q_l, q_n, Nat.reduceEqDiff, takeD_all, Nat.reduceAdd, sz_29, ag_29, fo_29_2, sz_26, ag_26, eo_26]
  refine kc_by (show PCalls Try.prog 30 [rolD r, iD r.wv.length] (.d (intsD (allC r))) from uptop_c r r.wv.length hr.short) rfl ?_
  simp -dsimp -implicitDefEqProofs (disch := first | assumption | omega | (simp [maxLen, avs_len] <;> omega) | decide) only [sT_assign, sT_nil, ↓reduceIte, q_b, q_f, intsD]
  refine hK2 _ _ ?_
  refine awp_seq_s KT_ok hc rfl fun K3 hK3 => ?_
  simp -dsimp -implicitDefEqProofs (disch := first | assumption | omega | (simp [maxLen, avs_len] <;> omega) | decide) only [sT_load, sT_fa, sT_bin, sT_conv, sT_build, sT_alloc, sT_store, deadH, sT_nil, oK_some, q_o, loadF, fieldAddrF, binF_v, convF, buildF, layF, storeF, v_rem, ↓reduceIte, q_b, ifp, ifn, q_f, q_s, q_l, q_a, fill_cons, AV.one, D.one, Value.oneCell', q_n, Nat.reduceEqDiff, map_d, avs_nil, avs_cons, w_i64, Nat.reduceAdd, deadH, fo_45_1, sz_5, ag_5, ik_5, sz_3, ag_3, ik_3, fo_29_0, fo_45_2, fo_45_3, sz_4, ag_4, fo_45_4, pa_31, pl_31_0, pl_31_1, pl_31_2, pl_31_3, pl_31_4, sz_31, za_31, zc_31]
  refine hK3 _ _ ?_
  refine awp_seq_k fun K4 hK4 => ?_
  refine awp_seq_s KT_ok hc rfl fun K5 hK5 => ?_
  simp -dsimp -implicitDefEqProofs (disch := first | assumption | omega | (simp [maxLen, avs_len] <;> omega) | decide) only [sT_load, sT_fa, sT_bin, sT_nil, oK_some, q_o, loadF, fieldAddrF, binF_v, v_geq, ↓reduceIte, q_b, ifp, q_f, q_l, q_n, Nat.reduceEqDiff, Nat.reduceAdd, fo_45_1, sz_5, ag_5]
  refine hK5 _ _ ?_
  refine awp_cond rfl (fun ht => ?_) (fun ht => ?_)
  · have hx1 : (reportR r s).chip = nth (allC r) (s.chip % (allC r).length).toNat := by simp at ht; simp [reportR, ht]
    refine awp_s KT_ok hc rfl fun K6 hK6 => ?_
    simp -dsimp -implicitDefEqProofs (disch := first | assumption | omega | (simp [maxLen, avs_len] <;> omega) | decide) only [sT_move, sT_load, sT_fa, sT_ia, sT_bin, sT_conv, sT_len, sT_store, sT_nil, oK_some, q_o, loadF, fieldAddrF, ixO, indexAddrF, binF_v, convF, lenF, builtinF, storeF, v_rem, ↓reduceIte, q_b, ifp, q_f, q_s, q_l, q_a, q_n, Nat.reduceEqDiff, get_map, w_i64, iD, Nat.reduceAdd, fo_45_1, sz_5, ag_5, ik_5, sz_3, ag_3, ik_3, eo_27, fo_31_0]
    refine hK6 _ _ (hK4 _ _ ?_)
    refine awp_seq_k fun K7 hK7 => ?_
    refine awp_seq_s KT_ok hc rfl fun K8 hK8 => ?_
    simp -dsimp -implicitDefEqProofs (disch := first | assumption | omega | (simp [maxLen, avs_len] <;> omega) | decide) only [sT_load, sT_fa, sT_nil, oK_some, loadF, fieldAddrF, ↓reduceIte, q_b, ifp, q_f, q_l, q_n, Nat.reduceEqDiff, Nat.reduceAdd, fo_45_5, sz_4, ag_4]
    refine hK8 _ _ ?_
    refine awp_cond rfl (fun ht => ?_) (fun ht => ?_)
    · have hn : s.new = true := ht
      refine awp_s KT_ok hc rfl fun K9 hK9 => ?_
      simp -dsimp -implicitDefEqProofs (disch := first | assumption | omega | (simp [maxLen, avs_len] <;> omega) | decide) only [sT_load, sT_fa, sT_store, sT_nil, oK_some, loadF, fieldAddrF, storeF, ↓reduceIte, q_b, ifp, q_f, q_l, q_s, q_a, q_n, Nat.reduceEqDiff, Nat.reduceAdd, fo_29_1, sz_3, ag_3, fo_31_1]
      refine hK9 _ _ (hK7 _ _ ?_)
      refine awp_seq_k fun K10 hK10 => ?_
      refine awp_seq_s KT_ok hc rfl fun K11 hK11 => ?_
      simp -dsimp -implicitDefEqProofs (disch := first | assumption | omega | (simp [maxLen, avs_len] <;> omega) | decide) only [sT_load, sT_fa, sT_bin, sT_nil, oK_some, q_o, loadF, fieldAddrF, binF_v, v_rem, v_eql, ↓reduceIte, q_b, ifp, q_f, q_l, q_n, Nat.reduceEqDiff, Nat.reduceAdd, fo_45_0, sz_5, ag_5]
      refine hK11 _ _ ?_
      refine awp_cond rfl (fun ht => ?_) (fun ht => ?_)
      · have hx2 : (reportR r s).no = s.slk := by simp at ht; simp [reportR, ht]
        refine awp_s KT_ok hc rfl fun K12 hK12 => ?_
        simp -dsimp -implicitDefEqProofs (disch := first | assumption | omega | (simp [maxLen, avs_len] <;> omega) | decide) only [sT_load, sT_fa, sT_conv, sT_store, sT_nil, oK_some, loadF, fieldAddrF, convF, storeF, ↓reduceIte, q_b, ifp, q_f, q_l, q_s, q_a, q_n, Nat.reduceEqDiff, w_i64, Nat.reduceAdd, fo_45_2, sz_5, ag_5, ik_5, sz_3, ik_3, fo_31_1]
        refine hK12 _ _ (hK10 _ _ ?_)
        refine awp_seq_s KT_ok hc rfl fun K13 hK13 => ?_
        simp -dsimp -implicitDefEqProofs (disch := first | assumption | omega | (simp [maxLen, avs_len] <;> omega) | decide) only [sT_load, sT_store, sT_nil, oK_some, q_o, loadF, storeF, ↓reduceIte, q_b, ifp, q_f, q_l, q_s, q_a, AV.one, D.one, Value.oneCell', q_n, Nat.reduceEqDiff, takeD_all, Nat.reduceAdd, sz_31, ag_31]
        refine hK13 _ _ ?_
        refine awp_ret ?_
        try dsimp only [thenA, inBlockA]
        refine PostA_retc rfl ?_
        simp -dsimp -implicitDefEqProofs (disch := first | assumption | omega | (simp [maxLen, avs_len] <;> omega) | decide) only [oK_some, q_o, loadF, ↓reduceIte, q_b, ifp, q_f, q_l, q_n, Nat.reduceEqDiff, takeD_all, Nat.reduceAdd, sz_31, ag_31]
        show closeA _ _ = _
        simp (disch := first | assumption | omega | (simp [maxLen, avs_len] <;> omega) | decide) only [closeA, deep_d, deep_agg, deepL_nil, deepL_cons, Nat.reduceAdd, Nat.zero_add, D.fix, Option.map_some, Option.bind_some, List.length_cons, List.length_nil, iD, oD, repD, repC, rep_slk, rep_same, rep_runs, hx1, hx2, hn]
      · have hx2 : (reportR r s).no = if s.new = true then r.to else r.frm := by simp at ht; simp [reportR, ht]
        refine awp_skip (hK10 _ _ ?_)
        refine awp_seq_s KT_ok hc rfl fun K14 hK14 => ?_
        simp -dsimp -implicitDefEqProofs (disch := first | assumption | omega | (simp [maxLen, avs_len] <;> omega) | decide) only [sT_load, sT_store, sT_nil, oK_some, q_o, loadF, storeF, ↓reduceIte, q_b, ifp, q_f, q_l, q_s, q_a, AV.one, D.one, Value.oneCell', q_n, Nat.reduceEqDiff, takeD_all, Nat.reduceAdd, sz_31, ag_31]
        refine hK14 _ _ ?_
        refine awp_ret ?_
        try dsimp only [thenA, inBlockA]
        refine PostA_retc rfl ?_
        simp -dsimp -implicitDefEqProofs (disch := first | assumption | omega | (simp [maxLen, avs_len] <;> omega) | decide) only [oK_some, q_o, loadF, ↓reduceIte, q_b, ifp, q_f, q_l, q_n, Nat.reduceEqDiff, takeD_all, Nat.reduceAdd, sz_31, ag_31]
        show closeA _ _ = _
        simp (disch := first | assumption | omega | (simp [maxLen, avs_len] <;> omega) | decide) only [closeA, deep_d, deep_agg, deepL_nil, deepL_cons, Nat.reduceAdd, Nat.zero_add, D.fix, ↓reduceIte, Option.map_some, Option.bind_some, List.length_cons, List.length_nil, iD, oD, repD, repC, rep_slk, rep_same, rep_runs, hx1, hx2, hn]
    · have hn : s.new = false := ht
      refine awp_skip (hK7 _ _ ?_)
      refine awp_seq_k fun K15 hK15 => ?_
      refine awp_seq_s KT_ok hc rfl fun K16 hK16 => ?_
      simp -dsimp -implicitDefEqProofs (disch := first | assumption | omega | (simp [maxLen, avs_len] <;> omega) | decide) only [sT_load, sT_fa, sT_bin, sT_nil, oK_some, q_o, loadF, fieldAddrF, binF_v, v_rem, v_eql, ↓reduceIte, q_b, ifp, q_f, q_l, q_n, Nat.reduceEqDiff, Nat.reduceAdd, fo_45_0, sz_5, ag_5]
      refine hK16 _ _ ?_
      refine awp_cond rfl (fun ht => ?_) (fun ht => ?_)
      · have hx2 : (reportR r s).no = s.slk := by simp at ht; simp [reportR, ht]
        refine awp_s KT_ok hc rfl fun K17 hK17 => ?_
        simp -dsimp -implicitDefEqProofs (disch := first | assumption | omega | (simp [maxLen, avs_len] <;> omega) | decide) only [sT_load, sT_fa, sT_conv, sT_store, sT_nil, oK_some, loadF, fieldAddrF, convF, storeF, ↓reduceIte, q_b, ifp, q_f, q_l, q_s, q_a, q_n, Nat.reduceEqDiff, w_i64, Nat.reduceAdd, fo_45_2, sz_5, ag_5, ik_5, sz_3, ik_3, fo_31_1]
        refine hK17 _ _ (hK15 _ _ ?_)
        refine awp_seq_s KT_ok hc rfl fun K18 hK18 => ?_
        simp -dsimp -implicitDefEqProofs (disch := first | assumption | omega | (simp [maxLen, avs_len] <;> omega) | decide) only [sT_load, sT_store, sT_nil, oK_some, q_o, loadF, storeF, ↓reduceIte, q_b, ifp, q_f, q_l, q_s, q_a, AV.one, D.one, Value.oneCell', q_n, Nat.reduceEqDiff, takeD_all, Nat.reduceAdd, sz_31, ag_31]
        refine hK18 _ _ ?_
        refine awp_ret ?_
        try dsimp only [thenA, inBlockA]
        refine PostA_retc rfl ?_
        simp -dsimp -implicitDefEqProofs (disch := first | assumption | omega | (simp [maxLen, avs_len] <;> omega) | decide) only [oK_some, q_o, loadF, ↓reduceIte, q_b, ifp, q_f, q_l, q_n, Nat.reduceEqDiff, takeD_all, Nat.reduceAdd, sz_31, ag_31]
        show closeA _ _ = _
        simp (disch := first | assumption | omega | (simp [maxLen, avs_len] <;> omega) | decide) only [closeA, deep_d, deep_agg, deepL_nil, deepL_cons, Nat.reduceAdd, Nat.zero_add, D.fix, Option.map_some, Option.bind_some, List.length_cons, List.length_nil, iD, oD, repD, repC, rep_slk, rep_same, rep_runs, hx1, hx2, hn]
      · have hx2 : (reportR r s).no = if s.new = true then r.to else r.frm := by simp at ht; simp [reportR, ht]
        refine awp_skip (hK15 _ _ ?_)
        refine awp_seq_s KT_ok hc rfl fun K19 hK19 => ?_
        simp -dsimp -implicitDefEqProofs (disch := first | assumption | omega | (simp [maxLen, avs_len] <;> omega) | decide) only [sT_load, sT_store, sT_nil, oK_some, q_o, loadF, storeF, ↓reduceIte, q_b, ifp, q_f, q_l, q_s, q_a, AV.one, D.one, Value.oneCell', q_n, Nat.reduceEqDiff, takeD_all, Nat.reduceAdd, sz_31, ag_31]
        refine hK19 _ _ ?_
        refine awp_ret ?_
        try dsimp only [thenA, inBlockA]
        refine PostA_retc rfl ?_
        simp -dsimp -implicitDefEqProofs (disch := first | assumption | omega | (simp [maxLen, avs_len] <;> omega) | decide) only [oK_some, q_o, loadF, ↓reduceIte, q_b, ifp, q_f, q_l, q_n, Nat.reduceEqDiff, takeD_all, Nat.reduceAdd, sz_31, ag_31]
        show closeA _ _ = _
        simp (disch := first | assumption | omega | (simp [maxLen, avs_len] <;> omega) | decide) only [closeA, deep_d, deep_agg, deepL_nil, deepL_cons, Nat.reduceAdd, Nat.zero_add, D.fix, ↓reduceIte, Option.map_some, Option.bind_some, List.length_cons, List.length_nil, iD, oD, repD, repC, rep_slk, rep_same, rep_runs, hx1, hx2, hn, Bool.false_eq_true]
  · have hx1 : (reportR r s).chip = s.chip % 13 := by simp at ht; simp [reportR, show ¬ 64 ≤ s.chip by omega]
    refine awp_skip (hK4 _ _ ?_)
    refine awp_seq_k fun K20 hK20 => ?_
    refine awp_seq_s KT_ok hc rfl fun K21 hK21 => ?_
    simp -dsimp -implicitDefEqProofs (disch := first | assumption | omega | (simp [maxLen, avs_len] <;> omega) | decide) only [sT_load, sT_fa, sT_nil, oK_some, loadF, fieldAddrF, ↓reduceIte, q_b, ifp, q_f, q_l, q_n, Nat.reduceEqDiff, Nat.reduceAdd, fo_45_5, sz_4, ag_4]
    refine hK21 _ _ ?_
    refine awp_cond rfl (fun ht => ?_) (fun ht => ?_)
    · have hn : s.new = true := ht
      refine awp_s KT_ok hc rfl fun K22 hK22 => ?_
      simp -dsimp -implicitDefEqProofs (disch := first | assumption | omega | (simp [maxLen, avs_len] <;> omega) | decide) only [sT_load, sT_fa, sT_store, sT_nil, oK_some, loadF, fieldAddrF, storeF, ↓reduceIte, q_b, ifp, q_f, q_l, q_s, q_a, q_n, Nat.reduceEqDiff, Nat.reduceAdd, fo_29_1, sz_3, ag_3, fo_31_1]
      refine hK22 _ _ (hK20 _ _ ?_)
      refine awp_seq_k fun K23 hK23 => ?_
      refine awp_seq_s KT_ok hc rfl fun K24 hK24 => ?_
      simp -dsimp -implicitDefEqProofs (disch := first | assumption | omega | (simp [maxLen, avs_len] <;> omega) | decide) only [sT_load, sT_fa, sT_bin, sT_nil, oK_some, q_o, loadF, fieldAddrF, binF_v, v_rem, v_eql, ↓reduceIte, q_b, ifp, q_f, q_l, q_n, Nat.reduceEqDiff, Nat.reduceAdd, fo_45_0, sz_5, ag_5]
      refine hK24 _ _ ?_
      refine awp_cond rfl (fun ht => ?_) (fun ht => ?_)
      · have hx2 : (reportR r s).no = s.slk := by simp at ht; simp [reportR, ht]
        refine awp_s KT_ok hc rfl fun K25 hK25 => ?_
        simp -dsimp -implicitDefEqProofs (disch := first | assumption | omega | (simp [maxLen, avs_len] <;> omega) | decide) only [sT_load, sT_fa, sT_conv, sT_store, sT_nil, oK_some, loadF, fieldAddrF, convF, storeF, ↓reduceIte, q_b, ifp, q_f, q_l, q_s, q_a, q_n, Nat.reduceEqDiff, w_i64, Nat.reduceAdd, fo_45_2, sz_5, ag_5, ik_5, sz_3, ik_3, fo_31_1]
        refine hK25 _ _ (hK23 _ _ ?_)
        refine awp_seq_s KT_ok hc rfl fun K26 hK26 => ?_
        simp -dsimp -implicitDefEqProofs (disch := first | assumption | omega | (simp [maxLen, avs_len] <;> omega) | decide) only [sT_load, sT_store, sT_nil, oK_some, q_o, loadF, storeF, ↓reduceIte, q_b, ifp, q_f, q_l, q_s, q_a, AV.one, D.one, Value.oneCell', q_n, Nat.reduceEqDiff, takeD_all, Nat.reduceAdd, sz_31, ag_31]
        refine hK26 _ _ ?_
        refine awp_ret ?_
        try dsimp only [thenA, inBlockA]
        refine PostA_retc rfl ?_
        simp -dsimp -implicitDefEqProofs (disch := first | assumption | omega | (simp [maxLen, avs_len] <;> omega) | decide) only [oK_some, q_o, loadF, ↓reduceIte, q_b, ifp, q_f, q_l, q_n, Nat.reduceEqDiff, takeD_all, Nat.reduceAdd, sz_31, ag_31]
        show closeA _ _ = _
        simp (disch := first | assumption | omega | (simp [maxLen, avs_len] <;> omega) | decide) only [closeA, deep_d, deep_agg, deepL_nil, deepL_cons, Nat.reduceAdd, Nat.zero_add, D.fix, Option.map_some, Option.bind_some, List.length_cons, List.length_nil, iD, oD, repD, repC, rep_slk, rep_same, rep_runs, hx1, hx2, hn]
      · have hx2 : (reportR r s).no = if s.new = true then r.to else r.frm := by simp at ht; simp [reportR, ht]
        refine awp_skip (hK23 _ _ ?_)
        refine awp_seq_s KT_ok hc rfl fun K27 hK27 => ?_
        simp -dsimp -implicitDefEqProofs (disch := first | assumption | omega | (simp [maxLen, avs_len] <;> omega) | decide) only [sT_load, sT_store, sT_nil, oK_some, q_o, loadF, storeF, ↓reduceIte, q_b, ifp, q_f, q_l, q_s, q_a, AV.one, D.one, Value.oneCell', q_n, Nat.reduceEqDiff, takeD_all, Nat.reduceAdd, sz_31, ag_31]
        refine hK27 _ _ ?_
        refine awp_ret ?_
        try dsimp only [thenA, inBlockA]
        refine PostA_retc rfl ?_
        simp -dsimp -implicitDefEqProofs (disch := first | assumption | omega | (simp [maxLen, avs_len] <;> omega) | decide) only [oK_some, q_o, loadF, ↓reduceIte, q_b, ifp, q_f, q_l, q_n, Nat.reduceEqDiff, takeD_all, Nat.reduceAdd, sz_31, ag_31]
        show closeA _ _ = _
        simp (disch := first | assumption | omega | (simp [maxLen, avs_len] <;> omega) | decide) only [closeA, deep_d, deep_agg, deepL_nil, deepL_cons, Nat.reduceAdd, Nat.zero_add, D.fix, ↓reduceIte, Option.map_some, Option.bind_some, List.length_cons, List.length_nil, iD, oD, repD, repC, rep_slk, rep_same, rep_runs, hx1, hx2, hn]
    · have hn : s.new = false := ht
      refine awp_skip (hK20 _ _ ?_)
      refine awp_seq_k fun K28 hK28 => ?_
      refine awp_seq_s KT_ok hc rfl fun K29 hK29 => ?_
      simp -dsimp -implicitDefEqProofs (disch := first | assumption | omega | (simp [maxLen, avs_len] <;> omega) | decide) only [sT_load, sT_fa, sT_bin, sT_nil, oK_some, q_o, loadF, fieldAddrF, binF_v, v_rem, v_eql, ↓reduceIte, q_b, ifp, q_f, q_l, q_n, Nat.reduceEqDiff, Nat.reduceAdd, fo_45_0, sz_5, ag_5]
      refine hK29 _ _ ?_
      refine awp_cond rfl (fun ht => ?_) (fun ht => ?_)
      · have hx2 : (reportR r s).no = s.slk := by simp at ht; simp [reportR, ht]
        refine awp_s KT_ok hc rfl fun K30 hK30 => ?_
        simp -dsimp -implicitDefEqProofs (disch := first | assumption | omega | (simp [maxLen, avs_len] <;> omega) | decide) only [sT_load, sT_fa, sT_conv, sT_store, sT_nil, oK_some, loadF, fieldAddrF, convF, storeF, ↓reduceIte, q_b, ifp, q_f, q_l, q_s, q_a, q_n, Nat.reduceEqDiff, w_i64, Nat.reduceAdd, fo_45_2, sz_5, ag_5, ik_5, sz_3, ik_3, fo_31_1]
        refine hK30 _ _ (hK28 _ _ ?_)
        refine awp_seq_s KT_ok hc rfl fun K31 hK31 => ?_
        simp -dsimp -implicitDefEqProofs (disch := first | assumption | omega | (simp [maxLen, avs_len] <;> omega) | decide) only [sT_load, sT_store, sT_nil, oK_some, q_o, loadF, storeF, ↓reduceIte, q_b, ifp, q_f, q_l, q_s, q_a, AV.one, D.one, Value.oneCell', q_n, Nat.reduceEqDiff, takeD_all, Nat.reduceAdd, sz_31, ag_31]
        refine hK31 _ _ ?_
        refine awp_ret ?_
        try dsimp only [thenA, inBlockA]
        refine PostA_retc rfl ?_
        simp -dsimp -implicitDefEqProofs (disch := first | assumption | omega | (simp [maxLen, avs_len] <;> omega) | decide) only [oK_some, q_o, loadF, ↓reduceIte, q_b, ifp, q_f, q_l, q_n, Nat.reduceEqDiff, takeD_all, Nat.reduceAdd, sz_31, ag_31]
        show closeA _ _ = _
        simp (disch := first | assumption | omega | (simp [maxLen, avs_len] <;> omega) | decide) only [closeA, deep_d, deep_agg, deepL_nil, deepL_cons, Nat.reduceAdd, Nat.zero_add, D.fix, Option.map_some, Option.bind_some, List.length_cons, List.length_nil, iD, oD, repD, repC, rep_slk, rep_same, rep_runs, hx1, hx2, hn]
      · have hx2 : (reportR r s).no = if s.new = true then r.to else r.frm := by simp at ht; simp [reportR, ht]
        refine awp_skip (hK28 _ _ ?_)
        refine awp_seq_s KT_ok hc rfl fun K32 hK32 => ?_
        simp -dsimp -implicitDefEqProofs (disch := first | assumption | omega | (simp [maxLen, avs_len] <;> omega) | decide) only [sT_load, sT_store, sT_nil, oK_some, q_o, loadF, storeF, ↓reduceIte, q_b, ifp, q_f, q_l, q_s, q_a, AV.one, D.one, Value.oneCell', q_n, Nat.reduceEqDiff, takeD_all, Nat.reduceAdd, sz_31, ag_31]
        refine hK32 _ _ ?_
        refine awp_ret ?_
        try dsimp only [thenA, inBlockA]
        refine PostA_retc rfl ?_
        simp -dsimp -implicitDefEqProofs (disch := first | assumption | omega | (simp [maxLen, avs_len] <;> omega) | decide) only [oK_some, q_o, loadF, ↓reduceIte, q_b, ifp, q_f, q_l, q_n, Nat.reduceEqDiff, takeD_all, Nat.reduceAdd, sz_31, ag_31]
        show closeA _ _ = _
        simp (disch := first | assumption | omega | (simp [maxLen, avs_len] <;> omega) | decide) only [closeA, deep_d, deep_agg, deepL_nil, deepL_cons, Nat.reduceAdd, Nat.zero_add, D.fix, ↓reduceIte, Option.map_some, Option.bind_some, List.length_cons, List.length_nil, iD, oD, repD, repC, rep_slk, rep_same, rep_runs, hx1, hx2, hn, Bool.false_eq_true]
def pickR (r : Rol) (g : Rol × Int) : Rol := if g.2 = 0 then g.1 else r
def nextR (r : Rol) (s : Sp) : Rol :=
  if s.kind % 8 = 0 then pickR r (resumeG r) else if s.kind % 8 = 1 then (if 0 < s.kind % 3 then r else pickR r (backG r)) else pickR r (seeG r (reportR r s))
theorem VR.pick {r : Rol} (h : VR r) {g : Rol × Int} (hg : g.2 = 0 → VR g.1) : VR (pickR r g) := by
  unfold pickR; split
  · rename_i he; exact hg he
  · exact h
theorem VR.resumeG {r : Rol} (h : VR r) (he : (resumeG r).2 = 0) : VR (resumeG r).1 := by
  unfold Go.Proofs.Ytinefghmmbggeaa.resumeG at *
  split at he
  · rename_i hs; rw [if_pos hs]; exact h.resume hs
  · cases he
theorem VR.backG {r : Rol} (h : VR r) (he : (backG r).2 = 0) : VR (backG r).1 := by
  unfold Go.Proofs.Ytinefghmmbggeaa.backG at *
  split at he
  · cases he
  · rename_i hs; rw [if_neg hs]; exact h.back
theorem VR.next {r : Rol} (h : VR r) (s : Sp) : VR (nextR r s) := by
  unfold nextR
  split
  · exact h.pick h.resumeG
  · split
    · split
      · exact h
      · exact h.pick h.backG
    · exact h.pick h.seeG
set_option maxRecDepth 100000 in
set_option linter.unusedVariables false in
set_option maxHeartbeats 4000000 in
theorem next_c (r : Rol) (s : Sp) (hr : VR r) (hs : SpOk s) : PCalls Try.prog 34 [rolD r, spD s] (.d (rolD (nextR r s))) := by
  refine pcalls_of0 (fn := Try.f34) (by kernel_rfl) Try.func34 rfl (Nat.le_of_ble_eq_true rfl) fun c hc hp => ?_
  refine awp_less (τ' := frL [(0, .d (rolD r)), (1, .d (spD s))]) (less_cons (less_cons (less_nil _) rfl) rfl) ?_
  have k0 := hs.k.1
  have k1 := hs.k.2
  refine awp_seq_s KT_ok hc rfl fun K1 hK1 => ?_
  simp -dsimp -implicitDefEqProofs (disch := first | assumption | omega | (simp [maxLen, avs_len] <;> omega) | decide) only [sT_box, sT_alloc, deadH, sT_nil, oK_some, q_o, layF, ↓reduceIte, q_b, q_f, q_s, q_l, as_dagg, D.one, Value.oneCell', q_n, Nat.reduceEqDiff, map_d, avs_nil, avs_cons, iD, bD, oD, intsD, intssD, Nat.reduceAdd, deadH, rolD, rolC, spD, spC, za_29]
  refine hK1 _ _ ?_
  refine awp_seq_s KT_ok hc rfl fun K2 hK2 => ?_
  simp -dsimp -implicitDefEqProofs (disch := first | assumption | omega | (simp [maxLen, avs_len] <;> omega) | decide) only [sT_build, sT_alloc, sT_store, deadH, sT_nil, oK_some, q_o, buildF, layF, storeF, ↓reduceIte, q_b, ifp, q_f, q_s, q_l, q_a, AV.one, D.one, Value.oneCell', q_n, Nat.reduceEqDiff, map_d, avs_nil, avs_cons, Nat.reduceAdd, deadH, pa_40, sz_40, za_40, zc_40]
  refine hK2 _ _ ?_
  refine awp_seq_k fun K3 hK3 => ?_
  refine awp_seq_s KT_ok hc rfl fun K4 hK4 => ?_
  simp -dsimp -implicitDefEqProofs (disch := first | assumption | omega | (simp [maxLen, avs_len] <;> omega) | decide) only [sT_load, sT_fa, sT_bin, sT_nil, oK_some, q_o, loadF, fieldAddrF, binF_v, v_rem, ↓reduceIte, q_b, ifp, q_f, q_l, q_n, Nat.reduceEqDiff, Nat.reduceAdd, fo_45_0, sz_5, ag_5]
  refine hK4 _ _ ?_
  refine awp_block ?_
  refine awp_seq_s KT_ok hc rfl fun K5 hK5 => ?_
  rcases (show s.kind % 8 = 0 ∨ s.kind % 8 = 1 ∨ (s.kind % 8 ≠ 0 ∧ s.kind % 8 ≠ 1) from by omega) with g | g | g
  · simp -dsimp -implicitDefEqProofs (disch := first | assumption | omega | (simp [maxLen, avs_len] <;> omega) | decide) only [sT_assign, sT_bin, sT_nil, oK_some, q_o, binF_v, v_eql, ↓reduceIte, q_b, q_f, beq_t]
    refine hK5 _ _ ?_
    refine awp_cond rfl (fun ht => ?_) (fun ht => ?_)
    · refine awp_s KT_ok hc rfl fun K6 hK6 => ?_
      simp -dsimp -implicitDefEqProofs (disch := first | assumption | omega | (simp [maxLen, avs_len] <;> omega) | decide) only [sT_load, sT_call0, oK_some, q_o, loadF, ↓reduceIte, q_b, ifp, q_f, q_s, q_l, q_n, Nat.reduceEqDiff, takeD_all, Nat.reduceAdd, sz_29, ag_29]
      refine kc_by (resumep_c r) rfl ?_
      simp -dsimp -implicitDefEqProofs (disch := first | assumption | omega | (simp [maxLen, avs_len] <;> omega) | decide) only [sT_store, sT_nil, oK_some, storeF, ↓reduceIte, q_b, ifp, q_f, q_s, q_l, as_dagg, q_a, D.one, Value.oneCell', q_n, Nat.reduceEqDiff, iD, intsD, intssD, Nat.reduceAdd, gotD, sz_40]
      refine hK6 _ _ (hK3 _ _ ?_)
      refine awp_seq_k fun K7 hK7 => ?_
      refine awp_seq_s KT_ok hc rfl fun K8 hK8 => ?_
      simp -dsimp -implicitDefEqProofs (disch := first | assumption | omega | (simp [maxLen, avs_len] <;> omega) | decide) only [sT_load, sT_fa, sT_bin, sT_nil, oK_some, q_o, loadF, fieldAddrF, binF_v, v_neq, ↓reduceIte, q_b, ifp, q_f, q_l, q_n, Nat.reduceEqDiff, Nat.reduceAdd, fo_40_1, sz_38, ag_38]
      refine hK8 _ _ ?_
      refine awp_cond rfl (fun ht => ?_) (fun ht => ?_)
      · have he : (resumeG r).2 ≠ 0 := by simpa using ht
        have hx : nextR r s = r := by simp [nextR, g, pickR, he]
        refine awp_seq_s KT_ok hc rfl fun K9 hK9 => ?_
        simp -dsimp -implicitDefEqProofs (disch := first | assumption | omega | (simp [maxLen, avs_len] <;> omega) | decide) only [sT_load, sT_store, sT_nil, oK_some, q_o, loadF, storeF, ↓reduceIte, q_b, ifp, q_f, q_l, q_s, q_a, AV.one, D.one, Value.oneCell', q_n, Nat.reduceEqDiff, takeD_all, Nat.reduceAdd, sz_29, ag_29]
        refine hK9 _ _ ?_
        refine awp_ret ?_
        try dsimp only [thenA, inBlockA]
        refine PostA_retc rfl ?_
        simp -dsimp -implicitDefEqProofs (disch := first | assumption | omega | (simp [maxLen, avs_len] <;> omega) | decide) only [oK_some, q_o, loadF, ↓reduceIte, q_b, ifp, q_f, q_l, q_n, Nat.reduceEqDiff, takeD_all, iD, intsD, intssD, Nat.reduceAdd, rolD, rolC, sz_29, ag_29]
        show closeA _ _ = _
        simp (disch := first | assumption | omega | (simp [maxLen, avs_len] <;> omega) | decide) only [closeA, deep_d, deep_agg, deepL_nil, deepL_cons, Nat.reduceAdd, Nat.zero_add, D.fix, Option.map_some, Option.bind_some, List.length_cons, List.length_nil, hx]
      · have he : (resumeG r).2 = 0 := by simpa using ht
        have hx : nextR r s = (resumeG r).1 := by simp [nextR, g, pickR, he]
        refine awp_skip (hK7 _ _ ?_)
        refine awp_seq_s KT_ok hc rfl fun K10 hK10 => ?_
        simp -dsimp -implicitDefEqProofs (disch := first | assumption | omega | (simp [maxLen, avs_len] <;> omega) | decide) only [sT_load, sT_fa, sT_store, sT_nil, oK_some, q_o, loadF, fieldAddrF, storeF, ↓reduceIte, q_b, ifp, q_f, q_l, q_s, q_a, AV.one, D.one, Value.oneCell', q_n, Nat.reduceEqDiff, takeD_zero, takeD_cs, Nat.reduceAdd, fo_40_0, sz_29, ag_29]
        refine hK10 _ _ ?_
        refine awp_ret ?_
        try dsimp only [thenA, inBlockA]
        refine PostA_retc rfl ?_
        simp -dsimp -implicitDefEqProofs (disch := first | assumption | omega | (simp [maxLen, avs_len] <;> omega) | decide) only [oK_some, q_o, loadF, ↓reduceIte, q_b, ifp, q_f, q_l, q_n, Nat.reduceEqDiff, takeD_all, iD, intsD, intssD, Nat.reduceAdd, rolD, rolC, sz_29, ag_29]
        show closeA _ _ = _
        simp (disch := first | assumption | omega | (simp [maxLen, avs_len] <;> omega) | decide) only [closeA, deep_d, deep_agg, deepL_nil, deepL_cons, Nat.reduceAdd, Nat.zero_add, D.fix, Option.map_some, Option.bind_some, List.length_cons, List.length_nil, hx]
    · cases ht
  · simp -dsimp -implicitDefEqProofs (disch := first | assumption | omega | (simp [maxLen, avs_len] <;> omega) | decide) only [sT_assign, sT_bin, sT_nil, oK_some, q_o, binF_v, v_eql, ↓reduceIte, q_b, q_f, beq_f]
    refine hK5 _ _ ?_
    refine awp_cond rfl (fun ht => ?_) (fun ht => ?_)
    · cases ht
    · refine awp_seq_s KT_ok hc rfl fun K11 hK11 => ?_
      simp -dsimp -implicitDefEqProofs (disch := first | assumption | omega | (simp [maxLen, avs_len] <;> omega) | decide) only [sT_assign, sT_bin, sT_nil, oK_some, q_o, binF_v, v_eql, ↓reduceIte, q_b, q_f, Nat.reduceEqDiff, beq_t]
      refine hK11 _ _ ?_
      refine awp_cond rfl (fun ht => ?_) (fun ht => ?_)
      · refine awp_seq_k fun K12 hK12 => ?_
        refine awp_seq_s KT_ok hc rfl fun K13 hK13 => ?_
        simp -dsimp -implicitDefEqProofs (disch := first | assumption | omega | (simp [maxLen, avs_len] <;> omega) | decide) only [sT_load, sT_fa, sT_bin, sT_nil, oK_some, q_o, loadF, fieldAddrF, binF_v, v_rem, v_gtr, ↓reduceIte, q_b, ifp, q_f, q_l, q_n, Nat.reduceEqDiff, Nat.reduceAdd, fo_45_0, sz_5, ag_5]
        refine hK13 _ _ ?_
        refine awp_cond rfl (fun ht => ?_) (fun ht => ?_)
        · have h3 : 0 < s.kind % 3 := by simpa using ht
          have hx : nextR r s = r := by simp [nextR, g, h3]
          refine awp_seq_s KT_ok hc rfl fun K14 hK14 => ?_
          simp -dsimp -implicitDefEqProofs (disch := first | assumption | omega | (simp [maxLen, avs_len] <;> omega) | decide) only [sT_load, sT_store, sT_nil, oK_some, q_o, loadF, storeF, ↓reduceIte, q_b, ifp, q_f, q_l, q_s, q_a, AV.one, D.one, Value.oneCell', q_n, Nat.reduceEqDiff, takeD_all, Nat.reduceAdd, sz_29, ag_29]
          refine hK14 _ _ ?_
          refine awp_ret ?_
          try dsimp only [thenA, inBlockA]
          refine PostA_retc rfl ?_
          simp -dsimp -implicitDefEqProofs (disch := first | assumption | omega | (simp [maxLen, avs_len] <;> omega) | decide) only [oK_some, q_o, loadF, ↓reduceIte, q_b, ifp, q_f, q_l, q_n, Nat.reduceEqDiff, takeD_all, iD, intsD, intssD, Nat.reduceAdd, rolD, rolC, sz_29, ag_29]
          show closeA _ _ = _
          simp (disch := first | assumption | omega | (simp [maxLen, avs_len] <;> omega) | decide) only [closeA, deep_d, deep_agg, deepL_nil, deepL_cons, Nat.reduceAdd, Nat.zero_add, D.fix, Option.map_some, Option.bind_some, List.length_cons, List.length_nil, hx]
        · have h3 : ¬ 0 < s.kind % 3 := by simpa using ht
          refine awp_skip (hK12 _ _ ?_)
          refine awp_s KT_ok hc rfl fun K15 hK15 => ?_
          simp -dsimp -implicitDefEqProofs (disch := first | assumption | omega | (simp [maxLen, avs_len] <;> omega) | decide) only [sT_load, sT_call0, oK_some, q_o, loadF, ↓reduceIte, q_b, ifp, q_f, q_s, q_l, q_n, Nat.reduceEqDiff, takeD_all, Nat.reduceAdd, sz_29, ag_29]
          refine kc_by (backp_c r hr.short) rfl ?_
          simp -dsimp -implicitDefEqProofs (disch := first | assumption | omega | (simp [maxLen, avs_len] <;> omega) | decide) only [sT_store, sT_nil, oK_some, storeF, ↓reduceIte, q_b, ifp, q_f, q_s, q_l, as_dagg, q_a, D.one, Value.oneCell', q_n, Nat.reduceEqDiff, iD, intsD, intssD, Nat.reduceAdd, gotD, sz_40]
          refine hK15 _ _ (hK3 _ _ ?_)
          refine awp_seq_k fun K16 hK16 => ?_
          refine awp_seq_s KT_ok hc rfl fun K17 hK17 => ?_
          simp -dsimp -implicitDefEqProofs (disch := first | assumption | omega | (simp [maxLen, avs_len] <;> omega) | decide) only [sT_load, sT_fa, sT_bin, sT_nil, oK_some, q_o, loadF, fieldAddrF, binF_v, v_neq, ↓reduceIte, q_b, ifp, q_f, q_l, q_n, Nat.reduceEqDiff, Nat.reduceAdd, fo_40_1, sz_38, ag_38]
          refine hK17 _ _ ?_
          refine awp_cond rfl (fun ht => ?_) (fun ht => ?_)
          · have he : (backG r).2 ≠ 0 := by simpa using ht
            have hx : nextR r s = r := by simp [nextR, g, h3, pickR, he]
            refine awp_seq_s KT_ok hc rfl fun K18 hK18 => ?_
            simp -dsimp -implicitDefEqProofs (disch := first | assumption | omega | (simp [maxLen, avs_len] <;> omega) | decide) only [sT_load, sT_store, sT_nil, oK_some, q_o, loadF, storeF, ↓reduceIte, q_b, ifp, q_f, q_l, q_s, q_a, AV.one, D.one, Value.oneCell', q_n, Nat.reduceEqDiff, takeD_all, Nat.reduceAdd, sz_29, ag_29]
            refine hK18 _ _ ?_
            refine awp_ret ?_
            try dsimp only [thenA, inBlockA]
            refine PostA_retc rfl ?_
            simp -dsimp -implicitDefEqProofs (disch := first | assumption | omega | (simp [maxLen, avs_len] <;> omega) | decide) only [oK_some, q_o, loadF, ↓reduceIte, q_b, ifp, q_f, q_l, q_n, Nat.reduceEqDiff, takeD_all, iD, intsD, intssD, Nat.reduceAdd, rolD, rolC, sz_29, ag_29]
            show closeA _ _ = _
            simp (disch := first | assumption | omega | (simp [maxLen, avs_len] <;> omega) | decide) only [closeA, deep_d, deep_agg, deepL_nil, deepL_cons, Nat.reduceAdd, Nat.zero_add, D.fix, Option.map_some, Option.bind_some, List.length_cons, List.length_nil, hx]
          · have he : (backG r).2 = 0 := by simpa using ht
            have hx : nextR r s = (backG r).1 := by simp [nextR, g, h3, pickR, he]
            refine awp_skip (hK16 _ _ ?_)
            refine awp_seq_s KT_ok hc rfl fun K19 hK19 => ?_
            simp -dsimp -implicitDefEqProofs (disch := first | assumption | omega | (simp [maxLen, avs_len] <;> omega) | decide) only [sT_load, sT_fa, sT_store, sT_nil, oK_some, q_o, loadF, fieldAddrF, storeF, ↓reduceIte, q_b, ifp, q_f, q_l, q_s, q_a, AV.one, D.one, Value.oneCell', q_n, Nat.reduceEqDiff, takeD_zero, takeD_cs, Nat.reduceAdd, fo_40_0, sz_29, ag_29]
            refine hK19 _ _ ?_
            refine awp_ret ?_
            try dsimp only [thenA, inBlockA]
            refine PostA_retc rfl ?_
            simp -dsimp -implicitDefEqProofs (disch := first | assumption | omega | (simp [maxLen, avs_len] <;> omega) | decide) only [oK_some, q_o, loadF, ↓reduceIte, q_b, ifp, q_f, q_l, q_n, Nat.reduceEqDiff, takeD_all, iD, intsD, intssD, Nat.reduceAdd, rolD, rolC, sz_29, ag_29]
            show closeA _ _ = _
            simp (disch := first | assumption | omega | (simp [maxLen, avs_len] <;> omega) | decide) only [closeA, deep_d, deep_agg, deepL_nil, deepL_cons, Nat.reduceAdd, Nat.zero_add, D.fix, Option.map_some, Option.bind_some, List.length_cons, List.length_nil, hx]
      · cases ht
  · simp -dsimp -implicitDefEqProofs (disch := first | assumption | omega | (simp [maxLen, avs_len] <;> omega) | decide) only [sT_assign, sT_bin, sT_nil, oK_some, q_o, binF_v, v_eql, ↓reduceIte, q_b, q_f, beq_f]
    refine hK5 _ _ ?_
    refine awp_cond rfl (fun ht => ?_) (fun ht => ?_)
    · cases ht
    · refine awp_seq_s KT_ok hc rfl fun K20 hK20 => ?_
      simp -dsimp -implicitDefEqProofs (disch := first | assumption | omega | (simp [maxLen, avs_len] <;> omega) | decide) only [sT_assign, sT_bin, sT_nil, oK_some, q_o, binF_v, v_eql, ↓reduceIte, q_b, q_f, Nat.reduceEqDiff, beq_f]
      refine hK20 _ _ ?_
      refine awp_cond rfl (fun ht => ?_) (fun ht => ?_)
      · cases ht
      · refine awp_se KT_ok hc mixed rfl (q := 0) (by kernel_rfl) (by kernel_rfl) fun K21 hK21 => ?_
        simp -dsimp -implicitDefEqProofs (disch := first | assumption | omega | (simp [maxLen, avs_len] <;> omega) | decide) only [sE_load, sE_call0, oK_some, q_o, loadF, ↓reduceIte, q_b, ifp, q_f, q_s, q_l, List.append_nil, List.replicate_zero, q_n, Nat.reduceEqDiff, takeD_all, Nat.reduceAdd, sz_29, ag_29, sz_45, ag_45]
        refine kc_by (report_c r s hr hs) rfl ?_
        simp -dsimp -implicitDefEqProofs (disch := first | assumption | omega | (simp [maxLen, avs_len] <;> omega) | decide) only [sE_call0, ↓reduceIte, q_b, q_f, q_s, Nat.reduceEqDiff, Nat.reduceAdd]
        refine kc_by (seep_c r (reportR r s) (hr.see (rep_i64 hr hs)) hr.inc) rfl ?_
        simp -dsimp -implicitDefEqProofs (disch := first | assumption | omega | (simp [maxLen, avs_len] <;> omega) | decide) only [sE_store, sE_nil, oK_some, storeF, ↓reduceIte, q_b, ifp, ifn, q_f, q_s, q_l, as_dagg, q_a, D.one, Value.oneCell', q_n, Nat.reduceEqDiff, killAll, iD, intsD, intssD, Nat.reduceAdd, gotD, sz_40]
        refine hK21 _ _ (hK3 _ _ ?_)
        refine awp_seq_k fun K22 hK22 => ?_
        refine awp_seq_s KT_ok hc rfl fun K23 hK23 => ?_
        simp -dsimp -implicitDefEqProofs (disch := first | assumption | omega | (simp [maxLen, avs_len] <;> omega) | decide) only [sT_load, sT_fa, sT_bin, sT_nil, oK_some, q_o, loadF, fieldAddrF, binF_v, v_neq, ↓reduceIte, q_b, ifp, q_f, q_l, q_n, Nat.reduceEqDiff, Nat.reduceAdd, fo_40_1, sz_38, ag_38]
        refine hK23 _ _ ?_
        refine awp_cond rfl (fun ht => ?_) (fun ht => ?_)
        · have he : (seeG r (reportR r s)).2 ≠ 0 := by simpa using ht
          have hx : nextR r s = r := by simp [nextR, g, pickR, he]
          refine awp_seq_s KT_ok hc rfl fun K24 hK24 => ?_
          simp -dsimp -implicitDefEqProofs (disch := first | assumption | omega | (simp [maxLen, avs_len] <;> omega) | decide) only [sT_load, sT_store, sT_nil, oK_some, q_o, loadF, storeF, ↓reduceIte, q_b, ifp, q_f, q_l, q_s, q_a, AV.one, D.one, Value.oneCell', q_n, Nat.reduceEqDiff, takeD_all, Nat.reduceAdd, sz_29, ag_29]
          refine hK24 _ _ ?_
          refine awp_ret ?_
          try dsimp only [thenA, inBlockA]
          refine PostA_retc rfl ?_
          simp -dsimp -implicitDefEqProofs (disch := first | assumption | omega | (simp [maxLen, avs_len] <;> omega) | decide) only [oK_some, q_o, loadF, ↓reduceIte, q_b, ifp, q_f, q_l, q_n, Nat.reduceEqDiff, takeD_all, iD, intsD, intssD, Nat.reduceAdd, rolD, rolC, sz_29, ag_29]
          show closeA _ _ = _
          simp (disch := first | assumption | omega | (simp [maxLen, avs_len] <;> omega) | decide) only [closeA, deep_d, deep_agg, deepL_nil, deepL_cons, Nat.reduceAdd, Nat.zero_add, D.fix, Option.map_some, Option.bind_some, List.length_cons, List.length_nil, hx]
        · have he : (seeG r (reportR r s)).2 = 0 := by simpa using ht
          have hx : nextR r s = (seeG r (reportR r s)).1 := by simp [nextR, g, pickR, he]
          refine awp_skip (hK22 _ _ ?_)
          refine awp_seq_s KT_ok hc rfl fun K25 hK25 => ?_
          simp -dsimp -implicitDefEqProofs (disch := first | assumption | omega | (simp [maxLen, avs_len] <;> omega) | decide) only [sT_load, sT_fa, sT_store, sT_nil, oK_some, q_o, loadF, fieldAddrF, storeF, ↓reduceIte, q_b, ifp, q_f, q_l, q_s, q_a, AV.one, D.one, Value.oneCell', q_n, Nat.reduceEqDiff, takeD_zero, takeD_cs, Nat.reduceAdd, fo_40_0, sz_29, ag_29]
          refine hK25 _ _ ?_
          refine awp_ret ?_
          try dsimp only [thenA, inBlockA]
          refine PostA_retc rfl ?_
          simp -dsimp -implicitDefEqProofs (disch := first | assumption | omega | (simp [maxLen, avs_len] <;> omega) | decide) only [oK_some, q_o, loadF, ↓reduceIte, q_b, ifp, q_f, q_l, q_n, Nat.reduceEqDiff, takeD_all, iD, intsD, intssD, Nat.reduceAdd, rolD, rolC, sz_29, ag_29]
          show closeA _ _ = _
          simp (disch := first | assumption | omega | (simp [maxLen, avs_len] <;> omega) | decide) only [closeA, deep_d, deep_agg, deepL_nil, deepL_cons, Nat.reduceAdd, Nat.zero_add, D.fix, Option.map_some, Option.bind_some, List.length_cons, List.length_nil, hx]
def madeK (x : Rw) (k : Nat) : Rol := (x.steps.take k).foldl nextR (startR x)
def madeR (x : Rw) : Rol := madeK x 24
theorem madeK_step {x : Rw} {k : Nat} (h : k < x.steps.length) : madeK x (k + 1) = nextR (madeK x k) (nth x.steps k) := by
  unfold madeK; rw [take_nth h]; simp
theorem VR.foldl {l : List Sp} : ∀ {r : Rol}, VR r → VR (l.foldl nextR r) := by
  induction l with
  | nil => intro r h; exact h
  | cons s l ih => intro r h; exact ih (h.next s)
theorem madeK_ok {x : Rw} (h : RwOk x) (k : Nat) : VR (madeK x k) := (startR_ok h).foldl
set_option maxRecDepth 100000 in
set_option linter.unusedVariables false in
set_option maxHeartbeats 4000000 in
theorem madex_c (x : Rw) (hx : RwOk x) : PCalls Try.prog 11 [rwD x] (.d (rolD (madeR x))) := by
  refine pcalls_of0 (fn := Try.f11) (by kernel_rfl) Try.func11 rfl (Nat.le_of_ble_eq_true rfl) fun c hc hp => ?_
  refine awp_less (τ' := frL [(0, .d (rwD x))]) (less_cons (less_nil _) rfl) ?_
  refine awp_seq_s KT_ok hc rfl fun K1 hK1 => ?_
  simp -dsimp -implicitDefEqProofs (disch := first | assumption | omega | (simp [maxLen, avs_len, sps_len] <;> omega) | decide) only [sT_box, sT_alloc, deadH, sT_nil, oK_some, q_o, layF, ↓reduceIte, q_b, q_f, q_s, q_l, as_dagg, D.one, Value.oneCell', q_n, map_d, avs_nil, avs_cons, bD, bytesD, deadH, rwD, bytesD, spsD, za_29]
  refine hK1 _ _ ?_
  refine awp_seq_s KT_ok hc rfl fun K2 hK2 => ?_
  simp -dsimp -implicitDefEqProofs (disch := first | assumption | omega | (simp [maxLen, avs_len, sps_len] <;> omega) | decide) only [sT_load, sT_call0, oK_some, q_o, loadF, ↓reduceIte, q_b, ifp, q_f, q_s, q_l, q_n, Nat.reduceEqDiff, takeD_all, Nat.reduceAdd, sz_25, ag_25]
  refine kc_by (start_c x hx) rfl ?_
  simp -dsimp -implicitDefEqProofs (disch := first | assumption | omega | (simp [maxLen, avs_len, sps_len] <;> omega) | decide) only [sT_alloc, sT_store, deadH, sT_nil, oK_some, q_o, layF, storeF, ↓reduceIte, q_b, ifp, q_f, q_s, q_l, as_dagg, q_a, D.one, Value.oneCell', q_n, Nat.reduceEqDiff, map_d, avs_nil, avs_cons, iD, intsD, intssD, Nat.reduceAdd, deadH, rolD, rolC, sz_29, za_29]
  refine hK2 _ _ ?_
  refine awp_seq_k fun K3 hK3 => ?_
  refine awp_seq_s KT_ok hc rfl fun K4 hK4 => ?_
  simp -dsimp -implicitDefEqProofs (disch := first | assumption | omega | (simp [maxLen, avs_len, sps_len] <;> omega) | decide) only [sT_assign, sT_nil, q_f]
  refine hK4 _ _ ?_
  refine awp_block ?_
  refine awp_loop_rt hp (fun τ' H' mm => ∃ k, (k ≤ x.steps.length ∧ k ≤ 24) ∧ mm = 24 - k ∧ H' = [.cells [.d (bytesD x.ws), .d (bD x.slk), .d (spsD x.steps)], .cells [.d (iD 0), .d (iD 0), .d (.val (.slice none 0 0)), .d (iD 0), .d (iD 0), .d (.val (.slice none 0 0)), .d (iD 0)], .cells (avs (rolC (madeK x k)))] ∧ τ' = frL [(1, .op 0 0), (2, .op 1 0), (3, .op 2 0), (4, .d (iD k))]) (24) ?_ ⟨0, ⟨Nat.zero_le _, Nat.zero_le _⟩, rfl, rfl, rfl⟩ ?_
  · refine Rt.end (less_cons (less_cons (less_cons (less_cons (less_nil _) rfl) rfl) rfl) rfl) ?_
    rfl
  rintro τ' H' mm ⟨k, ⟨hk, hk2⟩, rfl, rfl, rfl⟩
  refine awp_seq_k fun K5 hK5 => ?_
  refine awp_seq_s KT_ok hc rfl fun K6 hK6 => ?_
  rcases (show (k < x.steps.length ∧ k < 24) ∨ (k < x.steps.length ∧ ¬ k < 24) ∨ ¬ k < x.steps.length from by omega) with ⟨hlt, hlt2⟩ | ⟨hlt, hlt2⟩ | hlt
  · simp -dsimp -implicitDefEqProofs (disch := first | assumption | omega | (simp [maxLen, avs_len, sps_len] <;> omega) | decide) only [sT_move, sT_pick, sT_load, sT_fa, sT_bin, sT_len, sT_nil, sT_g, oK_some, gK_t, q_o, loadF, fieldAddrF, binF_v, lenF, builtinF, v_lss, ↓reduceIte, q_b, ifp, guardA_some, guardV_t, q_f, q_s, q_l, q_n, Nat.reduceEqDiff, iD, bD, bytesD, Nat.reduceAdd, bytesD, spsD, dec_t, fo_25_2, sz_23, ag_23, eo_23]
    refine hK6 _ _ ?_
    refine awp_cond rfl (fun ht => ?_) (fun ht => ?_)
    · have hst := madeK_step hlt
      refine awp_skip (hK5 _ _ ?_)
      refine awp_seq_k fun K7 hK7 => ?_
      refine awp_block ?_
      refine awp_se KT_ok hc mixed rfl (q := 0) (by kernel_rfl) (by kernel_rfl) fun K8 hK8 => ?_
      simp -dsimp -implicitDefEqProofs (disch := first | assumption | omega | (simp [maxLen, avs_len, sps_len] <;> omega) | decide) only [sE_move, sE_load, sE_fa, sE_ia, sE_call0, oK_some, q_o, loadF, fieldAddrF, ixO, indexAddrF, ↓reduceIte, q_b, ifp, q_f, q_s, q_l, List.append_nil, List.replicate_zero, Int.toNat_natCast, q_n, Nat.reduceEqDiff, avs_nil, avs_cons, takeD_all, iD, bD, oD, intsD, intssD, Nat.reduceAdd, sp_row, spC, rolC, sz_29, ag_29, fo_25_2, sz_23, ag_23, eo_23, sz_45, ag_45]
      refine kc_by (next_c (madeK x k) (nth x.steps k) (madeK_ok hx k) (hx.st _ (nth_mem hlt))) rfl ?_
      simp -dsimp -implicitDefEqProofs (disch := first | assumption | omega | (simp [maxLen, avs_len, sps_len] <;> omega) | decide) only [sE_store, sE_nil, oK_some, storeF, ↓reduceIte, q_b, ifp, ifn, q_f, q_s, q_l, as_dagg, q_a, D.one, Value.oneCell', q_n, Nat.reduceEqDiff, killAll, iD, intsD, intssD, Nat.reduceAdd, rolC, rolD, sz_29]
      refine hK8 _ _ (hK7 _ _ ?_)
      refine awp_s KT_ok hc rfl fun K9 hK9 => ?_
      simp -dsimp -implicitDefEqProofs (disch := first | assumption | omega | (simp [maxLen, avs_len, sps_len] <;> omega) | decide) only [sT_move, sT_assign, sT_bin, sT_nil, oK_some, q_o, binF_v, v_add, ↓reduceIte, q_b, q_f, Nat.reduceEqDiff]
      refine hK9 _ _ ⟨_, _, _, ?_, ⟨k + 1, ⟨by omega, by omega⟩, rfl, rfl, rfl⟩, ?_⟩
      · first | omega | (simp only [List.length_cons]; omega) | (dsimp only; omega)
      · refine Rt.end (less_cons (less_cons (less_cons (less_cons (less_nil _) rfl) rfl) rfl) rfl) ?_
        rw [hst]; rfl
    · cases ht
  · simp -dsimp -implicitDefEqProofs (disch := first | assumption | omega | (simp [maxLen, avs_len, sps_len] <;> omega) | decide) only [sT_move, sT_pick, sT_load, sT_fa, sT_bin, sT_len, sT_nil, sT_g, oK_some, gK_t, q_o, loadF, fieldAddrF, binF_v, lenF, builtinF, v_lss, ↓reduceIte, q_b, ifp, guardA_some, guardV_t, q_f, q_s, q_l, q_n, Nat.reduceEqDiff, iD, bD, bytesD, Nat.reduceAdd, bytesD, spsD, dec_t, dec_f, fo_25_2, sz_23, ag_23, eo_23]
    refine hK6 _ _ ?_
    refine awp_cond rfl (fun ht => ?_) (fun ht => ?_)
    · cases ht
    · have he : madeR x = madeK x k := by unfold madeR; rw [show k = 24 by omega]
      refine awp_exit (hK3 _ _ ?_)
      refine awp_seq_s KT_ok hc rfl fun K10 hK10 => ?_
      simp -dsimp -implicitDefEqProofs (disch := first | assumption | omega | (simp [maxLen, avs_len, sps_len] <;> omega) | decide) only [sT_load, sT_store, sT_nil, oK_some, q_o, loadF, storeF, ↓reduceIte, q_b, ifp, q_f, q_l, q_s, q_a, AV.one, D.one, Value.oneCell', q_n, Nat.reduceEqDiff, avs_nil, avs_cons, takeD_all, iD, intsD, intssD, Nat.reduceAdd, rolC, sz_29, ag_29]
      refine hK10 _ _ ?_
      refine awp_ret ?_
      try dsimp only [thenA, inBlockA]
      refine PostA_retc rfl ?_
      simp -dsimp -implicitDefEqProofs (disch := first | assumption | omega | (simp [maxLen, avs_len, sps_len] <;> omega) | decide) only [oK_some, q_o, loadF, ↓reduceIte, q_b, ifp, q_f, q_l, q_n, Nat.reduceEqDiff, takeD_all, Nat.reduceAdd, sz_29, ag_29]
      show closeA _ _ = _
      simp (disch := first | assumption | omega | (simp [maxLen, avs_len, sps_len] <;> omega) | decide) only [closeA, deep_d, deep_agg, deepL_nil, deepL_cons, Nat.reduceAdd, Nat.zero_add, D.fix, Option.map_some, Option.bind_some, List.length_cons, List.length_nil, iD, intsD, intssD, rolD, rolC, he]
  · simp -dsimp -implicitDefEqProofs (disch := first | assumption | omega | (simp [maxLen, avs_len, sps_len] <;> omega) | decide) only [sT_move, sT_pick, sT_load, sT_fa, sT_bin, sT_len, sT_nil, sT_g, oK_some, gK_f, q_o, loadF, fieldAddrF, binF_v, lenF, builtinF, v_lss, ↓reduceIte, q_b, ifp, guardA_some, guardV_t, q_f, q_s, q_l, q_n, Nat.reduceEqDiff, iD, bD, bytesD, Nat.reduceAdd, bytesD, spsD, dec_f, fo_25_2, sz_23, ag_23, eo_23]
    refine hK6 _ _ ?_
    refine awp_cond rfl (fun ht => ?_) (fun ht => ?_)
    · cases ht
    · have he : madeR x = madeK x k := by unfold madeR madeK; rw [List.take_of_length_le (by omega), List.take_of_length_le (by omega)]
      refine awp_exit (hK3 _ _ ?_)
      refine awp_seq_s KT_ok hc rfl fun K11 hK11 => ?_
      simp -dsimp -implicitDefEqProofs (disch := first | assumption | omega | (simp [maxLen, avs_len, sps_len] <;> omega) | decide) only [sT_load, sT_store, sT_nil, oK_some, q_o, loadF, storeF, ↓reduceIte, q_b, ifp, q_f, q_l, q_s, q_a, AV.one, D.one, Value.oneCell', q_n, Nat.reduceEqDiff, avs_nil, avs_cons, takeD_all, iD, intsD, intssD, Nat.reduceAdd, rolC, sz_29, ag_29]
      refine hK11 _ _ ?_
      refine awp_ret ?_
      try dsimp only [thenA, inBlockA]
      refine PostA_retc rfl ?_
      simp -dsimp -implicitDefEqProofs (disch := first | assumption | omega | (simp [maxLen, avs_len, sps_len] <;> omega) | decide) only [oK_some, q_o, loadF, ↓reduceIte, q_b, ifp, q_f, q_l, q_n, Nat.reduceEqDiff, takeD_all, Nat.reduceAdd, sz_29, ag_29]
      show closeA _ _ = _
      simp (disch := first | assumption | omega | (simp [maxLen, avs_len, sps_len] <;> omega) | decide) only [closeA, deep_d, deep_agg, deepL_nil, deepL_cons, Nat.reduceAdd, Nat.zero_add, D.fix, Option.map_some, Option.bind_some, List.length_cons, List.length_nil, iD, intsD, intssD, rolD, rolC, he]
end Go.Proofs.Ytinefghmmbggeaa
