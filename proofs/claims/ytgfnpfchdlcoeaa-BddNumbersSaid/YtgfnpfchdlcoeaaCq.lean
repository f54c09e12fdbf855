/- The reference's small functions: equal lists and diagrams, assignments, inputs, memories, shapes. -/
import Derived.Test.YtgfnpfchdlcoeaaQ
import Derived.Test.YtgfnpfchdlcoeaaCp
import Derived.Test.YtgfnpfchdlcoeaaDb
set_option linter.unusedVariables false
set_option linter.unusedSimpArgs false
namespace Go.Proofs.Ytgfnpfchdlcoeaa
open Go Go.RowKit
set_option maxRecDepth 100000 in
set_option linter.unusedVariables false in
set_option maxHeartbeats 4000000 in
theorem bools_c (a b : List Bool) (ha : a.length ≤ maxLen) : PCalls Try.prog 29 [boolsD a, boolsD b] (.d (oD (decide (a = b)))) := by
  refine pcalls_of0 (fn := Try.f29) (by kernel_rfl) Try.func29 rfl (Nat.le_of_ble_eq_true rfl) fun c hc hp => ?_
  refine awp_less (τ' := frL [(0, .d (boolsD a)), (1, .d (boolsD b))]) (less_cons (less_cons (less_nil _) rfl) rfl) ?_
  unfold maxLen at ha
  refine awp_seq_s hp KT_ok hc rfl fun K1 hK1 => ?_
  simp -dsimp -implicitDefEqProofs (disch := first | assumption | omega | (simp [maxLen, avs_len] <;> omega) | decide) only [sT_assign, sT_nil, q_f, boolsD]
  refine hK1 _ _ ?_
  refine awp_seq_k fun K2 hK2 => ?_
  refine awp_seq_s hp KT_ok hc rfl fun K3 hK3 => ?_
  simp -dsimp -implicitDefEqProofs (disch := first | assumption | omega | (simp [maxLen, avs_len] <;> omega) | decide) only [sT_move, sT_bin, sT_len, sT_nil, oK_some, q_o, binF_v, lenF, builtinF, v_neq, ↓reduceIte, q_b, q_f, q_s, Nat.reduceEqDiff, eo_33]
  refine hK3 _ _ ?_
  refine awp_cond rfl (fun ht => ?_) (fun ht => ?_)
  · have hne : a ≠ b := fun e => by subst e; simp at ht
    refine awp_seq_s hp KT_ok hc rfl fun K4 hK4 => ?_
    simp -dsimp -implicitDefEqProofs (disch := first | assumption | omega | (simp [maxLen, avs_len] <;> omega) | decide) only [sT_assign, sT_nil, q_f]
    refine hK4 _ _ ?_
    refine awp_ret ?_
    show closeA _ _ = _
    simp (disch := first | assumption | omega | (simp [maxLen, avs_len] <;> omega) | decide) only [closeA, retV, deep_d, D.fix, frL_get, ↓reduceIte, Option.map_some, List.length_nil, oD]
    simp [hne]
  · have hl : a.length = b.length := by simp at ht; omega
    refine awp_skip (hK2 _ _ ?_)
    refine awp_seq_k fun K5 hK5 => ?_
    refine awp_seq_s hp KT_ok hc rfl fun K6 hK6 => ?_
    simp -dsimp -implicitDefEqProofs (disch := first | assumption | omega | (simp [maxLen, avs_len] <;> omega) | decide) only [sT_assign, sT_nil, q_f]
    refine hK6 _ _ ?_
    refine awp_block ?_
    refine awp_loop_rt hp (fun τ' H' mm => ∃ k, (k ≤ a.length ∧ a.take k = b.take k) ∧ mm = a.length - k ∧ H' = [] ∧ τ' = frL [(5, .d (iD k)), (0, .d (boolsD a)), (1, .d (boolsD b))]) (a.length) ?_ ⟨0, ⟨Nat.zero_le _, rfl⟩, rfl, rfl, rfl⟩ ?_
    · refine Rt.end (less_cons (less_cons (less_cons (less_nil _) rfl) rfl) rfl) ?_
      first | rfl | (simp only [intsD, boolsD, bytesD, intssD, bytessD, gcH, gcO_c, gcO_de, gcO_fr, gc_m, fz_m, gcVs_avs, gcVs, gcV, gcV_d, fzH, fzO_c, fzO_de, fzO_fr, fzVs_avs, Nat.reduceAdd, fzVs, fzV, posN, avs_nil, avs_cons, List.map_cons, List.map_nil, List.getD_cons_zero, List.getD_cons_succ, ↓reduceIte, Nat.reduceEqDiff, Option.map_some, List.set_cons_zero, List.set_cons_succ, takeD_avs, takeD_all, Nat.mul_one, List.length_map, List.cons_append, List.nil_append]; first | done | rfl)
    rintro τ' H' mm ⟨k, ⟨hk, htake⟩, rfl, rfl, rfl⟩
    refine awp_seq_k fun K7 hK7 => ?_
    refine awp_seq_s hp KT_ok hc rfl fun K8 hK8 => ?_
    simp -dsimp -implicitDefEqProofs (disch := first | assumption | omega | (simp [maxLen, avs_len] <;> omega) | decide) only [sT_move, sT_bin, sT_len, sT_nil, oK_some, q_o, binF_v, lenF, builtinF, v_lss, ↓reduceIte, q_b, q_f, q_s, Nat.reduceEqDiff, iD, boolsD, eo_33]
    refine hK8 _ _ ?_
    refine awp_cond rfl (fun ht => ?_) (fun ht => ?_)
    · have hlt : k < a.length := by simp at ht; omega
      have hlt2 : k < b.length := by omega
      refine awp_skip (hK7 _ _ ?_)
      refine awp_seq_k fun K9 hK9 => ?_
      refine awp_block ?_
      refine awp_seq_se KT_ok hc mixed rfl (q := 0) (by kernel_rfl) (by kernel_rfl) fun K10 hK10 => ?_
      simp -dsimp -implicitDefEqProofs (disch := first | assumption | omega | (simp [maxLen, avs_len] <;> omega) | decide) only [sE_move, sE_load, sE_ia, sE_bin, sE_nil, oK_some, q_o, loadF, ixO, indexAddrF, binF_v, v_bneq, ↓reduceIte, q_b, ifp, q_f, q_l, List.append_nil, List.replicate_zero, Int.toNat_natCast, q_n, Nat.reduceEqDiff, killAll, get_map, oD, Nat.reduceAdd, eo_33, sz_4, ag_4, bt_4]
      refine hK10 _ _ ?_
      refine awp_cond rfl (fun ht => ?_) (fun ht => ?_)
      · have hne : a ≠ b := fun e => by subst e; simp at ht
        refine awp_seq_s hp KT_ok hc rfl fun K11 hK11 => ?_
        simp -dsimp -implicitDefEqProofs (disch := first | assumption | omega | (simp [maxLen, avs_len] <;> omega) | decide) only [sT_assign, sT_nil, q_f]
        refine hK11 _ _ ?_
        refine awp_ret ?_
        show closeA _ _ = _
        simp (disch := first | assumption | omega | (simp [maxLen, avs_len] <;> omega) | decide) only [closeA, retV, deep_d, D.fix, frL_get, ↓reduceIte, Option.map_some, List.length_nil, oD]
        simp [hne]
      · refine awp_skip (hK9 _ _ ?_)
        refine awp_s hp KT_ok hc rfl fun K12 hK12 => ?_
        simp -dsimp -implicitDefEqProofs (disch := first | assumption | omega | (simp [maxLen, avs_len] <;> omega) | decide) only [sT_move, sT_assign, sT_bin, sT_nil, oK_some, q_o, binF_v, v_add, ↓reduceIte, q_b, q_f, Nat.reduceEqDiff]
        refine hK12 _ _ ⟨_, _, _, ?_, ⟨k + 1, ⟨by omega, take_eq_step hlt hlt2 htake (by simpa using ht)⟩, rfl, rfl, rfl⟩, ?_⟩
        · first | omega | (simp only [List.length_cons]; omega) | (dsimp only; omega)
        · refine Rt.end (less_cons (less_cons (less_cons (less_nil _) rfl) rfl) rfl) ?_
          first | rfl | (simp only [intsD, boolsD, bytesD, intssD, bytessD, gcH, gcO_c, gcO_de, gcO_fr, gc_m, fz_m, gcVs_avs, gcVs, gcV, gcV_d, fzH, fzO_c, fzO_de, fzO_fr, fzVs_avs, Nat.reduceAdd, fzVs, fzV, posN, avs_nil, avs_cons, List.map_cons, List.map_nil, List.getD_cons_zero, List.getD_cons_succ, ↓reduceIte, Nat.reduceEqDiff, Option.map_some, List.set_cons_zero, List.set_cons_succ, takeD_avs, takeD_all, Nat.mul_one, List.length_map, List.cons_append, List.nil_append]; first | done | rfl)
    · have hge : k = a.length := by simp at ht; omega
      have he : a = b := by rw [hge, List.take_length, hl, List.take_length] at htake; exact htake
      refine awp_exit (hK5 _ _ ?_)
      refine awp_seq_s hp KT_ok hc rfl fun K13 hK13 => ?_
      simp -dsimp -implicitDefEqProofs (disch := first | assumption | omega | (simp [maxLen, avs_len] <;> omega) | decide) only [sT_assign, sT_nil, q_f]
      refine hK13 _ _ ?_
      refine awp_ret ?_
      show closeA _ _ = _
      simp (disch := first | assumption | omega | (simp [maxLen, avs_len] <;> omega) | decide) only [closeA, retV, deep_d, D.fix, frL_get, ↓reduceIte, Option.map_some, List.length_nil, oD]
      simp [he]
theorem range_s {α : Type} {f : Nat → α} {k : Nat} : (List.range (k + 1)).map f = (List.range k).map f ++ [f k] := by rw [List.range_succ, List.map_append]; rfl
set_option maxRecDepth 100000 in
set_option linter.unusedVariables false in
set_option maxHeartbeats 4000000 in
theorem nodes_c (n : Net) (hi : n.ins.length ≤ 1000000) (hg : n.gates.length ≤ 1000000) : PCalls Try.prog 30 [netD n] (.d (iD (2 + n.ins.length + n.gates.length))) := by
  refine pcalls_of0 (fn := Try.f30) (by kernel_rfl) Try.func30 rfl (Nat.le_of_ble_eq_true rfl) fun c hc hp => ?_
  refine awp_less (τ' := frL [(0, .d (netD n))]) (less_cons (less_nil _) rfl) ?_
  refine awp_seq_s hp KT_ok hc rfl fun K1 hK1 => ?_
  simp -dsimp -implicitDefEqProofs (disch := first | assumption | omega | (simp [maxLen, avs_len, wires_len, gates_len] <;> omega) | decide) only [sT_assign, sT_box, deadH, sT_nil, oK_some, q_o, layF, ↓reduceIte, q_b, q_f, q_s, q_l, as_dagg, D.one, intsD, deadH, netD, netC, wiresD, gatesD]
  refine hK1 _ _ ?_
  refine awp_seq_s hp KT_ok hc rfl fun K2 hK2 => ?_
  simp -dsimp -implicitDefEqProofs (disch := first | assumption | omega | (simp [maxLen, avs_len, wires_len, gates_len] <;> omega) | decide) only [sT_assign, sT_load, sT_fa, sT_bin, sT_len, sT_nil, oK_some, q_o, loadF, fieldAddrF, binF_v, lenF, builtinF, v_add, ↓reduceIte, q_b, ifp, q_f, q_s, q_l, q_n, Nat.reduceEqDiff, fo_41_0, sz_38, ag_38, eo_38, fo_41_1, sz_39, ag_39, eo_39]
  refine hK2 _ _ ?_
  refine awp_ret ?_
  show closeA _ _ = _
  simp (disch := first | assumption | omega | (simp [maxLen, avs_len, wires_len, gates_len] <;> omega) | decide) only [closeA, retV, deep_d, Nat.zero_add, D.fix, frL_get, ↓reduceIte, Option.map_some, List.length_cons, List.length_nil, iD]
end Go.Proofs.Ytgfnpfchdlcoeaa
