/- The manager's part and node. -/
import Derived.Test.YtgfnpfchdlcoeaaQ
import Derived.Test.YtgfnpfchdlcoeaaBb
set_option linter.unusedVariables false
set_option linter.unusedSimpArgs false
namespace Go.Proofs.Ytgfnpfchdlcoeaa
open Go Go.RowKit
set_option maxRecDepth 100000 in
set_option linter.unusedVariables false in
set_option maxHeartbeats 4000000 in
theorem part_c (ts : List T) (μu μm : Mp) (f : T) (hf : f ∈ full ts) (hl : ts.length ≤ bigB) (v : Nat) (b : Bool) : PCalls Try.prog 95 [mgrD ts μu μm, iD (num ts f), iD v, oD b] (.d (iD (num ts (partT f v b)))) := by
  refine pcalls_of0 (fn := Try.f95) (by kernel_rfl) Try.func95 rfl (Nat.le_of_ble_eq_true rfl) fun c hc hp => ?_
  refine awp_less (τ' := frL [(0, .d (mgrD ts μu μm)), (1, .d (iD (num ts f))), (2, .d (iD v)), (3, .d (oD b))]) (less_cons (less_cons (less_cons (less_cons (less_nil _) rfl) rfl) rfl) rfl) ?_
  refine awp_seq_s hp KT_ok hc rfl fun K1 hK1 => ?_
  simp -dsimp -implicitDefEqProofs (disch := first | assumption | omega | (simp [maxLen, avs_len, mrow_len, nds_len] <;> omega) | decide) only [sT_assign, sT_nil, q_f, iD, oD, mgrD]
  refine hK1 _ _ ?_
  have hn := num_lt hf
  unfold bigB at hl
  refine awp_seq_s hp KT_ok hc rfl fun K2 hK2 => ?_
  simp -dsimp -implicitDefEqProofs (disch := first | assumption | omega | (simp [maxLen, avs_len, mrow_len, nds_len] <;> omega) | decide) only [sT_move, sT_load, sT_fa, sT_ia, sT_nilc, sT_alloc, sT_store, deadH, sT_nil, oK_some, q_o, loadF, fieldAddrF, ixO, indexAddrF, layF, storeF, nilOk, ↓reduceIte, q_b, ifp, q_f, q_s, q_l, as_dagg, q_a, D.one, Value.oneCell', Int.toNat_natCast, q_n, Nat.reduceEqDiff, map_d, avs_nil, avs_cons, iD, Nat.reduceAdd, deadH, nd_row, mrow_get hf, ndC, ndOf, fo_140_0, sz_28, ag_28, eo_28, sz_83, ag_83, za_83]
  refine hK2 _ _ ?_
  refine awp_block ?_
  refine awp_seq_s hp KT_ok hc rfl fun K3 hK3 => ?_
  simp -dsimp -implicitDefEqProofs (disch := first | assumption | omega | (simp [maxLen, avs_len, mrow_len, nds_len] <;> omega) | decide) only [sT_move, sT_assign, sT_load, sT_fa, sT_bin, sT_nil, oK_some, q_o, loadF, fieldAddrF, binF_v, v_neq, ↓reduceIte, q_b, ifp, q_f, q_l, q_n, Nat.reduceEqDiff, fo_83_0, sz_3, ag_3]
  refine hK3 _ _ ?_
  refine awp_cond rfl (fun ht => ?_) (fun ht => ?_)
  · have hne : f.v ≠ v := by simp at ht; omega
    refine awp_seq_s hp KT_ok hc rfl fun K4 hK4 => ?_
    simp -dsimp -implicitDefEqProofs (disch := first | assumption | omega | (simp [maxLen, avs_len, mrow_len, nds_len] <;> omega) | decide) only [sT_move, sT_assign, sT_nil, ↓reduceIte, q_b, q_f, Nat.reduceEqDiff]
    refine hK4 _ _ ?_
    refine awp_ret ?_
    show closeA _ _ = _
    simp (disch := first | assumption | omega | (simp [maxLen, avs_len, mrow_len, nds_len] <;> omega) | decide) only [closeA, retV, deep_d, Nat.zero_add, D.fix, frL_get, ↓reduceIte, Option.map_some, List.length_cons, List.length_nil, iD]
    simp [partT, hne]
  · have he : f.v = v := by simp at ht; omega
    refine awp_seq_s hp KT_ok hc rfl fun K5 hK5 => ?_
    simp -dsimp -implicitDefEqProofs (disch := first | assumption | omega | (simp [maxLen, avs_len, mrow_len, nds_len] <;> omega) | decide) only [sT_move, sT_assign, sT_nil, ↓reduceIte, q_b, q_f, Nat.reduceEqDiff]
    refine hK5 _ _ ?_
    refine awp_cond rfl (fun ht => ?_) (fun ht => ?_)
    · have hb : b = true := ht
      refine awp_seq_s hp KT_ok hc rfl fun K6 hK6 => ?_
      simp -dsimp -implicitDefEqProofs (disch := first | assumption | omega | (simp [maxLen, avs_len, mrow_len, nds_len] <;> omega) | decide) only [sT_assign, sT_load, sT_fa, sT_nil, oK_some, loadF, fieldAddrF, ↓reduceIte, q_b, ifp, q_f, q_l, q_n, Nat.reduceEqDiff, fo_83_2, sz_3, ag_3]
      refine hK6 _ _ ?_
      refine awp_ret ?_
      show closeA _ _ = _
      simp (disch := first | assumption | omega | (simp [maxLen, avs_len, mrow_len, nds_len] <;> omega) | decide) only [closeA, retV, deep_d, Nat.zero_add, D.fix, frL_get, ↓reduceIte, Option.map_some, List.length_cons, List.length_nil, iD]
      simp [partT, he, hb]
    · have hb : b = false := ht
      refine awp_seq_s hp KT_ok hc rfl fun K7 hK7 => ?_
      simp -dsimp -implicitDefEqProofs (disch := first | assumption | omega | (simp [maxLen, avs_len, mrow_len, nds_len] <;> omega) | decide) only [sT_assign, sT_load, sT_fa, sT_nil, oK_some, loadF, fieldAddrF, ↓reduceIte, q_b, ifp, q_f, q_l, q_n, Nat.reduceEqDiff, fo_83_1, sz_3, ag_3]
      refine hK7 _ _ ?_
      refine awp_ret ?_
      show closeA _ _ = _
      simp (disch := first | assumption | omega | (simp [maxLen, avs_len, mrow_len, nds_len] <;> omega) | decide) only [closeA, retV, deep_d, Nat.zero_add, D.fix, frL_get, ↓reduceIte, Option.map_some, List.length_cons, List.length_nil, iD]
      simp [partT, he, hb]
end Go.Proofs.Ytgfnpfchdlcoeaa
