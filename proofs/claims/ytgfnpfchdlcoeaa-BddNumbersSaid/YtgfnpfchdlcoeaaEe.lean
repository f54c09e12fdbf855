/- The order of the numbers: the law's walk. -/
import Derived.Test.YtgfnpfchdlcoeaaQ
import Derived.Test.YtgfnpfchdlcoeaaEd
set_option linter.unusedVariables false
set_option linter.unusedSimpArgs false
namespace Go.Proofs.Ytgfnpfchdlcoeaa
open Go Go.RowKit
def WlkC (us : List T) (rs : List Nat) (f : T) : Prop := ∀ (acc : List T) (ni nx : Int), ni = (num us f : Nat) → nx = 2 + acc.length → f ∈ full us → visT f acc <+: us →
  PCalls Try.prog 32 [bddD (erow us) rs, iD ni, iD nx] (.d (iD (2 + (visT f acc).length)))
theorem num_acc {us acc : List T} {t : T} (hp : acc <+: us) (h : t ∈ full us) : t ∈ full acc ↔ num us t < 2 + acc.length := by
  constructor
  · intro h'; rw [num_pre hp h']; exact num_lt h'
  · intro h'
    obtain ⟨r, rfl⟩ := hp
    have hg := num_get h
    rw [full_app] at hg
    have hl : num (acc ++ r) t < (full acc).length := by rw [full_len]; exact h'
    rw [nth_append_left hl] at hg
    rw [← hg]; exact nth_mem hl
set_option maxRecDepth 100000 in
set_option linter.unusedVariables false in
set_option maxHeartbeats 4000000 in
theorem walk_s (V : Nat) (us : List T) (rs : List Nat) (hr : RowOk V us) (hul : us.length ≤ 3000) (f : T) (ih : ∀ s : T, s.sz < f.sz → WlkC us rs s) (acc : List T) (ni nx : Int) (hni : ni = (num us f : Nat)) (hnx : nx = 2 + acc.length) (hf : f ∈ full us) (hpv : visT f acc <+: us) : PCalls Try.prog 32 [bddD (erow us) rs, iD ni, iD nx] (.d (iD (2 + (visT f acc).length))) := by
  have hel := erow_len us
  have hlt := num_lt hf
  have hpa : acc <+: us := (vis_pre f acc).trans hpv
  have hal := hpa.length_le
  have hna := num_acc hpa hf
  have q1 : decide (nx < 0) = false := by simp; omega
  have q2 : decide (ni < 0) = false := by simp; omega
  have q3 : decide (2 + ((erow us).length : Int) ≤ ni) = false := by simp [hel]; omega
  refine pcalls_of0 (fn := Try.f32) (by kernel_rfl) Try.func32 rfl (Nat.le_of_ble_eq_true rfl) fun c hc hp => ?_
  refine awp_less (τ' := frL [(0, .d (bddD (erow us) rs)), (1, .d (iD ni)), (2, .d (iD nx))]) (less_cons (less_cons (less_cons (less_nil _) rfl) rfl) rfl) ?_
  refine awp_seq_s hp KT_ok hc rfl fun K1 hK1 => ?_
  simp -dsimp -implicitDefEqProofs (disch := first | assumption | omega | (simp [maxLen, avs_len, nds_len, erow_len] <;> omega) | decide) only [sT_assign, sT_box, deadH, sT_nil, oK_some, q_o, layF, ↓reduceIte, q_b, q_f, q_s, q_l, as_dagg, D.one, iD, deadH, bddD, bddC]
  refine hK1 _ _ ?_
  refine awp_seq_k fun K2 hK2 => ?_
  refine awp_seq_s hp KT_ok hc rfl fun K3 hK3 => ?_
  by_cases hm : f ∈ full acc
  · have hml := hna.1 hm
    have q4 : decide (ni < nx) = true := by simp; omega
    simp -dsimp -implicitDefEqProofs (disch := first | assumption | omega | (simp [maxLen, avs_len, nds_len, erow_len] <;> omega) | decide) only [sT_move, sT_pick, sT_load, sT_fa, sT_bin, sT_len, sT_nil, sT_g, oK_some, gK_t, q_o, loadF, fieldAddrF, binF_v, lenF, builtinF, v_add, v_lss, v_geq, ↓reduceIte, q_b, ifp, guardA_some, guardV_f, q_f, q_s, q_l, q_n, Nat.reduceEqDiff, q1, q2, q3, q4, fo_31_0, sz_28, ag_28, eo_28]
    refine hK3 _ _ ?_
    refine awp_cond rfl (fun ht => ?_) (fun ht => ?_)
    · refine awp_seq_s hp KT_ok hc rfl fun K4 hK4 => ?_
      simp -dsimp -implicitDefEqProofs (disch := first | assumption | omega | (simp [maxLen, avs_len, nds_len, erow_len] <;> omega) | decide) only [sT_move, sT_assign, sT_nil, ↓reduceIte, q_b, q_f, Nat.reduceEqDiff]
      refine hK4 _ _ ?_
      refine awp_ret ?_
      show closeA _ _ = _
      simp (disch := first | assumption | omega | (simp [maxLen, avs_len, nds_len, erow_len] <;> omega) | decide) only [closeA, retV, deep_d, Nat.zero_add, D.fix, frL_get, ↓reduceIte, Option.map_some, List.length_cons, List.length_nil, iD]
      have e : visT f acc = acc := by
        cases f with
        | leaf b => rfl
        | node v l h => unfold visT; rw [if_pos (by simpa [full] using hm)]
      rw [e, hnx]
    · cases ht
  · have hml : ¬ num us f < 2 + acc.length := fun h => hm (hna.2 h)
    have q4 : decide (ni < nx) = false := by simp; omega
    simp -dsimp -implicitDefEqProofs (disch := first | assumption | omega | (simp [maxLen, avs_len, nds_len, erow_len] <;> omega) | decide) only [sT_move, sT_pick, sT_load, sT_fa, sT_bin, sT_len, sT_nil, sT_g, oK_some, gK_t, q_o, loadF, fieldAddrF, binF_v, lenF, builtinF, v_add, v_lss, v_geq, ↓reduceIte, q_b, ifp, guardA_some, guardV_f, q_f, q_s, q_l, q_n, Nat.reduceEqDiff, q1, q2, q3, q4, fo_31_0, sz_28, ag_28, eo_28]
    refine hK3 _ _ ?_
    refine awp_cond rfl (fun ht => ?_) (fun ht => ?_)
    · cases ht
    · refine awp_skip (hK2 _ _ ?_)
      obtain ⟨v, l, h, rfl⟩ : ∃ v l h, f = .node v l h := by
        cases f with
        | leaf b => exact absurd (mem_b acc b) hm
        | node v l h => exact ⟨v, l, h, rfl⟩
      have hlf : (T.node v l h).lf = false := rfl
      have h3 := node_n hr hf hlf
      have hx1 : (ni - 2).toNat = num us (.node v l h) - 2 := by omega
      have hg := erow_get hr hf hlf
      have hn' : T.node v l h ∉ acc := fun hm' => hm (List.mem_cons_of_mem _ (List.mem_cons_of_mem _ hm'))
      have hev : visT (.node v l h) acc = visT h (visT l acc) ++ [.node v l h] := by rw [visT, if_neg hn']
      have hcl : l ∈ full us := (hr.chf hf).1
      have hch : h ∈ full us := (hr.chf hf).2
      rw [hev] at hpv
      have hp2 : visT h (visT l acc) <+: us := (List.prefix_append _ _).trans hpv
      have hp1 : visT l acc <+: us := (vis_pre h _).trans hp2
      have hl2 := hp2.length_le
      have hl1 := hp1.length_le
      have hnum : num us (.node v l h) = 2 + (visT h (visT l acc)).length := by
        obtain ⟨r, hr'⟩ := hpv
        have hnin : T.node v l h ∉ full (visT h (visT l acc)) := fun hin => by
          have hnd := hr.nd
          rw [← hr'] at hnd
          rw [show full (visT h (visT l acc) ++ [T.node v l h] ++ r) = full (visT h (visT l acc)) ++ ([T.node v l h] ++ r) by rw [List.append_assoc, full_app]] at hnd
          exact (List.nodup_append.1 hnd).2.2 _ hin _ (by simp) rfl
        rw [← hr', List.append_assoc]
        exact num_new hnin
      refine awp_seq_se KT_ok hc mixed rfl (q := 0) (by kernel_rfl) (by kernel_rfl) fun K5 hK5 => ?_
      simp -dsimp -implicitDefEqProofs (disch := first | assumption | omega | (simp [maxLen, avs_len, nds_len, erow_len] <;> omega) | decide) only [sE_move, sE_load, sE_fa, sE_ia, sE_bin, sE_call0, oK_some, q_o, loadF, fieldAddrF, ixO, indexAddrF, binF_v, v_sub, ↓reduceIte, q_b, ifp, q_f, q_s, q_l, List.append_nil, List.replicate_zero, q_n, Nat.reduceEqDiff, takeD_all, iD, Nat.reduceAdd, hx1, nd_1, hg, ndOf, T.v, T.l, T.h, sz_31, ag_31, fo_31_0, sz_28, ag_28, eo_28, sz_3, ag_3, fo_83_1]
      refine kc_by (ih l (by simp only [T.sz]; omega) acc _ _ rfl hnx hcl hp1) rfl ?_
      simp -dsimp -implicitDefEqProofs (disch := first | assumption | omega | (simp [maxLen, avs_len, nds_len, erow_len] <;> omega) | decide) only [sE_assign, sE_nil, ↓reduceIte, q_b, q_f, killAll, iD, Nat.reduceAdd]
      refine hK5 _ _ ?_
      refine awp_seq_se KT_ok hc mixed rfl (q := 0) (by kernel_rfl) (by kernel_rfl) fun K6 hK6 => ?_
      simp -dsimp -implicitDefEqProofs (disch := first | assumption | omega | (simp [maxLen, avs_len, nds_len, erow_len] <;> omega) | decide) only [sE_move, sE_load, sE_fa, sE_ia, sE_bin, sE_call0, oK_some, q_o, loadF, fieldAddrF, ixO, indexAddrF, binF_v, v_sub, ↓reduceIte, q_b, ifp, q_f, q_s, q_l, List.append_nil, List.replicate_zero, q_n, Nat.reduceEqDiff, takeD_all, iD, Nat.reduceAdd, hx1, nd_2, hg, ndOf, T.v, T.l, T.h, sz_31, ag_31, fo_31_0, sz_28, ag_28, eo_28, sz_3, ag_3, fo_83_2]
      refine kc_by (ih h (by simp only [T.sz]; omega) (visT l acc) _ _ rfl rfl hch hp2) rfl ?_
      simp -dsimp -implicitDefEqProofs (disch := first | assumption | omega | (simp [maxLen, avs_len, nds_len, erow_len] <;> omega) | decide) only [sE_assign, sE_nil, ↓reduceIte, q_b, q_f, killAll, iD, Nat.reduceAdd]
      refine hK6 _ _ ?_
      refine awp_seq_k fun K7 hK7 => ?_
      refine awp_seq_s hp KT_ok hc rfl fun K8 hK8 => ?_
      simp -dsimp -implicitDefEqProofs (disch := first | assumption | omega | (simp [maxLen, avs_len, nds_len, erow_len] <;> omega) | decide) only [sT_move, sT_bin, sT_nil, oK_some, q_o, binF_v, v_neq, ↓reduceIte, q_b, q_f, Nat.reduceEqDiff]
      refine hK8 _ _ ?_
      refine awp_cond rfl (fun ht => ?_) (fun ht => ?_)
      · exfalso
        simp at ht; omega
      · refine awp_skip (hK7 _ _ ?_)
        refine awp_seq_s hp KT_ok hc rfl fun K9 hK9 => ?_
        simp -dsimp -implicitDefEqProofs (disch := first | assumption | omega | (simp [maxLen, avs_len, nds_len, erow_len] <;> omega) | decide) only [sT_move, sT_assign, sT_bin, sT_nil, oK_some, q_o, binF_v, v_add, ↓reduceIte, q_b, q_f, Nat.reduceEqDiff]
        refine hK9 _ _ ?_
        refine awp_ret ?_
        show closeA _ _ = _
        simp (disch := first | assumption | omega | (simp [maxLen, avs_len, nds_len, erow_len] <;> omega) | decide) only [closeA, retV, deep_d, Nat.zero_add, D.fix, frL_get, ↓reduceIte, Option.map_some, List.length_cons, List.length_nil, iD]
        rw [hev]; simp; omega
end Go.Proofs.Ytgfnpfchdlcoeaa
