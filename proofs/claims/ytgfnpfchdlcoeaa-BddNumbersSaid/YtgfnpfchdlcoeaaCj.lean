/- Evaluation and support of a diagram. -/
import Derived.Test.YtgfnpfchdlcoeaaQ
import Derived.Test.YtgfnpfchdlcoeaaCi
import Derived.Test.YtgfnpfchdlcoeaaSa
set_option linter.unusedVariables false
set_option linter.unusedSimpArgs false
namespace Go.Proofs.Ytgfnpfchdlcoeaa
open Go Go.RowKit
/-- A node's number in a diagram. -/
def nodeB (us : List T) (node : Int) : Bool := decide (0 ≤ node) && decide (node < 2 + us.length)
def treeA (us : List T) (node : Int) : T := nth (full us) node.toNat
def atB (l : List Bool) (v : Nat) : Bool := decide (v < l.length) && nth l v
theorem mrow_e (us : List T) : mrow us = ndOf us (.leaf false) :: ndOf us (.leaf true) :: erow us := rfl
theorem node_in {us : List T} {t : T} (h : t ∈ full us) (h2 : t.lf = false) : t ∈ us := by
  simp only [full, List.mem_cons] at h
  rcases h with rfl | rfl | h
  · cases h2
  · cases h2
  · exact h
theorem leaf_n {us : List T} {t : T} (h : t.lf = true) : num us t < 2 := by
  cases t with
  | leaf b => cases b
              · rw [num_f]; omega
              · rw [num_t]; omega
  | node v l r => cases h
theorem node_n {V : Nat} {us : List T} (hr : RowOk V us) {t : T} (h : t ∈ full us) (h2 : t.lf = false) : 2 ≤ num us t := by
  have hn : t ≠ .leaf false := fun e => by rw [e] at h2; cases h2
  have hn' : t ≠ .leaf true := fun e => by rw [e] at h2; cases h2
  have h0 : num us t ≠ 0 := fun e => hn (num_inj h (mem_f us) (e.trans (num_f us).symm))
  have h1 : num us t ≠ 1 := fun e => hn' (num_inj h (mem_t us) (e.trans (num_t us).symm))
  omega
theorem erow_get {V : Nat} {us : List T} (hr : RowOk V us) {t : T} (h : t ∈ full us) (h2 : t.lf = false) : nth (erow us) (num us t - 2) = ndOf us t := by
  have h3 := mrow_get h
  have h4 := node_n hr h h2
  obtain ⟨k, hk⟩ : ∃ k, num us t = k + 2 := ⟨num us t - 2, by omega⟩
  rw [hk, mrow_e] at h3
  rw [hk, Nat.add_sub_cancel]
  exact h3
theorem lf_cases (t : T) : t.lf = true ∨ t.lf = false := by cases t.lf <;> simp
theorem lf_node {t : T} (h : t.lf = false) : ∃ v l r, t = .node v l r := by
  cases t with
  | leaf b => cases h
  | node v l r => exact ⟨v, l, r, rfl⟩
theorem num_tree {V : Nat} {us : List T} (hr : RowOk V us) {k : Nat} (h : k < 2 + us.length) : num us (nth (full us) k) = k := by
  have hl : k < (full us).length := by rw [full_len]; exact h
  rw [nth_eq hl]
  exact List.Nodup.idxOf_getElem hr.nd k hl
theorem tree_in {us : List T} {k : Nat} (h : k < 2 + us.length) : nth (full us) k ∈ full us := nth_mem (by rw [full_len]; exact h)
def evB (us : List T) (node : Int) (l : List Bool) : Bool := nodeB us node && (treeA us node).eval (atB l)
set_option maxRecDepth 100000 in
set_option linter.unusedVariables false in
set_option maxHeartbeats 4000000 in
theorem eval_b (V : Nat) (us : List T) (rs : List Nat) (hr : RowOk V us) (hV : V ≤ 1000) (hul : us.length ≤ bigB) (node : Int) (l : List Bool) (hl : l.length ≤ maxLen) : PCalls Try.prog 22 [bddD (erow us) rs, iD node, boolsD l] (.d (oD (evB us node l))) := by
  unfold maxLen at hl
  unfold bigB at hul
  have hel := erow_len us
  refine pcalls_of0 (fn := Try.f22) (by kernel_rfl) Try.func22 rfl (Nat.le_of_ble_eq_true rfl) fun c hc hp => ?_
  refine awp_less (τ' := frL [(0, .d (bddD (erow us) rs)), (1, .d (iD node)), (2, .d (boolsD l))]) (less_cons (less_cons (less_cons (less_nil _) rfl) rfl) rfl) ?_
  refine awp_seq_s hp KT_ok hc rfl fun K1 hK1 => ?_
  simp -dsimp -implicitDefEqProofs (disch := first | assumption | omega | (simp [maxLen, avs_len, nds_len, erow_len] <;> omega) | decide) only [sT_assign, sT_box, deadH, sT_nil, oK_some, q_o, layF, ↓reduceIte, q_b, q_f, q_s, q_l, as_dagg, D.one, iD, boolsD, deadH, bddD, bddC]
  refine hK1 _ _ ?_
  refine awp_seq_k fun K2 hK2 => ?_
  refine awp_seq_s hp KT_ok hc rfl fun K3 hK3 => ?_
  rcases (show node < 0 ∨ (0 ≤ node ∧ 2 + (us.length : Int) ≤ node) ∨ (0 ≤ node ∧ node < 2 + (us.length : Int)) by omega) with q | ⟨q, q'⟩ | ⟨q, q'⟩
  · have q1 : decide (node < 0) = true := by simp; omega
    have q2 := q1
    have hx : nodeB us node = false := by unfold nodeB; rw [decide_eq_false (by omega)]; rfl
    simp -dsimp -implicitDefEqProofs (disch := first | assumption | omega | (simp [maxLen, avs_len, nds_len, erow_len] <;> omega) | decide) only [sT_move, sT_pick, sT_bin, sT_nil, sT_g, oK_some, gK_f, q_o, binF_v, v_lss, ↓reduceIte, q_b, guardA_some, guardV_f, q_f, q_l, Nat.reduceEqDiff, q1]
    refine hK3 _ _ ?_
    refine awp_cond rfl (fun ht => ?_) (fun ht => ?_)
    · refine awp_seq_s hp KT_ok hc rfl fun K4 hK4 => ?_
      simp -dsimp -implicitDefEqProofs (disch := first | assumption | omega | (simp [maxLen, avs_len, nds_len, erow_len] <;> omega) | decide) only [sT_assign, sT_nil, q_f]
      refine hK4 _ _ ?_
      refine awp_ret ?_
      show closeA _ _ = _
      simp (disch := first | assumption | omega | (simp [maxLen, avs_len, nds_len, erow_len] <;> omega) | decide) only [closeA, retV, deep_d, Nat.zero_add, D.fix, frL_get, ↓reduceIte, Option.map_some, List.length_cons, List.length_nil, oD]
      simp [evB, hx]
    · cases ht
  · have q1 : decide (node < 0) = false := by simp; omega
    have q2 : decide (2 + ((erow us).length : Int) ≤ node) = true := by simp [hel]; omega
    have hx : nodeB us node = false := by unfold nodeB; rw [decide_eq_false (p := node < 2 + (us.length : Int)) (by omega)]; simp
    simp -dsimp -implicitDefEqProofs (disch := first | assumption | omega | (simp [maxLen, avs_len, nds_len, erow_len] <;> omega) | decide) only [sT_move, sT_pick, sT_load, sT_fa, sT_bin, sT_len, sT_nil, sT_g, oK_some, gK_t, q_o, loadF, fieldAddrF, binF_v, lenF, builtinF, v_add, v_lss, v_geq, ↓reduceIte, q_b, ifp, guardA_some, guardV_f, q_f, q_s, q_l, q_n, Nat.reduceEqDiff, q1, q2, fo_31_0, sz_28, ag_28, eo_28]
    refine hK3 _ _ ?_
    refine awp_cond rfl (fun ht => ?_) (fun ht => ?_)
    · refine awp_seq_s hp KT_ok hc rfl fun K5 hK5 => ?_
      simp -dsimp -implicitDefEqProofs (disch := first | assumption | omega | (simp [maxLen, avs_len, nds_len, erow_len] <;> omega) | decide) only [sT_assign, sT_nil, q_f]
      refine hK5 _ _ ?_
      refine awp_ret ?_
      show closeA _ _ = _
      simp (disch := first | assumption | omega | (simp [maxLen, avs_len, nds_len, erow_len] <;> omega) | decide) only [closeA, retV, deep_d, Nat.zero_add, D.fix, frL_get, ↓reduceIte, Option.map_some, List.length_cons, List.length_nil, oD]
      simp [evB, hx]
    · cases ht
  · have q1 : decide (node < 0) = false := by simp; omega
    have q2 : decide (2 + ((erow us).length : Int) ≤ node) = false := by simp [hel]; omega
    have hx : nodeB us node = true := by unfold nodeB; rw [decide_eq_true q, decide_eq_true q']; rfl
    have hnt : (num us (treeA us node) : Int) = node := by unfold treeA; rw [num_tree hr (k := node.toNat) (by omega)]; omega
    have hti := tree_in (us := us) (k := node.toNat) (by omega)
    simp -dsimp -implicitDefEqProofs (disch := first | assumption | omega | (simp [maxLen, avs_len, nds_len, erow_len] <;> omega) | decide) only [sT_move, sT_pick, sT_load, sT_fa, sT_bin, sT_len, sT_nil, sT_g, oK_some, gK_t, q_o, loadF, fieldAddrF, binF_v, lenF, builtinF, v_add, v_lss, v_geq, ↓reduceIte, q_b, ifp, guardA_some, guardV_f, q_f, q_s, q_l, q_n, Nat.reduceEqDiff, q1, q2, fo_31_0, sz_28, ag_28, eo_28]
    refine hK3 _ _ ?_
    refine awp_cond rfl (fun ht => ?_) (fun ht => ?_)
    · cases ht
    · refine awp_skip (hK2 _ _ ?_)
      refine awp_seq_k fun K6 hK6 => ?_
      refine awp_block ?_
      refine awp_loop_rt hp (fun τ' H' mm => ∃ (t : T), (t ∈ full us ∧ t.eval (atB l) = (treeA us node).eval (atB l)) ∧ mm = t.sz ∧ H' = [.cells (avs (bddC (erow us) rs))] ∧ τ' = frL [(1, .d (iD (num us t))), (2, .d (boolsD l)), (3, .op 0 0)]) ((treeA us node).sz) ?_ ⟨treeA us node, ⟨hti, rfl⟩, rfl, rfl, rfl⟩ ?_
      · refine Rt.trans (Rt.gc (keep := [0]) (by decide) (by decide) (by simp [])) ?_
        refine Rt.end (less_cons (less_cons (less_cons (less_nil _) rfl) rfl) (by first | rfl | (simp [frL, gcV, iD, hnt]; done) | simp [Fr.put, frL, gcV, fzV, posN, iD, bD, uD, oD, intsD, boolsD, bytesD, intssD, bytessD, nds_len, erow_len, hnt, *])) ?_
        simp only [gcH, gcO_c, gcVs, gcV, avs_nil, avs_cons, List.map_cons, List.map_nil, List.getD_cons_zero, bddC]; first | done | rfl
      rintro τ' H' mm ⟨t, ⟨htf, hte⟩, rfl, rfl, rfl⟩
      refine awp_seq_k fun K7 hK7 => ?_
      refine awp_seq_s hp KT_ok hc rfl fun K8 hK8 => ?_
      simp -dsimp -implicitDefEqProofs (disch := first | assumption | omega | (simp [maxLen, avs_len, nds_len, erow_len] <;> omega) | decide) only [sT_move, sT_bin, sT_nil, oK_some, q_o, binF_v, v_geq, ↓reduceIte, q_b, q_f, avs_nil, avs_cons, iD, boolsD, bddC]
      refine hK8 _ _ ?_
      refine awp_cond rfl (fun ht => ?_) (fun ht => ?_)
      · have h2 : t.lf = false := by
          rcases lf_cases t with h | h
          · have := leaf_n (us := us) h; simp at ht; omega
          · exact h
        obtain ⟨v, lo, hi, rfl⟩ := lf_node h2
        have h3 := node_n hr htf h2
        have hlt := num_lt htf
        have hx1 : ((num us (.node v lo hi) : Int) - 2).toNat = num us (.node v lo hi) - 2 := by omega
        have hg := erow_get hr htf h2
        obtain ⟨hcl, hch⟩ := hr.chf htf
        have hok := hr.okf htf
        refine awp_skip (hK7 _ _ ?_)
        refine awp_block ?_
        refine awp_seq_s hp KT_ok hc rfl fun K9 hK9 => ?_
        simp -dsimp -implicitDefEqProofs (disch := first | assumption | omega | (simp [maxLen, avs_len, nds_len, erow_len] <;> omega) | decide) only [sT_move, sT_load, sT_fa, sT_ia, sT_bin, sT_alloc, sT_store, deadH, sT_nil, oK_some, q_o, loadF, fieldAddrF, ixO, indexAddrF, binF_v, layF, storeF, v_sub, ↓reduceIte, q_b, ifp, q_f, q_s, q_l, as_dagg, q_a, D.one, Value.oneCell', q_n, Nat.reduceEqDiff, map_d, avs_nil, avs_cons, iD, Nat.reduceAdd, deadH, hx1, nd_row, hg, ndC, ndOf, T.v, T.l, T.h, fo_31_0, sz_28, ag_28, eo_28, sz_83, ag_83, za_83]
        refine hK9 _ _ ?_
        refine awp_seq_s hp KT_ok hc rfl fun K10 hK10 => ?_
        by_cases hv : v < l.length
        · have q5 : decide ((v : Int) < (l.length : Int)) = true := by simp; omega
          simp -dsimp -implicitDefEqProofs (disch := first | assumption | omega | (simp [maxLen, avs_len, nds_len, erow_len] <;> omega) | decide) only [sT_move, sT_pick, sT_load, sT_fa, sT_ia, sT_bin, sT_len, sT_nil, sT_g, oK_some, gK_t, q_o, loadF, fieldAddrF, ixO, indexAddrF, binF_v, lenF, builtinF, v_lss, ↓reduceIte, q_b, ifp, guardA_some, guardV_t, q_f, q_s, q_l, Int.toNat_natCast, q_n, Nat.reduceEqDiff, get_map, oD, Nat.reduceAdd, q5, get_map, fo_83_0, sz_3, ag_3, eo_33, sz_4, ag_4]
          refine hK10 _ _ ?_
          refine awp_cond rfl (fun ht => ?_) (fun ht => ?_)
          · have hav : atB l v = true := by unfold atB; rw [decide_eq_true hv, ht]; rfl
            refine awp_s hp KT_ok hc rfl fun K11 hK11 => ?_
            simp -dsimp -implicitDefEqProofs (disch := first | assumption | omega | (simp [maxLen, avs_len, nds_len, erow_len] <;> omega) | decide) only [sT_assign, sT_load, sT_fa, sT_nil, oK_some, loadF, fieldAddrF, ↓reduceIte, q_b, ifp, q_f, q_l, q_n, Nat.reduceEqDiff, Nat.reduceAdd, fo_83_2, sz_3, ag_3]
            refine hK11 _ _ ⟨_, _, _, ?_, ⟨hi, ⟨hch, by rw [← hte]; show _ = if atB l v then _ else _; rw [hav]; rfl⟩, rfl, rfl, rfl⟩, ?_⟩
            · first | omega | (simp only [List.length_cons]; omega) | (dsimp only; omega) | (simp only [T.sz]; omega)
            · refine Rt.trans (Rt.gc (keep := [0]) (by decide) (by decide) (by simp [])) ?_
              refine Rt.end (less_cons (less_cons (less_cons (less_nil _) rfl) rfl) rfl) ?_
              first | rfl | (simp only [intsD, boolsD, bytesD, intssD, bytessD, gcH, gcO_c, gcO_de, gcO_fr, gc_m, fz_m, gcVs_avs, gcVs, gcV, gcV_d, fzH, fzO_c, fzO_de, fzO_fr, fzVs_avs, Nat.reduceAdd, fzVs, fzV, posN, avs_nil, avs_cons, List.map_cons, List.map_nil, List.getD_cons_zero, List.getD_cons_succ, ↓reduceIte, Nat.reduceEqDiff, Option.map_some, List.set_cons_zero, List.set_cons_succ, takeD_avs, takeD_all, Nat.mul_one, List.length_map, List.cons_append, List.nil_append, bddD, bddC]; first | done | rfl)
          · have hav : atB l v = false := by unfold atB; rw [ht]; simp
            refine awp_s hp KT_ok hc rfl fun K12 hK12 => ?_
            simp -dsimp -implicitDefEqProofs (disch := first | assumption | omega | (simp [maxLen, avs_len, nds_len, erow_len] <;> omega) | decide) only [sT_assign, sT_load, sT_fa, sT_nil, oK_some, loadF, fieldAddrF, ↓reduceIte, q_b, ifp, q_f, q_l, q_n, Nat.reduceEqDiff, Nat.reduceAdd, fo_83_1, sz_3, ag_3]
            refine hK12 _ _ ⟨_, _, _, ?_, ⟨lo, ⟨hcl, by rw [← hte]; show _ = if atB l v then _ else _; rw [hav]; rfl⟩, rfl, rfl, rfl⟩, ?_⟩
            · first | omega | (simp only [List.length_cons]; omega) | (dsimp only; omega) | (simp only [T.sz]; omega)
            · refine Rt.trans (Rt.gc (keep := [0]) (by decide) (by decide) (by simp [])) ?_
              refine Rt.end (less_cons (less_cons (less_cons (less_nil _) rfl) rfl) rfl) ?_
              first | rfl | (simp only [intsD, boolsD, bytesD, intssD, bytessD, gcH, gcO_c, gcO_de, gcO_fr, gc_m, fz_m, gcVs_avs, gcVs, gcV, gcV_d, fzH, fzO_c, fzO_de, fzO_fr, fzVs_avs, Nat.reduceAdd, fzVs, fzV, posN, avs_nil, avs_cons, List.map_cons, List.map_nil, List.getD_cons_zero, List.getD_cons_succ, ↓reduceIte, Nat.reduceEqDiff, Option.map_some, List.set_cons_zero, List.set_cons_succ, takeD_avs, takeD_all, Nat.mul_one, List.length_map, List.cons_append, List.nil_append, bddD, bddC]; first | done | rfl)
        · have q5 : decide ((v : Int) < (l.length : Int)) = false := by simp; omega
          simp -dsimp -implicitDefEqProofs (disch := first | assumption | omega | (simp [maxLen, avs_len, nds_len, erow_len] <;> omega) | decide) only [sT_move, sT_pick, sT_load, sT_fa, sT_bin, sT_len, sT_nil, sT_g, oK_some, gK_f, q_o, loadF, fieldAddrF, binF_v, lenF, builtinF, v_lss, ↓reduceIte, q_b, ifp, guardA_some, guardV_t, q_f, q_s, q_l, q_n, Nat.reduceEqDiff, Nat.reduceAdd, q5, fo_83_0, sz_3, ag_3, eo_33]
          refine hK10 _ _ ?_
          refine awp_cond rfl (fun ht => ?_) (fun ht => ?_)
          · cases ht
          · have hav : atB l v = false := by unfold atB; rw [decide_eq_false hv]; rfl
            refine awp_s hp KT_ok hc rfl fun K13 hK13 => ?_
            simp -dsimp -implicitDefEqProofs (disch := first | assumption | omega | (simp [maxLen, avs_len, nds_len, erow_len] <;> omega) | decide) only [sT_assign, sT_load, sT_fa, sT_nil, oK_some, loadF, fieldAddrF, ↓reduceIte, q_b, ifp, q_f, q_l, q_n, Nat.reduceEqDiff, Nat.reduceAdd, fo_83_1, sz_3, ag_3]
            refine hK13 _ _ ⟨_, _, _, ?_, ⟨lo, ⟨hcl, by rw [← hte]; show _ = if atB l v then _ else _; rw [hav]; rfl⟩, rfl, rfl, rfl⟩, ?_⟩
            · first | omega | (simp only [List.length_cons]; omega) | (dsimp only; omega) | (simp only [T.sz]; omega)
            · refine Rt.trans (Rt.gc (keep := [0]) (by decide) (by decide) (by simp [])) ?_
              refine Rt.end (less_cons (less_cons (less_cons (less_nil _) rfl) rfl) rfl) ?_
              first | rfl | (simp only [intsD, boolsD, bytesD, intssD, bytessD, gcH, gcO_c, gcO_de, gcO_fr, gc_m, fz_m, gcVs_avs, gcVs, gcV, gcV_d, fzH, fzO_c, fzO_de, fzO_fr, fzVs_avs, Nat.reduceAdd, fzVs, fzV, posN, avs_nil, avs_cons, List.map_cons, List.map_nil, List.getD_cons_zero, List.getD_cons_succ, ↓reduceIte, Nat.reduceEqDiff, Option.map_some, List.set_cons_zero, List.set_cons_succ, takeD_avs, takeD_all, Nat.mul_one, List.length_map, List.cons_append, List.nil_append, bddD, bddC]; first | done | rfl)
      · have h2 : t.lf = true := by
          rcases lf_cases t with h | h
          · exact h
          · have := node_n hr htf h; simp at ht; omega
        refine awp_exit (hK6 _ _ ?_)
        refine awp_seq_s hp KT_ok hc rfl fun K14 hK14 => ?_
        simp -dsimp -implicitDefEqProofs (disch := first | assumption | omega | (simp [maxLen, avs_len, nds_len, erow_len] <;> omega) | decide) only [sT_move, sT_assign, sT_bin, sT_nil, oK_some, q_o, binF_v, v_eql, ↓reduceIte, q_b, q_f, Nat.reduceEqDiff]
        refine hK14 _ _ ?_
        refine awp_ret ?_
        show closeA _ _ = _
        simp (disch := first | assumption | omega | (simp [maxLen, avs_len, nds_len, erow_len] <;> omega) | decide) only [closeA, retV, deep_d, Nat.zero_add, D.fix, frL_get, ↓reduceIte, Option.map_some, List.length_cons, List.length_nil, oD]
        unfold evB
        rw [hx, ← hte]
        cases t with
        | leaf b => cases b <;> simp [T.eval, num_f, num_t]
        | node v lo hi => cases h2
end Go.Proofs.Ytgfnpfchdlcoeaa
