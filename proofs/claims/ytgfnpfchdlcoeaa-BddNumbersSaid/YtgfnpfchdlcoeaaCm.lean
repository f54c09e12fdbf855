/- The count. -/
import Derived.Test.YtgfnpfchdlcoeaaQ
import Derived.Test.YtgfnpfchdlcoeaaCl
set_option linter.unusedVariables false
set_option linter.unusedSimpArgs false
namespace Go.Proofs.Ytgfnpfchdlcoeaa
open Go Go.RowKit
/-- How many assignments of the variables from k on make it true. -/
def cntT (n : Nat) : T → Nat → Nat
  | .leaf b, k => if b then 2 ^ (n - k) else 0
  | .node v l h, k => (cntT n l (v + 1) + cntT n h (v + 1)) * 2 ^ (v - k)
def cntS (n : Nat) (t : T) : Nat := cntT n t.l (t.v + 1) + cntT n t.h (t.v + 1)
theorem cnt_le {n : Nat} : ∀ {t : T} {k j : Nat}, t.Ok n j → k ≤ j → k ≤ n → cntT n t k ≤ 2 ^ (n - k)
  | .leaf b, k, j, _, _, _ => by cases b <;> simp [cntT]
  | .node v l h, k, j, ht, hj, hk => by
    have h1 := ht.1
    have h2 := ht.2.1
    have hl := cnt_le (k := v + 1) ht.2.2.2.1 (Nat.le_refl _) (by omega)
    have hh := cnt_le (k := v + 1) ht.2.2.2.2 (Nat.le_refl _) (by omega)
    unfold cntT
    have e : 2 ^ (n - k) = (2 ^ (n - (v + 1)) + 2 ^ (n - (v + 1))) * 2 ^ (v - k) := by
      rw [← Nat.two_mul, ← Nat.pow_succ', ← Nat.pow_add]; congr 1; omega
    rw [e]
    exact Nat.mul_le_mul_right _ (by omega)
theorem pow_60 {m : Nat} (h : m ≤ 60) : 2 ^ m ≤ 1152921504606846976 := by
  have : (2 : Nat) ^ m ≤ 2 ^ 60 := Nat.pow_le_pow_right (by decide) h
  omega
theorem wrap_shl {a b m : Nat} (h : a * 2 ^ m = b) (hb : b ≤ 1152921504606846976) (hm : m ≤ 60) : IntKind.i64.wrap ((a : Int) * 2 ^ min m 64) = (b : Int) := by
  rw [Nat.min_eq_left (by omega)]
  have e : ((a : Int) * 2 ^ m) = ((b : Nat) : Int) := by rw [← h]; push_cast; rfl
  rw [e]
  exact w_i64 (by omega) (by omega)
structure COk (us : List T) (n : Nat) (μ : Mp) : Prop where
  ok : OkM Try.prog tI μ
  inv : ∀ t ∈ full us, ∀ u, getM (vi (num us t)) μ = some u → u = vi (cntS n t)
theorem COk.nil (us : List T) (n : Nat) : COk us n ([], 0) := ⟨OkM.nil tI 0, fun t ht u hu => by cases hu⟩
theorem COk.add {us : List T} {n : Nat} {μ : Mp} (h : COk us n μ) (hl : us.length ≤ bigB) {t : T} (ht : t ∈ full us) : COk us n (putM (vi (num us t)) (vi (cntS n t)) μ) := by
  have hk : KeyP Try.prog tI (vi (num us t)) := keyI (num_le hl ht)
  classical
  refine ⟨h.ok.put hk, fun s hs u hu => ?_⟩
  rw [getM_put hk.1 (keyI (num_le hl hs)).1] at hu
  split at hu
  · rename_i e
    rw [num_inj hs ht (vi_inj e)]
    exact (Option.some.inj hu).symm
  · exact h.inv s hs u hu
def cntH (us : List T) (rs : List Nat) (n : Nat) (μ : Mp) : AHeap := [.cells (avs (bddC (erow us) rs)), .cells [.d (iD n)], mO μ, .cells [.om 2], .cells [.clo (.func 70) [] [.op 1 0, .op 0 0, .op 3 0, .op 4 0]]]
def CntK (us : List T) (rs : List Nat) (n : Nat) (f : T) (k : Nat) (x : AV) (S' : AHeap) : Prop := ∃ μ', S' = cntH us rs n μ' ∧ x = .d (iD (cntT n f k)) ∧ COk us n μ'
def CntC (us : List T) (rs : List Nat) (n : Nat) (f : T) : Prop := ∀ (k : Nat) (ki : Int) (μ : Mp), ki = k → f ∈ full us → f.Ok n k → k ≤ n → COk us n μ →
  ScS Try.prog [0, 1, 2, 3, 4] 70 [.d (iD (num us f)), .d (iD ki), .op 1 0, .op 0 0, .op 3 0, .op 4 0] (cntH us rs n μ) (CntK us rs n f k)
theorem awp_sv6 {P : Program} {c : Cx} {H : AHeap} {code : Code} {QQ : Exit → Fr → AHeap → Prop} {x y z u v t : AV} (h : AWp P c code QQ (frL [(0, x), (1, y), (2, z), (3, u), (4, v), (5, t)]) H) : AWp P c code QQ (startV [x, y, z, u, v, t]) H := awp_less (less_cons (less_cons (less_cons (less_cons (less_cons (less_cons (less_nil _) rfl) rfl) rfl) rfl) rfl) rfl) h
set_option maxRecDepth 100000 in
set_option linter.unusedVariables false in
set_option maxHeartbeats 4000000 in
theorem cnt_s (V : Nat) (us : List T) (rs : List Nat) (hr : RowOk V us) (hul : us.length ≤ bigB) (n : Nat) (hn : n ≤ 60) (f : T) (ih : ∀ s : T, s.sz < f.sz → CntC us rs n s) (k : Nat) (ki : Int) (μ : Mp) (hki : ki = k) (hf : f ∈ full us) (hok : f.Ok n k) (hkn : k ≤ n) (hC : COk us n μ) : ScS Try.prog [0, 1, 2, 3, 4] 70 [.d (iD (num us f)), .d (iD ki), .op 1 0, .op 0 0, .op 3 0, .op 4 0] (cntH us rs n μ) (CntK us rs n f k) := by
  refine scs_of0 (fn := Try.f70) (by kernel_rfl) Try.func70 rfl (Nat.le_of_ble_eq_true rfl) fun c hc hp => ?_
  refine awp_sv6 ?_
  subst hki
  have hul0 := hul
  unfold bigB at hul
  have hel := erow_len us
  have nf := num_lt hf
  have hk : KeyP Try.prog tI (.int .i64 (num us f)) := keyI (num_le hul0 hf)
  have hcb := cnt_le hok (Nat.le_refl _) hkn
  have hpw := pow_60 (m := n - k) (by omega)
  refine awp_seq_s hp KT_ok hc rfl fun K1 hK1 => ?_
  simp -dsimp -implicitDefEqProofs (disch := first | assumption | omega | (simp [maxLen, avs_len, nds_len, erow_len] <;> omega) | decide) only [sT_assign, sT_nil, q_f, avs_nil, avs_cons, iD, cntH, bddC]
  refine hK1 _ _ ?_
  refine awp_seq_k fun K2 hK2 => ?_
  refine awp_seq_s hp KT_ok hc rfl fun K3 hK3 => ?_
  rcases lf_cases f with hlf | hlf
  · have hnl := leaf_n (us := us) hlf
    have t0 : ((n : Int) - k).toNat = n - k := by omega
    have hw : IntKind.i64.wrap ((num us f : Int) * 2 ^ min (n - k) 64) = (cntT n f k : Nat) := wrap_shl (by
      cases f with
      | leaf b => cases b <;> simp [num_f, num_t, cntT]
      | node v l h => cases hlf) (by omega) (by omega)
    simp -dsimp -implicitDefEqProofs (disch := first | assumption | omega | (simp [maxLen, avs_len, nds_len, erow_len] <;> omega) | decide) only [sT_move, sT_bin, sT_nil, oK_some, q_o, binF_v, v_lss, ↓reduceIte, q_b, q_f, Nat.reduceEqDiff]
    refine hK3 _ _ ?_
    refine awp_cond rfl (fun ht => ?_) (fun ht => ?_)
    · refine awp_seq_s hp KT_ok hc rfl fun K4 hK4 => ?_
      simp -dsimp -implicitDefEqProofs (disch := first | assumption | omega | (simp [maxLen, avs_len, nds_len, erow_len] <;> omega) | decide) only [sT_move, sT_assign, sT_load, sT_bin, sT_nil, oK_some, q_o, loadF, binF_v, v_sub, v_shl, ↓reduceIte, q_b, ifp, q_f, q_l, q_n, Nat.reduceEqDiff, Nat.reduceAdd, t0, hw, sz_3, ag_3]
      refine hK4 _ _ ?_
      refine awp_rt hp (τ' := frL [(8, .d (iD (cntT n f k)))]) (H' := cntH us rs n μ) ?_ ?_
      · refine Rt.trans (Rt.gc (keep := [0,1,2,3,4]) (by decide) (by decide) (by simp [])) ?_
        refine Rt.end (less_cons (less_nil _) rfl) ?_
        simp only [gcH, gcO_c, gc_m, gcVs, gcV, Nat.reduceAdd, posN, avs_nil, avs_cons, List.map_cons, List.map_nil, List.getD_cons_zero, List.getD_cons_succ, ↓reduceIte, Nat.reduceEqDiff, Option.map_some, gc_m, cntH, bddC]; rfl
      refine awp_ret ?_
      refine PostA_ret1 (t := 8) rfl ?_
      show ∃ _, _
      exact ⟨μ, rfl, rfl, hC⟩
    · simp at ht; omega
  · have hn2 := node_n hr hf hlf
    simp -dsimp -implicitDefEqProofs (disch := first | assumption | omega | (simp [maxLen, avs_len, nds_len, erow_len] <;> omega) | decide) only [sT_move, sT_bin, sT_nil, oK_some, q_o, binF_v, v_lss, ↓reduceIte, q_b, q_f, Nat.reduceEqDiff]
    refine hK3 _ _ ?_
    refine awp_cond rfl (fun ht => ?_) (fun ht => ?_)
    · simp at ht; omega
    · refine awp_skip (hK2 _ _ ?_)
      obtain ⟨v, lo, hi, rfl⟩ := lf_node hlf
      have hx1 : ((num us (.node v lo hi) : Int) - 2).toNat = num us (.node v lo hi) - 2 := by omega
      have hg := erow_get hr hf hlf
      have hcl : lo ∈ full us := (hr.chf hf).1
      have hch : hi ∈ full us := (hr.chf hf).2
      have hkv : k ≤ v := hok.1
      have hvn : v < n := hok.2.1
      have hol : lo.Ok n (v + 1) := hok.2.2.2.1
      have hoh : hi.Ok n (v + 1) := hok.2.2.2.2
      have hcl1 := cnt_le hol (Nat.le_refl _) (by omega)
      have hch1 := cnt_le hoh (Nat.le_refl _) (by omega)
      have hp1 := pow_60 (m := n - (v + 1)) (by omega)
      refine awp_seq_s hp KT_ok hc rfl fun K5 hK5 => ?_
      simp -dsimp -implicitDefEqProofs (disch := first | assumption | omega | (simp [maxLen, avs_len, nds_len, erow_len] <;> omega) | decide) only [sT_move, sT_load, sT_fa, sT_ia, sT_bin, sT_alloc, sT_store, deadH, sT_nil, oK_some, q_o, loadF, fieldAddrF, ixO, indexAddrF, binF_v, layF, storeF, v_sub, ↓reduceIte, q_b, ifp, q_f, q_s, q_l, as_dagg, q_a, D.one, Value.oneCell', q_n, Nat.reduceEqDiff, map_d, avs_nil, avs_cons, iD, Nat.reduceAdd, deadH, hx1, nd_row, hg, ndC, ndOf, T.v, T.l, T.h, fo_31_0, sz_28, ag_28, eo_28, sz_83, ag_83, za_83]
      refine hK5 _ _ ?_
      refine awp_seq_k fun K6 hK6 => ?_
      have hJ6 : ∀ τ' H', (∃ τ1 H1, ∃ (μ' : Mp), (COk us n μ' ∧ getM (.int .i64 (num us (.node v lo hi))) μ' = some (vi (cntS n (.node v lo hi)))) ∧ H1 = cntH us rs n μ' ++ [.cells [.d (iD v), .d (iD (num us lo)), .d (iD (num us hi))]] ∧ τ1 = frL [(0, .d (iD (num us (.node v lo hi)))), (1, .d (iD k)), (4, .op 3 0), (9, .op 5 0)] ∧ Rt [0, 1, 2, 3, 4] τ' H' τ1 H1) → K6 τ' H' := by
        rintro τ' H' ⟨_, _, μ', ⟨hC', hgm'⟩, rfl, rfl, hrt⟩
        refine hK6 _ _ (awp_rt hp hrt ?_)
        clear hrt
        have t1 : ((v : Int) - k).toNat = v - k := by omega
        have hw : IntKind.i64.wrap ((cntS n (.node v lo hi) : Int) * 2 ^ min (v - k) 64) = (cntT n (.node v lo hi) k : Nat) := wrap_shl rfl (by omega) (by omega)
        refine awp_seq_s hp KT_ok hc rfl fun K7 hK7 => ?_
        simp -dsimp -implicitDefEqProofs (disch := first | assumption | omega | (simp [maxLen, avs_len, nds_len, erow_len] <;> omega) | decide) only [sT_move, sT_assign, sT_load, sT_fa, sT_bin, sT_lookup, sT_nil, oK_some, q_o, loadF, fieldAddrF, binF_v, v_sub, v_shl, ↓reduceIte, q_b, ifp, q_f, q_l, q_s, q_n, Nat.reduceEqDiff, avs_nil, avs_cons, iD, Nat.reduceAdd, esOf_m, kv_val, cntH, bddC, lk_omK, lkK_f mtI hk hC'.ok, hgm', Option.getD_some, vi, t1, hw, sz_132, ag_132, fo_83_0, sz_3, ag_3]
        refine hK7 _ _ ?_
        refine awp_rt hp (τ' := frL [(8, .d (iD (cntT n (.node v lo hi) k)))]) (H' := cntH us rs n μ') ?_ ?_
        · refine Rt.trans (Rt.gc (keep := [0,1,2,3,4]) (by decide) (by decide) (by simp [])) ?_
          refine Rt.end (less_cons (less_nil _) rfl) ?_
          first | rfl | (simp only [gcH, gcO_c, gc_m, gcVs, gcV, Nat.reduceAdd, posN, avs_nil, avs_cons, List.map_cons, List.map_nil, List.getD_cons_zero, List.getD_cons_succ, ↓reduceIte, Nat.reduceEqDiff, Option.map_some, gc_m, cntH, bddC]; first | done | rfl)
        refine awp_ret ?_
        refine PostA_ret1 (t := 8) rfl ?_
        show ∃ _, _
        exact ⟨μ', rfl, rfl, hC'⟩
      refine awp_seq_s hp KT_ok hc rfl fun K8 hK8 => ?_
      rcases hgm : getM (.int .i64 (num us (.node v lo hi))) μ with _ | u
      · skip
        simp -dsimp -implicitDefEqProofs (disch := first | assumption | omega | (simp [maxLen, avs_len, nds_len, erow_len] <;> omega) | decide) only [sT_move, sT_assign, sT_load, sT_extract, sT_lookup, sT_nil, oK_some, loadF, ↓reduceIte, q_b, ifp, q_f, q_l, q_n, Nat.reduceEqDiff, Nat.reduceAdd, esOf_m, kv_val, lk_omK, lkK_t mtI hk hC.ok, hgm, Option.getD_none, Option.isSome_none, sz_132, ag_132]
        refine hK8 _ _ ?_
        refine awp_seq_s hp KT_ok hc rfl fun K9 hK9 => ?_
        simp -dsimp -implicitDefEqProofs (disch := first | assumption | omega | (simp [maxLen, avs_len, nds_len, erow_len] <;> omega) | decide) only [sT_move, sT_un, sT_nil, oK_some, u_not, ↓reduceIte, q_b, q_f]
        refine hK9 _ _ ?_
        refine awp_cond rfl (fun ht => ?_) (fun ht => ?_)
        · refine awp_rt hp (τ' := frL [(0, .d (iD (num us (.node v lo hi)))), (1, .d (iD k)), (4, .op 3 0), (5, .op 4 0), (9, .op 5 0)]) (H' := cntH us rs n μ ++ [.cells [.d (iD v), .d (iD (num us lo)), .d (iD (num us hi))]]) ?_ ?_
          · refine Rt.trans (Rt.gc (keep := [0,1,2,3,4,5]) (by decide) (by decide) (by simp [])) ?_
            refine Rt.end (less_cons (less_cons (less_cons (less_cons (less_cons (less_nil _) rfl) rfl) rfl) rfl) rfl) ?_
            first | rfl | (simp only [gcH, gcO_c, gc_m, gcVs, gcV, Nat.reduceAdd, posN, avs_nil, avs_cons, List.map_cons, List.map_nil, List.getD_cons_zero, List.getD_cons_succ, ↓reduceIte, Nat.reduceEqDiff, Option.map_some, List.cons_append, List.nil_append, gc_m, cntH, bddC]; first | done | rfl)
          refine awp_ss KT_ok hp hc mixed rfl [(0, []), (1, []), (2, []), (3, []), (4, []), (5, []), (6, []), (7, []), (9, []), (10, []), (11, []), (12, []), (13, []), (14, []), (8, [0, 9, 11, 13]), (15, [0]), (16, []), (17, [])] [[], [], [], [], [3], [], [5], [5, 6], [2, 3, 4, 5, 6, 7], [], [], [10], [], [12], [12, 13], [2, 3, 4, 5, 6, 7, 8, 9, 10, 11, 12, 13, 14], [2, 3, 4, 5, 6, 7, 8, 9, 10, 11, 12, 13, 14, 15], [0, 1, 2, 3, 4, 5, 6, 7, 8, 9, 10, 11, 12, 13, 14, 15, 16]] 0 (by kernel_rfl) fun K10 hK10 => ?_
          simp -dsimp -implicitDefEqProofs (disch := first | assumption | omega | (simp [maxLen, avs_len, nds_len, erow_len] <;> omega) | decide) only [oK_some, q_o, loadF, fieldAddrF, binF_v, v_add, ↓reduceIte, q_b, ifp, q_f, q_s, q_l, List.append_nil, List.replicate_zero, q_n, Nat.reduceEqDiff, avs_nil, avs_cons, iD, Nat.reduceAdd, stg_nil, stg_cons, List.getD_cons_zero, List.getD_cons_succ, sS_move, sS_load, sS_fa, sS_bin, sS_callt, cntH, bddC, sz_132, ag_132, sz_133, ag_133, fo_83_1, sz_3, ag_3, fo_83_0, fo_83_2]
          refine ke_stc (S := cntH us rs n μ) (T := [.cells [.d (iD v), .d (iD (num us lo)), .d (iD (num us hi))]]) (ih lo (by simp only [T.sz]; omega) (v + 1) _ μ rfl hcl hol (by omega) hC) rfl (Nat.le_of_ble_eq_true rfl) (by first | rfl | (simp [AV.allIs, AV.allI, allI_c, allI_de, allI_fr, okI, ltI, allIs_avs, all_m, cntH]; done) | (intro o ho; simp at ho; done)) (fun t => frL_all (by first | rfl | (simp [AV.allIs, AV.allI, allI_c, allI_de, allI_fr, okI, ltI, allIs_avs, all_m, cntH]; done) | (intro o ho; simp at ho; done)) t) (fun t => frL_all (by first | rfl | (simp [AV.allIs, AV.allI, allI_c, allI_de, allI_fr, okI, ltI, allIs_avs, all_m, cntH]; done) | (intro o ho; simp at ho; done)) t) (by first | rfl | (simp [AV.allIs, AV.allI, allI_c, allI_de, allI_fr, okI, ltI, allIs_avs, all_m, cntH]; done) | (intro o ho; simp at ho; done)) (by first | rfl | (simp [AV.allIs, AV.allI, allI_c, ltI, allIs_avs, all_m, cntH]; done) | (intro o ho; simp at ho; done)) (by first | rfl | (simp [AV.allIs, AV.allI, allI_c, cntH]; done) | (intro o ho; simp at ho; done)) ?_
          rintro _ _ ⟨μ1, rfl, rfl, hC1⟩
          refine ⟨rfl, ?_⟩
          simp -dsimp -implicitDefEqProofs (disch := first | assumption | omega | (simp [maxLen, avs_len, nds_len, erow_len] <;> omega) | decide) only [oK_some, loadF, ↓reduceIte, q_b, ifp, q_f, q_s, q_l, Nat.reduceEqDiff, avs_nil, avs_cons, iD, rT_nil, rT_load, sS_callt, cntH, bddC, sz_132, ag_132, sz_133, ag_133, sz_3, ag_3]
          refine ke_stc (S := cntH us rs n μ1) (T := [.cells [.d (iD v), .d (iD (num us lo)), .d (iD (num us hi))]]) (ih hi (by simp only [T.sz]; omega) (v + 1) _ μ1 rfl hch hoh (by omega) hC1) rfl (Nat.le_of_ble_eq_true rfl) (by first | rfl | (simp [AV.allIs, AV.allI, allI_c, allI_de, allI_fr, okI, ltI, allIs_avs, all_m, cntH]; done) | (intro o ho; simp at ho; done)) (fun t => frL_all (by first | rfl | (simp [AV.allIs, AV.allI, allI_c, allI_de, allI_fr, okI, ltI, allIs_avs, all_m, cntH]; done) | (intro o ho; simp at ho; done)) t) (fun t => frL_all (by first | rfl | (simp [AV.allIs, AV.allI, allI_c, allI_de, allI_fr, okI, ltI, allIs_avs, all_m, cntH]; done) | (intro o ho; simp at ho; done)) t) (by first | rfl | (simp [AV.allIs, AV.allI, allI_c, allI_de, allI_fr, okI, ltI, allIs_avs, all_m, cntH]; done) | (intro o ho; simp at ho; done)) (by first | rfl | (simp [AV.allIs, AV.allI, allI_c, ltI, allIs_avs, all_m, cntH]; done) | (intro o ho; simp at ho; done)) (by first | rfl | (simp [AV.allIs, AV.allI, allI_c, cntH]; done) | (intro o ho; simp at ho; done)) ?_
          rintro _ _ ⟨μ2, rfl, rfl, hC2⟩
          refine ⟨rfl, ?_⟩
          simp -dsimp -implicitDefEqProofs (disch := first | assumption | omega | (simp [maxLen, avs_len, nds_len, erow_len] <;> omega) | decide) only [oK_some, q_o, loadF, binF_v, v_add, ↓reduceIte, q_b, ifp, q_f, q_l, q_s, Nat.reduceEqDiff, avs_nil, avs_cons, iD, rT_nil, rT_load, sS_nil, sS_bin, sS_mu, mapF_muK, muK_om, kv_val, cntH, bddC, muO_m mtI hk hC2.ok, sz_132, ag_132]
          refine hK10 _ _ (hJ6 _ _ ⟨_, _, putM (vi (num us (.node v lo hi))) (vi (cntS n (.node v lo hi))) μ2, ⟨hC2.add hul0 hf, getM_self rfl⟩, rfl, rfl, ?_⟩)
          refine Rt.trans (Rt.gc (keep := [0,1,2,3,4,5]) (by decide) (by decide) (by simp [])) ?_
          refine Rt.end (less_cons (less_cons (less_cons (less_cons (less_nil _) rfl) rfl) rfl) rfl) ?_
          first | rfl | (simp only [gcH, gcO_c, gc_m, gcVs, gcV, Nat.reduceAdd, posN, avs_nil, avs_cons, List.map_cons, List.map_nil, List.getD_cons_zero, List.getD_cons_succ, ↓reduceIte, Nat.reduceEqDiff, Option.map_some, List.cons_append, List.nil_append, gc_m, cntH, bddC]; first | done | rfl)
        · cases ht
      · have hu := hC.inv _ hf u hgm
        subst hu
        simp -dsimp -implicitDefEqProofs (disch := first | assumption | omega | (simp [maxLen, avs_len, nds_len, erow_len] <;> omega) | decide) only [sT_move, sT_assign, sT_load, sT_extract, sT_lookup, sT_nil, oK_some, loadF, ↓reduceIte, q_b, ifp, q_f, q_l, q_n, Nat.reduceEqDiff, Nat.reduceAdd, esOf_m, kv_val, lk_omK, lkK_t mtI hk hC.ok, hgm, Option.getD_some, Option.isSome_some, sz_132, ag_132]
        refine hK8 _ _ ?_
        refine awp_seq_s hp KT_ok hc rfl fun K11 hK11 => ?_
        simp -dsimp -implicitDefEqProofs (disch := first | assumption | omega | (simp [maxLen, avs_len, nds_len, erow_len] <;> omega) | decide) only [sT_move, sT_un, sT_nil, oK_some, u_not, ↓reduceIte, q_b, q_f]
        refine hK11 _ _ ?_
        refine awp_cond rfl (fun ht => ?_) (fun ht => ?_)
        · cases ht
        · refine awp_skip (hJ6 _ _ ⟨_, _, μ, ⟨hC, hgm⟩, rfl, rfl, ?_⟩)
          refine Rt.trans (Rt.gc (keep := [0,1,2,3,4,5]) (by decide) (by decide) (by simp [])) ?_
          refine Rt.end (less_cons (less_cons (less_cons (less_cons (less_nil _) rfl) rfl) rfl) rfl) ?_
          first | rfl | (simp only [gcH, gcO_c, gc_m, gcVs, gcV, Nat.reduceAdd, posN, avs_nil, avs_cons, List.map_cons, List.map_nil, List.getD_cons_zero, List.getD_cons_succ, ↓reduceIte, Nat.reduceEqDiff, Option.map_some, List.cons_append, List.nil_append, gc_m, cntH, bddC]; first | done | rfl)
theorem cnt_c (V : Nat) (us : List T) (rs : List Nat) (hr : RowOk V us) (hul : us.length ≤ bigB) (n : Nat) (hn : n ≤ 60) : ∀ (m : Nat) (f : T), f.sz ≤ m → CntC us rs n f
  | 0, f, h => by cases f <;> simp [T.sz] at h
  | m + 1, f, h => fun k ki μ hki hf hok hkn hC => cnt_s V us rs hr hul n hn f (fun s hs => cnt_c V us rs hr hul n hn m s (by omega)) k ki μ hki hf hok hkn hC
def cntA (us : List T) (node n : Int) : Int := if askB us node n then (cntT n.toNat (treeA us node) 0 : Nat) else 0
set_option maxRecDepth 100000 in
set_option linter.unusedVariables false in
set_option maxHeartbeats 4000000 in
theorem count_c (V : Nat) (us : List T) (rs : List Nat) (hr : RowOk V us) (hV : V ≤ 1000) (hul : us.length ≤ bigB) (node n : Int) : PCalls Try.prog 50 [bddD (erow us) rs, iD node, iD n] (.tup [.d (iD (cntA us node n)), .d (iD (askE us node n))]) := by
  have hul0 := hul
  unfold bigB at hul
  have hel := erow_len us
  refine pcalls_of0 (fn := Try.f50) (by kernel_rfl) Try.func50 rfl (Nat.le_of_ble_eq_true rfl) fun c hc hp => ?_
  refine awp_less (τ' := frL [(0, .d (bddD (erow us) rs)), (1, .d (iD node)), (2, .d (iD n))]) (less_cons (less_cons (less_cons (less_nil _) rfl) rfl) rfl) ?_
  refine awp_seq_s hp KT_ok hc rfl fun K1 hK1 => ?_
  simp -dsimp -implicitDefEqProofs (disch := first | assumption | omega | (simp [maxLen, avs_len, nds_len, erow_len] <;> omega) | decide) only [sT_assign, sT_box, deadH, sT_nil, oK_some, q_o, layF, ↓reduceIte, q_b, q_f, q_s, q_l, q_a, as_dagg, D.one, q_n, Nat.reduceEqDiff, iD, deadH, bddD, bddC]
  refine hK1 _ _ ?_
  refine awp_seq_k fun K2 hK2 => ?_
  refine awp_seq_s hp KT_ok hc rfl fun K3 hK3 => ?_
  simp -dsimp -implicitDefEqProofs (disch := first | assumption | omega | (simp [maxLen, avs_len, nds_len, erow_len] <;> omega) | decide) only [sT_move, sT_load, sT_call0, oK_some, q_o, loadF, ↓reduceIte, q_b, ifp, q_f, q_s, q_l, q_n, Nat.reduceEqDiff, takeD_all, Nat.reduceAdd, sz_31, ag_31, sz_3, ag_3]
  refine kc_by (asked_c V us rs hr hV hul0 node n) rfl ?_
  simp -dsimp -implicitDefEqProofs (disch := first | assumption | omega | (simp [maxLen, avs_len, nds_len, erow_len] <;> omega) | decide) only [sT_assign, sT_nil, ↓reduceIte, q_b, q_f, iD]
  refine hK3 _ _ ?_
  refine awp_seq_s hp KT_ok hc rfl fun K4 hK4 => ?_
  rcases (show askB us node n = true ∨ askB us node n = false by cases askB us node n <;> simp) with q | q
  · have hae := ask_0 q
    obtain ⟨b1, b2, b3, b4, hti, hok0⟩ := ask_ok hr hV q
    have hnt : (num us (treeA us node) : Int) = node := by unfold treeA; rw [num_tree hr (k := node.toNat) (by omega)]; omega
    have hnn : (n.toNat : Int) = n := by omega
    rw [hae]
    simp -dsimp -implicitDefEqProofs (disch := first | assumption | omega | (simp [maxLen, avs_len, nds_len, erow_len] <;> omega) | decide) only [sT_move, sT_bin, sT_nil, oK_some, q_o, binF_v, v_neq, ↓reduceIte, q_b, q_f]
    refine hK4 _ _ ?_
    refine awp_cond rfl (fun ht => ?_) (fun ht => ?_)
    · cases ht
    · refine awp_skip (hK2 _ _ ?_)
      refine awp_seq_s hp KT_ok hc rfl fun K5 hK5 => ?_
      simp -dsimp -implicitDefEqProofs (disch := first | assumption | omega | (simp [maxLen, avs_len, nds_len, erow_len] <;> omega) | decide) only [sT_alloc, sT_mm, sT_store, deadH, sT_nil, oK_some, q_o, layF, storeF, ↓reduceIte, q_b, ifp, q_f, q_l, q_s, as_om, q_a, q_n, Nat.reduceEqDiff, map_d, avs_nil, avs_cons, Nat.reduceAdd, deadH, mm_m, sz_132, za_132]
      refine hK5 _ _ ?_
      refine awp_seq_s hp KT_ok hc rfl fun K6 hK6 => ?_
      simp -dsimp -implicitDefEqProofs (disch := first | assumption | omega | (simp [maxLen, avs_len, nds_len, erow_len] <;> omega) | decide) only [sT_alloc, deadH, sT_nil, oK_some, q_o, layF, q_f, q_l, q_s, q_n, map_d, avs_nil, avs_cons, Nat.reduceAdd, deadH, za_133]
      refine hK6 _ _ ?_
      refine awp_seq_s hp KT_ok hc rfl fun K7 hK7 => ?_
      simp -dsimp -implicitDefEqProofs (disch := first | assumption | omega | (simp [maxLen, avs_len, nds_len, erow_len] <;> omega) | decide) only [sT_mf, sT_store, sT_nil, oK_some, storeF, ↓reduceIte, q_b, ifp, q_f, q_s, q_l, q_a, q_n, Nat.reduceEqDiff, as_clo, sz_133]
      refine hK7 _ _ ?_
      refine awp_rt hp (τ' := frL [(1, .d (iD (num us (treeA us node)))), (10, .op 4 0)]) (H' := cntH us rs n.toNat ([], 0)) ?_ ?_
      · refine Rt.trans (Rt.gc (keep := [0,1,2,3,4]) (by decide) (by decide) (by simp [])) ?_
        refine Rt.end (less_cons (less_cons (less_nil _) rfl) (by first | rfl | (simp [frL, gcV, iD, hnt]; done) | simp [Fr.put, frL, gcV, fzV, posN, iD, bD, uD, oD, intsD, boolsD, bytesD, intssD, bytessD, nds_len, erow_len, hnt, hnn, *])) ?_
        simp only [gcH, gcO_c, gc_m, gcVs, gcV, Nat.reduceAdd, posN, avs_nil, avs_cons, List.map_cons, List.map_nil, List.getD_cons_zero, List.getD_cons_succ, ↓reduceIte, Nat.reduceEqDiff, Option.map_some, gc_m, bddC, cntH]; simp [hnn]; rfl
      refine awp_seq_s hp KT_ok hc rfl fun K8 hK8 => ?_
      simp -dsimp -implicitDefEqProofs (disch := first | assumption | omega | (simp [maxLen, avs_len, nds_len, erow_len] <;> omega) | decide) only [sT_move, sT_load, sT_callt, oK_some, loadF, ↓reduceIte, q_b, ifp, q_f, q_s, q_l, q_n, Nat.reduceEqDiff, avs_nil, avs_cons, iD, Nat.reduceAdd, bddC, cntH, sz_133, ag_133]
      refine kc_stc (S := cntH us rs n.toNat ([], 0)) (T := []) (cnt_c V us rs hr hul0 n.toNat (by omega) _ (treeA us node) (Nat.le_refl _) 0 _ ([], 0) rfl hti hok0 (by omega) (COk.nil us _)) rfl (by first | rfl | (simp [AV.allIs, AV.allI, allI_c, allI_de, allI_fr, okI, ltI, allIs_avs, all_m, cntH]; done) | (intro o ho; simp at ho; done)) (fun t => frL_all (by first | rfl | (simp [AV.allIs, AV.allI, allI_c, allI_de, allI_fr, okI, ltI, allIs_avs, all_m, cntH]; done) | (intro o ho; simp at ho; done)) t) (by first | rfl | (simp [AV.allIs, AV.allI, allI_c, allI_de, allI_fr, okI, ltI, allIs_avs, all_m, cntH]; done) | (intro o ho; simp at ho; done)) (by first | rfl | (simp [AV.allIs, AV.allI, allI_c, ltI, allIs_avs, all_m, cntH]; done) | (intro o ho; simp at ho; done)) (by first | rfl | (simp [cntH]; done) | (intro o ho; simp at ho; done)) ?_
      rintro _ _ ⟨μ1, rfl, rfl, hC1⟩
      refine ⟨rfl, ?_⟩
      simp -dsimp -implicitDefEqProofs (disch := first | assumption | omega | (simp [maxLen, avs_len, nds_len, erow_len] <;> omega) | decide) only [sT_assign, sT_nil, ↓reduceIte, q_b, q_f, List.append_nil, avs_nil, avs_cons, iD, bddC, cntH]
      refine hK8 _ _ ?_
      refine awp_ret ?_
      show closeA _ _ = _
      simp (disch := first | assumption | omega | (simp [maxLen, avs_len, nds_len, erow_len] <;> omega) | decide) only [List.map_cons, List.map_nil, closeA, retV, deep_d, deepL_nil, deepL_cons, Nat.reduceAdd, Nat.zero_add, D.fix, frL_get, ↓reduceIte, Nat.reduceEqDiff, Option.map_some, Option.bind_some, List.length_cons, List.length_nil, iD]
      simp [cntA, q, askE]
  · have hae := ask_1 q
    rw [hae]
    simp -dsimp -implicitDefEqProofs (disch := first | assumption | omega | (simp [maxLen, avs_len, nds_len, erow_len] <;> omega) | decide) only [sT_move, sT_bin, sT_nil, oK_some, q_o, binF_v, v_neq, ↓reduceIte, q_b, q_f]
    refine hK4 _ _ ?_
    refine awp_cond rfl (fun ht => ?_) (fun ht => ?_)
    · refine awp_seq_s hp KT_ok hc rfl fun K9 hK9 => ?_
      simp -dsimp -implicitDefEqProofs (disch := first | assumption | omega | (simp [maxLen, avs_len, nds_len, erow_len] <;> omega) | decide) only [sT_move, sT_assign, sT_nil, ↓reduceIte, q_b, q_f, Nat.reduceEqDiff]
      refine hK9 _ _ ?_
      refine awp_ret ?_
      show closeA _ _ = _
      simp (disch := first | assumption | omega | (simp [maxLen, avs_len, nds_len, erow_len] <;> omega) | decide) only [List.map_cons, List.map_nil, closeA, retV, deep_d, deepL_nil, deepL_cons, Nat.reduceAdd, Nat.zero_add, D.fix, frL_get, ↓reduceIte, Nat.reduceEqDiff, Option.map_some, Option.bind_some, List.length_cons, List.length_nil, iD]
      simp [cntA, q, askE]
    · cases ht
end Go.Proofs.Ytgfnpfchdlcoeaa
