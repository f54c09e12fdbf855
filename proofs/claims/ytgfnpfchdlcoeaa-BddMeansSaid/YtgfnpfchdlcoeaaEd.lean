/- The theorem of meaning. -/
import Derived.Test.YtgfnpfchdlcoeaaQ
import Derived.Test.YtgfnpfchdlcoeaaEc
set_option linter.unusedVariables false
set_option linter.unusedSimpArgs false
namespace Go.Proofs.Ytgfnpfchdlcoeaa
open Go Go.RowKit
theorem shp_sum : ∀ (l : List Nat) (left : Nat), ((shpL left l).map fun p => p.1 * p.2).sum ≤ left
  | [], left => by simp [shpL]
  | b :: r, left => by
    have h1 := shpF_le left b
    have h2 := shp_sum r (left - (shpF left b).1 * (shpF left b).2)
    simp only [shpL, List.map_cons, List.sum_cons]
    omega
theorem shp_len : ∀ (l : List Nat) (left : Nat), (shpL left l).length = l.length
  | [], _ => rfl
  | b :: r, left => by simp [shpL, shp_len r]
theorem shp_el : ∀ (l : List Nat) (left : Nat) (p : Nat × Nat), p ∈ shpL left l → p.1 ≤ 8 ∧ p.2 ≤ 8
  | [], _, p, h => by cases h
  | b :: r, left, p, h => by
    rcases List.mem_cons.1 h with rfl | h
    · have := shpF_le left b; omega
    · exact shp_el r _ p h
theorem shp_ok (l : List Nat) (hl : l.length = 3) (left : Nat) : ShOk (shpL left l) := ⟨by rw [shp_len]; omega, fun k hk => shp_el l left _ (nth_mem hk)⟩
theorem shp_vars (base : Nat) (l : List Nat) : varsN base (shpL 5 l) ≤ base + 5 := by
  have := shp_sum l 5
  unfold varsN firstN
  rw [List.take_length]
  omega
theorem bin_of {n : Net} {sh : Sh} {nodes : List Int} (hi : n.ins.length ≤ 9) (hg : n.gates.length ≤ 200) (hsh : ShOk sh) (hs : varsN n.ins.length sh ≤ n.ins.length + 5) (hgs : GatesOk (2 + n.ins.length) n.gates) (hno : nodes.any (unkB (2 + n.ins.length + n.gates.length)) = false) (hnl : nodes.length ≤ 1000000) :
    BIn (varsN n.ins.length sh) n sh nodes := by
  have hp : 2 ^ varsN n.ins.length sh ≤ 2 ^ 14 := Nat.pow_le_pow_right (by decide) (by omega)
  have hm := Nat.mul_le_mul hg (show 8 + 7 * 2 ^ varsN n.ins.length sh ≤ 8 + 7 * 2 ^ 14 by omega)
  exact ⟨hsh, rfl, by omega, fun k hk => have h := hgs k hk; ⟨h.a0, h.a1, h.b0, h.b1, h.c0, h.c1, h.n0, h.n1⟩, hno, hnl, by omega, by omega, by unfold bigB; omega⟩
theorem all_no (n : Net) : (allL n).any (unkB (2 + n.ins.length + n.gates.length)) = false := by
  rw [List.any_eq_false]
  intro x hx
  obtain ⟨k, hk, rfl⟩ := List.mem_map.1 hx
  have := List.mem_range.1 hk
  simp [unkB]; omega
theorem roots_all {n : Net} {fs : List T} (h : fs.length = 2 + n.ins.length + n.gates.length) : rootsT fs (allL n) = fs := by
  unfold rootsT allL
  rw [List.map_map]
  refine List.ext_getElem (by simp [h]) fun i h1 h2 => ?_
  simp only [List.getElem_map, List.getElem_range, Function.comp]
  rw [show ((i : Nat) : Int).toNat = i by omega, nth_eq h2]
structure NetB (n : Net) : Prop where
  i1 : n.ins.length ≤ 9
  g1 : n.gates.length ≤ 200
  g2 : GatesOk (2 + n.ins.length) n.gates
theorem NetOk.b {n : Net} (h : NetOk n) : NetB n := ⟨h.i2, Nat.le_trans h.g1 (by decide), h.g2⟩
theorem erow_64 {V : Nat} {us : List T} (hr : RowOk V us) (hV : V ≤ 1000) (hl : us.length ≤ 3000) : ∀ n ∈ (erow us).map toI, N64 n := fun n hn => by
  obtain ⟨m, hm, rfl⟩ := List.mem_map.1 hn
  obtain ⟨t, ht, rfl⟩ := List.mem_map.1 hm
  obtain ⟨v, lo, h, rfl⟩ := hr.node ht
  have hf : T.node v lo h ∈ full us := List.mem_cons_of_mem _ (List.mem_cons_of_mem _ ht)
  have hok := (hr.okf hf).2.1
  have c1 : num us lo < _ := num_lt (hr.chf hf).1
  have c2 : num us h < _ := num_lt (hr.chf hf).2
  exact ⟨i64c (n := v) (by omega), i64c (n := num us lo) (by omega), i64c (n := num us h) (by omega)⟩
theorem erow_I (us : List T) : ((erow us).map toI).length = us.length := by simp [erow]
set_option maxRecDepth 100000 in
set_option linter.unusedVariables false in
set_option maxHeartbeats 4000000 in
theorem means_law (x : RawN) (hx : RawOk x) (b0 b1 b2 : Nat) (h0 : b0 < 256) (h1 : b1 < 256) (h2 : b2 < 256) (l : List Bool) (hl : l.length ≤ maxLen) : PCalls Try.prog 5 [.agg (rawC x), .agg [u8D b0, u8D b1, u8D b2], boolsD l] (.d (oD true)) := by
  unfold maxLen at hl
  refine pcalls_of0 (fn := Try.f5) (by kernel_rfl) Try.func5 rfl (Nat.le_of_ble_eq_true rfl) fun c hc hp => ?_
  refine awp_less (τ' := frL [(0, .d (.agg (rawC x))), (1, .d (.agg [u8D b0, u8D b1, u8D b2])), (2, .d (boolsD l))]) (less_cons (less_cons (less_cons (less_nil _) rfl) rfl) rfl) ?_
  refine awp_seq_s hp KT_ok hc rfl fun K1 hK1 => ?_
  simp -dsimp -implicitDefEqProofs (disch := first | assumption | omega | (simp [maxLen, avs_len, r5s_len, r4s_len, gates_len, wires_len, shs_len, nds_len, erow_len] <;> omega) | decide) only [sT_assign, sT_box, deadH, sT_nil, oK_some, q_o, layF, ↓reduceIte, q_b, q_f, q_s, q_l, as_dagg, D.one, Value.oneCell', q_n, Nat.reduceEqDiff, bD, boolsD, bytesD, deadH, rawC, u8D]
  refine hK1 _ _ ?_
  refine awp_seq_s hp KT_ok hc rfl fun K2 hK2 => ?_
  simp -dsimp -implicitDefEqProofs (disch := first | assumption | omega | (simp [maxLen, avs_len, r5s_len, r4s_len, gates_len, wires_len, shs_len, nds_len, erow_len] <;> omega) | decide) only [sT_call0, q_f, q_s, q_l, q_n, Nat.reduceAdd]
  refine kc_by (examples_c) rfl ?_
  simp -dsimp -implicitDefEqProofs (disch := first | assumption | omega | (simp [maxLen, avs_len, r5s_len, r4s_len, gates_len, wires_len, shs_len, nds_len, erow_len] <;> omega) | decide) only [sT_assign, sT_nil, ↓reduceIte, q_b, q_f, oD]
  refine hK2 _ _ ?_
  refine awp_seq_k fun K3 hK3 => ?_
  refine awp_seq_s hp KT_ok hc rfl fun K4 hK4 => ?_
  rcases (show fewB x = false ∨ (fewB x = true ∧ (40 : Int) < l.length) ∨ (fewB x = true ∧ ¬ (40 : Int) < l.length) by cases fewB x <;> simp; omega) with q | ⟨q, q'⟩ | ⟨q, q'⟩
  · have hf := few_p x
    rw [q] at hf
    have q1 := q
    simp -dsimp -implicitDefEqProofs (disch := first | assumption | omega | (simp [maxLen, avs_len, r5s_len, r4s_len, gates_len, wires_len, shs_len, nds_len, erow_len] <;> omega) | decide) only [sT_move, sT_load, sT_un, sT_call0, sT_g, oK_some, gK_t, q_o, loadF, u_not, ↓reduceIte, q_b, ifp, guardA_some, guardV_f, q_f, q_s, q_l, q_n, Nat.reduceEqDiff, takeD_all, Nat.reduceAdd, sz_26, ag_26]
    refine kc_by (hf) rfl ?_
    simp -dsimp -implicitDefEqProofs (disch := first | assumption | omega | (simp [maxLen, avs_len, r5s_len, r4s_len, gates_len, wires_len, shs_len, nds_len, erow_len] <;> omega) | decide) only [sT_move, sT_pick, sT_un, sT_nil, sT_g, oK_some, gK_t, gK_f, q_o, u_not, ↓reduceIte, q_b, guardA_some, guardV_f, q_f, q_l, Nat.reduceEqDiff, oD]
    refine hK4 _ _ ?_
    refine awp_cond rfl (fun ht => ?_) (fun ht => ?_)
    · refine awp_seq_s hp KT_ok hc rfl fun K5 hK5 => ?_
      simp -dsimp -implicitDefEqProofs (disch := first | assumption | omega | (simp [maxLen, avs_len, r5s_len, r4s_len, gates_len, wires_len, shs_len, nds_len, erow_len] <;> omega) | decide) only [sT_move, sT_assign, sT_nil, ↓reduceIte, q_b, q_f, Nat.reduceEqDiff]
      refine hK5 _ _ ?_
      refine awp_ret ?_
      show closeA _ _ = _
      simp (disch := first | assumption | omega | (simp [maxLen, avs_len, r5s_len, r4s_len, gates_len, wires_len, shs_len, nds_len, erow_len] <;> omega) | decide) only [closeA, retV, deep_d, Nat.reduceAdd, Nat.zero_add, D.fix, frL_get, ↓reduceIte, Option.map_some, List.length_cons, List.length_nil, oD]
    · cases ht
  · have hf := few_p x
    rw [q] at hf
    have q1 := decide_eq_true q'
    simp -dsimp -implicitDefEqProofs (disch := first | assumption | omega | (simp [maxLen, avs_len, r5s_len, r4s_len, gates_len, wires_len, shs_len, nds_len, erow_len] <;> omega) | decide) only [sT_move, sT_load, sT_un, sT_call0, sT_g, oK_some, gK_t, q_o, loadF, u_not, ↓reduceIte, q_b, ifp, guardA_some, guardV_f, q_f, q_s, q_l, q_n, Nat.reduceEqDiff, takeD_all, Nat.reduceAdd, sz_26, ag_26]
    refine kc_by (hf) rfl ?_
    simp -dsimp -implicitDefEqProofs (disch := first | assumption | omega | (simp [maxLen, avs_len, r5s_len, r4s_len, gates_len, wires_len, shs_len, nds_len, erow_len] <;> omega) | decide) only [sT_move, sT_pick, sT_bin, sT_un, sT_len, sT_nil, sT_g, oK_some, gK_t, q_o, binF_v, lenF, builtinF, u_not, v_gtr, ↓reduceIte, q_b, guardA_some, guardV_f, q_f, q_s, q_l, Nat.reduceEqDiff, oD, q1, eo_33]
    refine hK4 _ _ ?_
    refine awp_cond rfl (fun ht => ?_) (fun ht => ?_)
    · refine awp_seq_s hp KT_ok hc rfl fun K6 hK6 => ?_
      simp -dsimp -implicitDefEqProofs (disch := first | assumption | omega | (simp [maxLen, avs_len, r5s_len, r4s_len, gates_len, wires_len, shs_len, nds_len, erow_len] <;> omega) | decide) only [sT_move, sT_assign, sT_nil, ↓reduceIte, q_b, q_f, Nat.reduceEqDiff]
      refine hK6 _ _ ?_
      refine awp_ret ?_
      show closeA _ _ = _
      simp (disch := first | assumption | omega | (simp [maxLen, avs_len, r5s_len, r4s_len, gates_len, wires_len, shs_len, nds_len, erow_len] <;> omega) | decide) only [closeA, retV, deep_d, Nat.reduceAdd, Nat.zero_add, D.fix, frL_get, ↓reduceIte, Option.map_some, List.length_cons, List.length_nil, oD]
    · cases ht
  · have hf := few_p x
    rw [q] at hf
    have q1 := decide_eq_false q'
    simp -dsimp -implicitDefEqProofs (disch := first | assumption | omega | (simp [maxLen, avs_len, r5s_len, r4s_len, gates_len, wires_len, shs_len, nds_len, erow_len] <;> omega) | decide) only [sT_move, sT_load, sT_un, sT_call0, sT_g, oK_some, gK_t, q_o, loadF, u_not, ↓reduceIte, q_b, ifp, guardA_some, guardV_f, q_f, q_s, q_l, q_n, Nat.reduceEqDiff, takeD_all, Nat.reduceAdd, sz_26, ag_26]
    refine kc_by (hf) rfl ?_
    simp -dsimp -implicitDefEqProofs (disch := first | assumption | omega | (simp [maxLen, avs_len, r5s_len, r4s_len, gates_len, wires_len, shs_len, nds_len, erow_len] <;> omega) | decide) only [sT_move, sT_pick, sT_bin, sT_un, sT_len, sT_nil, sT_g, oK_some, gK_t, q_o, binF_v, lenF, builtinF, u_not, v_gtr, ↓reduceIte, q_b, guardA_some, guardV_f, q_f, q_s, q_l, Nat.reduceEqDiff, oD, q1, eo_33]
    refine hK4 _ _ ?_
    refine awp_cond rfl (fun ht => ?_) (fun ht => ?_)
    · cases ht
    · refine awp_skip (hK3 _ _ ?_)
      refine awp_seq_s hp KT_ok hc rfl fun K7 hK7 => ?_
      simp -dsimp -implicitDefEqProofs (disch := first | assumption | omega | (simp [maxLen, avs_len, r5s_len, r4s_len, gates_len, wires_len, shs_len, nds_len, erow_len] <;> omega) | decide) only [sT_load, sT_call0, oK_some, q_o, loadF, ↓reduceIte, q_b, ifp, q_f, q_s, q_l, q_n, Nat.reduceEqDiff, takeD_all, Nat.reduceAdd, sz_26, ag_26]
      refine kc_rel (made_c x hx) rfl fun r hr => ?_
      obtain ⟨n, hn, rfl⟩ := hr
      simp -dsimp -implicitDefEqProofs (disch := first | assumption | omega | (simp [maxLen, avs_len, r5s_len, r4s_len, gates_len, wires_len, shs_len, nds_len, erow_len] <;> omega) | decide) only [sT_alloc, sT_store, deadH, sT_nil, oK_some, q_o, layF, storeF, ↓reduceIte, q_b, ifp, q_f, q_s, q_l, as_dagg, q_a, D.one, q_n, Nat.reduceEqDiff, map_d, avs_nil, avs_cons, intsD, Nat.reduceAdd, deadH, netD, netC, wiresD, gatesD, sz_41, za_41]
      refine hK7 _ _ ?_
      refine awp_seq_s hp KT_ok hc rfl fun K8 hK8 => ?_
      simp -dsimp -implicitDefEqProofs (disch := first | assumption | omega | (simp [maxLen, avs_len, r5s_len, r4s_len, gates_len, wires_len, shs_len, nds_len, erow_len] <;> omega) | decide) only [sT_load, sT_call0, oK_some, q_o, loadF, ↓reduceIte, q_b, ifp, q_f, q_s, q_l, q_n, Nat.reduceEqDiff, takeD_all, Nat.reduceAdd, sz_27, ag_27]
      refine kc_by (shape_c b0 b1 b2 h0 h1 h2) rfl ?_
      simp -dsimp -implicitDefEqProofs (disch := first | assumption | omega | (simp [maxLen, avs_len, r5s_len, r4s_len, gates_len, wires_len, shs_len, nds_len, erow_len] <;> omega) | decide) only [sT_assign, sT_nil, ↓reduceIte, q_b, q_f, shD]
      obtain ⟨sh, hshd⟩ : ∃ sh, sh = shpL 5 [b0, b1, b2] := ⟨_, rfl⟩
      have hsh : ShOk sh := by rw [hshd]; exact shp_ok _ rfl _
      have hsv : varsN n.ins.length sh ≤ n.ins.length + 5 := by rw [hshd]; exact shp_vars _ _
      rw [← hshd]
      have hnb := hn.b
      have hi9 := hnb.i1
      have hg200 := hnb.g1
      have hBI := bin_of (nodes := allL n) hnb.i1 hnb.g1 hsh hsv hnb.g2 (all_no n) (by rw [allL_len]; omega)
      refine hK8 _ _ ?_
      refine awp_rt hp (τ' := frL [(2, .d (boolsD l)), (7, .d (oD true)), (8, .d (.fp (netC n) 0)), (9, .d (shD sh))]) (H' := []) ?_ ?_
      · refine Rt.trans (Rt.fz (id := 2) (l := netC n) rfl) ?_
        refine Rt.trans (Rt.gc (keep := []) (by decide) (by decide) (by simp [fzH])) ?_
        refine Rt.end (less_cons (less_cons (less_cons (less_cons (less_nil _) rfl) rfl) rfl) rfl) ?_
        first | rfl | (simp only [intsD, boolsD, bytesD, intssD, bytessD, gcH, gcO_c, gcO_de, gcO_fr, gc_m, fz_m, gcVs_avs, gcVs, gcV, gcV_d, fzH, fzO_c, fzO_de, fzO_fr, fzVs_avs, Nat.reduceAdd, fzVs, fzV, posN, avs_nil, avs_cons, List.map_cons, List.map_nil, List.getD_cons_zero, List.getD_cons_succ, ↓reduceIte, Nat.reduceEqDiff, Option.map_some, List.set_cons_zero, List.set_cons_succ, takeD_avs, takeD_all, Nat.mul_one, List.length_map, List.cons_append, List.nil_append, rawC, u8D, netD, netC, wiresD, gatesD, shD, bltD, bddC]; first | done | rfl)
      refine awp_seq_ss KT_ok hp hc mixed rfl [(0, []), (1, []), (2, []), (5, []), (3, [0]), (4, []), (6, [])] [[], [], [], [2], [0, 1, 2, 3], [], [0, 1, 2, 3, 4, 5]] 1 (by kernel_rfl) fun K9 hK9 => ?_
      simp -dsimp -implicitDefEqProofs (disch := first | assumption | omega | (simp [maxLen, avs_len, r5s_len, r4s_len, gates_len, wires_len, shs_len, nds_len, erow_len] <;> omega) | decide) only [oK_some, q_o, loadF, layF, layEF, ↓reduceIte, q_b, q_f, q_s, q_l, List.replicate_zero, List.replicate_succ, q_n, Nat.reduceEqDiff, shB, appB, map_d, avs_nil, avs_cons, takeD_all, oD, intsD, boolsD, layEF, frzF, stg_nil, stg_cons, List.getD_cons_zero, List.getD_cons_succ, sS_move, sS_load, sS_call0, sS_alloc, netC, wiresD, gatesD, shD, sz_41, ag_41, za_47]
      refine ke_by (all_c n (by omega) (by omega)) rfl ?_
      simp -dsimp -implicitDefEqProofs (disch := first | assumption | omega | (simp [maxLen, avs_len, r5s_len, r4s_len, gates_len, wires_len, shs_len, nds_len, erow_len] <;> omega) | decide) only [oK_some, q_o, loadF, ↓reduceIte, q_b, q_f, q_s, Nat.reduceEqDiff, takeD_all, intsD, rT_nil, rT_load, sS_call0, sz_41, ag_41]
      refine ke_rel (built_c _ n sh (allL n) hBI) rfl fun r hr0 => ?_
      obtain ⟨ns, rs, e, rfl, hr⟩ := hr0
      have hbt := hr.blt (by omega) (all_no n)
      simp -dsimp -implicitDefEqProofs (disch := first | assumption | omega | (simp [maxLen, avs_len, r5s_len, r4s_len, gates_len, wires_len, shs_len, nds_len, erow_len] <;> omega) | decide) only [oK_some, storeF, ↓reduceIte, q_b, ifp, q_f, q_s, q_l, as_dagg, q_a, D.one, Value.oneCell', q_n, Nat.reduceEqDiff, iD, Nat.reduceAdd, rT_nil, sS_nil, sS_store, bltD, bddC, sz_47]
      refine hK9 _ _ ?_
      refine awp_seq_k fun K10 hK10 => ?_
      refine awp_rt hp (τ' := frL [(2, .d (boolsD l)), (7, .d (oD true)), (8, .d (.fp (netC n) 0)), (9, .d (shD sh)), (10, .d (.fp (bddC ns rs ++ [iD e]) 0))]) (H' := []) ?_ ?_
      · refine Rt.trans (Rt.fz (id := 0) (l := bddC ns rs ++ [iD e]) rfl) ?_
        refine Rt.trans (Rt.gc (keep := []) (by decide) (by decide) (by simp [fzH])) ?_
        refine Rt.end (less_cons (less_cons (less_cons (less_cons (less_cons (less_nil _) rfl) rfl) rfl) rfl) rfl) ?_
        first | rfl | (simp only [intsD, boolsD, bytesD, intssD, bytessD, gcH, gcO_c, gcO_de, gcO_fr, gc_m, fz_m, gcVs_avs, gcVs, gcV, gcV_d, fzH, fzO_c, fzO_de, fzO_fr, fzVs_avs, Nat.reduceAdd, fzVs, fzV, posN, avs_nil, avs_cons, List.map_cons, List.map_nil, List.getD_cons_zero, List.getD_cons_succ, ↓reduceIte, Nat.reduceEqDiff, Option.map_some, List.set_cons_zero, List.set_cons_succ, takeD_avs, takeD_all, Nat.mul_one, List.length_map, List.cons_append, List.nil_append, rawC, u8D, netD, netC, wiresD, gatesD, shD, bltD, bddC]; first | done | rfl)
      refine awp_seq_s hp KT_ok hc rfl fun K11 hK11 => ?_
      rcases hbt with rfl | ⟨rfl, fs, us, rfl, hB⟩
      · simp -dsimp -implicitDefEqProofs (disch := first | assumption | omega | (simp [maxLen, avs_len, r5s_len, r4s_len, gates_len, wires_len, shs_len, nds_len, erow_len] <;> omega) | decide) only [sT_load, sT_fa, sT_bin, sT_nil, oK_some, q_o, loadF, fieldAddrF, binF_v, v_neq, ↓reduceIte, q_b, q_f, q_l, q_s, q_n, Nat.reduceEqDiff, iD, oD, intsD, boolsD, netC, wiresD, gatesD, shD, bddC, Int.reduceBNe, fo_47_1, sz_45, ag_45]
        refine hK11 _ _ ?_
        refine awp_cond rfl (fun ht => ?_) (fun ht => ?_)
        · refine awp_seq_s hp KT_ok hc rfl fun K12 hK12 => ?_
          simp -dsimp -implicitDefEqProofs (disch := first | assumption | omega | (simp [maxLen, avs_len, r5s_len, r4s_len, gates_len, wires_len, shs_len, nds_len, erow_len] <;> omega) | decide) only [sT_move, sT_assign, sT_pick, sT_load, sT_fa, sT_bin, sT_nil, sT_g, oK_some, gK_t, q_o, loadF, fieldAddrF, binF_v, v_eql, ↓reduceIte, q_b, guardA_some, guardV_t, q_f, q_l, q_n, Nat.reduceEqDiff, beq_self_eq_true, fo_47_1, sz_45, ag_45]
          refine hK12 _ _ ?_
          refine awp_ret ?_
          show closeA _ _ = _
          simp (disch := first | assumption | omega | (simp [maxLen, avs_len, r5s_len, r4s_len, gates_len, wires_len, shs_len, nds_len, erow_len] <;> omega) | decide) only [closeA, retV, deep_d, D.fix, frL_get, ↓reduceIte, Option.map_some, List.length_nil, oD]
        · cases ht
      · simp -dsimp -implicitDefEqProofs (disch := first | assumption | omega | (simp [maxLen, avs_len, r5s_len, r4s_len, gates_len, wires_len, shs_len, nds_len, erow_len] <;> omega) | decide) only [sT_load, sT_fa, sT_bin, sT_nil, oK_some, q_o, loadF, fieldAddrF, binF_v, v_neq, ↓reduceIte, q_b, q_f, q_l, q_s, q_n, Nat.reduceEqDiff, iD, oD, intsD, boolsD, netC, wiresD, gatesD, shD, bddC, bne_self_eq_false, fo_47_1, sz_45, ag_45]
        refine hK11 _ _ ?_
        refine awp_cond rfl (fun ht => ?_) (fun ht => ?_)
        · cases ht
        · refine awp_skip (hK10 _ _ ?_)
          refine awp_seq_se KT_ok hc mixed rfl (q := 0) (by kernel_rfl) (by kernel_rfl) fun K13 hK13 => ?_
          simp -dsimp -implicitDefEqProofs (disch := first | assumption | omega | (simp [maxLen, avs_len, r5s_len, r4s_len, gates_len, wires_len, shs_len, nds_len, erow_len] <;> omega) | decide) only [sE_move, sE_load, sE_call0, oK_some, q_o, loadF, ↓reduceIte, q_b, q_f, q_s, q_l, List.append_nil, List.replicate_zero, q_n, Nat.reduceEqDiff, takeD_all, Nat.reduceAdd, sz_41, ag_41]
          refine kc_by (inputs_c n l (by unfold maxLen; omega) (by omega) (by omega)) rfl ?_
          simp -dsimp -implicitDefEqProofs (disch := first | assumption | omega | (simp [maxLen, avs_len, r5s_len, r4s_len, gates_len, wires_len, shs_len, nds_len, erow_len] <;> omega) | decide) only [sE_move, sE_load, sE_call0, oK_some, q_o, loadF, ↓reduceIte, q_b, q_f, q_s, Nat.reduceEqDiff, takeD_all, boolsD, Nat.reduceAdd, sz_41, ag_41]
          refine kc_by (mems_c n sh l hsh (by unfold maxLen; omega) (by omega)) rfl ?_
          simp -dsimp -implicitDefEqProofs (disch := first | assumption | omega | (simp [maxLen, avs_len, r5s_len, r4s_len, gates_len, wires_len, shs_len, nds_len, erow_len] <;> omega) | decide) only [sE_call0, ↓reduceIte, q_b, q_f, q_s, Nat.reduceEqDiff, intssD, Nat.reduceAdd]
          refine kc_by (eval_c n (inpA n.ins.length l) (memsA n.ins.length sh l) (by rw [inp_len]; exact hnb.g2) (by rw [inp_len]; omega) (by omega)) rfl ?_
          simp -dsimp -implicitDefEqProofs (disch := first | assumption | omega | (simp [maxLen, avs_len, r5s_len, r4s_len, gates_len, wires_len, shs_len, nds_len, erow_len] <;> omega) | decide) only [sE_assign, sE_nil, ↓reduceIte, q_b, q_f, killAll, boolsD, Nat.reduceAdd]
          have hvl := evalN_len n n.ins.length l (memsA n.ins.length sh l)
          have hmn := mean hsh hB.F hnb.g2 l n.gates.length (Nat.le_refl _)
          rw [List.take_length] at hmn
          obtain ⟨v, hv⟩ : ∃ v, v = evalN n.gates (inpA n.ins.length l) (memsA n.ins.length sh l) := ⟨_, rfl⟩
          have hmn' : ∀ k, k < 2 + n.ins.length + n.gates.length → nth v k = (nth fs k).eval (atB l) := fun k hk => by rw [hv]; exact hmn k hk
          rw [← hv] at hvl ⊢
          have hrow := hB.row
          have hul := hB.len
          have hfl := hB.F.len
          have hra := roots_all (n := n) hfl
          have hrs := hB.rs
          have hin := hB.hin
          rw [hra] at hrs hin
          have hrl : rs.length = 2 + n.ins.length + n.gates.length := by rw [hrs, List.length_map, hfl]
          have hval := blt_valid hrow (by omega) hul (rs := rs) fun k hk => by
            rw [hrs] at hk
            obtain ⟨t, ht, rfl⟩ := List.mem_map.1 hk
            exact num_lt (hin t ht)
          have hk1 := rvalid_c ((erow us).map toI) (rs.map fun (k : Nat) => (k : Int)) (by rw [erow_I]; unfold maxLen; omega) (by rw [List.length_map]; omega)
          have hk2 := valid_c ((erow us).map toI) (rs.map fun (k : Nat) => (k : Int)) (erow_64 hrow (by omega) hul) (by rw [erow_I]; unfold maxLen; omega) (by rw [List.length_map]; unfold maxLen; omega)
          rw [hval, ← bddD_I] at hk1 hk2
          have qa : ((rs.length : Int) != (v.length : Int)) = false := by simp; omega
          have qb : ((v.length : Int) != 2 + (n.ins.length : Int) + n.gates.length) = false := by simp; omega
          refine hK13 _ _ ?_
          refine awp_seq_k fun K14 hK14 => ?_
          refine awp_seq_s hp KT_ok hc rfl fun K15 hK15 => ?_
          simp -dsimp -implicitDefEqProofs (disch := first | assumption | omega | (simp [maxLen, avs_len, r5s_len, r4s_len, gates_len, wires_len, shs_len, nds_len, erow_len] <;> omega) | decide) only [sT_load, sT_fa, sT_call0, oK_some, q_o, loadF, fieldAddrF, ↓reduceIte, q_b, q_f, q_s, q_l, q_n, Nat.reduceEqDiff, takeD_zero, takeD_cs, fo_47_0, sz_31, ag_31]
          refine kc_by (hk1) rfl ?_
          simp -dsimp -implicitDefEqProofs (disch := first | assumption | omega | (simp [maxLen, avs_len, r5s_len, r4s_len, gates_len, wires_len, shs_len, nds_len, erow_len] <;> omega) | decide) only [sT_move, sT_load, sT_fa, sT_un, sT_call0, sT_g, oK_some, gK_t, q_o, loadF, fieldAddrF, u_not, ↓reduceIte, q_b, guardA_some, guardV_f, q_f, q_s, q_l, q_n, Nat.reduceEqDiff, takeD_zero, takeD_cs, oD, fo_47_0, sz_31, ag_31]
          refine kc_by (hk2) rfl ?_
          simp -dsimp -implicitDefEqProofs (disch := first | assumption | omega | (simp [maxLen, avs_len, r5s_len, r4s_len, gates_len, wires_len, shs_len, nds_len, erow_len] <;> omega) | decide) only [sT_move, sT_pick, sT_load, sT_fa, sT_bin, sT_un, sT_len, sT_call0, sT_g, oK_some, gK_t, q_o, loadF, fieldAddrF, binF_v, lenF, builtinF, u_not, v_neq, ↓reduceIte, q_b, guardA_some, guardV_f, q_f, q_s, q_l, q_n, Nat.reduceEqDiff, takeD_all, oD, qa, fo_47_0, fo_31_1, sz_29, ag_29, eo_29, eo_33, sz_41, ag_41]
          refine kc_by (nodes_c n (by omega) (by omega)) rfl ?_
          simp -dsimp -implicitDefEqProofs (disch := first | assumption | omega | (simp [maxLen, avs_len, r5s_len, r4s_len, gates_len, wires_len, shs_len, nds_len, erow_len] <;> omega) | decide) only [sT_pick, sT_bin, sT_nil, sT_g, oK_some, gK_t, q_o, binF_v, v_neq, ↓reduceIte, q_b, guardA_some, guardV_f, q_f, q_l, Nat.reduceEqDiff, iD, qb]
          refine hK15 _ _ ?_
          refine awp_cond rfl (fun ht => ?_) (fun ht => ?_)
          · cases ht
          · refine awp_skip (hK14 _ _ ?_)
            refine awp_seq_k fun K16 hK16 => ?_
            refine awp_seq_s hp KT_ok hc rfl fun K17 hK17 => ?_
            simp -dsimp -implicitDefEqProofs (disch := first | assumption | omega | (simp [maxLen, avs_len, r5s_len, r4s_len, gates_len, wires_len, shs_len, nds_len, erow_len] <;> omega) | decide) only [sT_assign, sT_nil, q_f]
            refine hK17 _ _ ?_
            refine awp_block ?_
            refine awp_loop_rt hp (fun τ' H' mm => ∃ (i : Nat), (i ≤ v.length) ∧ mm = v.length - i ∧ H' = [] ∧ τ' = frL [(2, .d (boolsD l)), (7, .d (oD true)), (10, .d (.fp (bddC (erow us) rs ++ [iD 0]) 0)), (11, .d (boolsD v)), (12, .d (iD i))]) (v.length) ?_ ⟨0, Nat.zero_le _, rfl, rfl, rfl⟩ ?_
            · refine Rt.end (less_cons (less_cons (less_cons (less_cons (less_cons (less_nil _) rfl) rfl) rfl) rfl) rfl) ?_
              first | rfl | (simp only [intsD, boolsD, bytesD, intssD, bytessD, gcH, gcO_c, gcO_de, gcO_fr, gc_m, fz_m, gcVs_avs, gcVs, gcV, gcV_d, fzH, fzO_c, fzO_de, fzO_fr, fzVs_avs, Nat.reduceAdd, fzVs, fzV, posN, avs_nil, avs_cons, List.map_cons, List.map_nil, List.getD_cons_zero, List.getD_cons_succ, ↓reduceIte, Nat.reduceEqDiff, Option.map_some, List.set_cons_zero, List.set_cons_succ, takeD_avs, takeD_all, Nat.mul_one, List.length_map, List.cons_append, List.nil_append, rawC, u8D, netD, netC, wiresD, gatesD, shD, bltD, bddC]; first | done | rfl)
            rintro τ' H' mm ⟨i, hi, rfl, rfl, rfl⟩
            refine awp_seq_k fun K18 hK18 => ?_
            refine awp_seq_s hp KT_ok hc rfl fun K19 hK19 => ?_
            simp -dsimp -implicitDefEqProofs (disch := first | assumption | omega | (simp [maxLen, avs_len, r5s_len, r4s_len, gates_len, wires_len, shs_len, nds_len, erow_len] <;> omega) | decide) only [sT_move, sT_bin, sT_len, sT_nil, oK_some, q_o, binF_v, lenF, builtinF, v_lss, ↓reduceIte, q_b, q_f, q_s, Nat.reduceEqDiff, iD, oD, boolsD, bddC, eo_33]
            refine hK19 _ _ ?_
            refine awp_cond rfl (fun ht => ?_) (fun ht => ?_)
            · have hlt : i < v.length := by simp at ht; omega
              have hri : nth rs i = num us (nth fs i) := by rw [hrs, nth_map (by omega)]
              have hev : evB us (nth rs i : Nat) l = (nth fs i).eval (atB l) := by rw [hri]; exact evB_num (hin _ (nth_mem (by omega))) l
              have hne : (evB us (nth rs i : Nat) l != nth v i) = false := by rw [hev, hmn' i (by omega)]; simp
              refine awp_skip (hK18 _ _ ?_)
              refine awp_seq_k fun K20 hK20 => ?_
              refine awp_block ?_
              refine awp_seq_se KT_ok hc mixed rfl (q := 0) (by kernel_rfl) (by kernel_rfl) fun K21 hK21 => ?_
              simp -dsimp -implicitDefEqProofs (disch := first | assumption | omega | (simp [maxLen, avs_len, r5s_len, r4s_len, gates_len, wires_len, shs_len, nds_len, erow_len] <;> omega) | decide) only [sE_move, sE_load, sE_fa, sE_ia, sE_call0, oK_some, q_o, loadF, fieldAddrF, ixO, indexAddrF, ↓reduceIte, q_b, ifp, q_f, q_s, q_l, List.append_nil, List.replicate_zero, Int.toNat_natCast, q_n, Nat.reduceEqDiff, takeD_zero, takeD_cs, get_map, iD, Nat.reduceAdd, get_map, natD, fo_47_0, sz_31, ag_31, fo_31_1, sz_29, ag_29, eo_29, sz_3, ag_3]
              refine kc_by (eval_b _ us rs hrow (by omega) (by unfold bigB; omega) ((nth rs i : Nat) : Int) l (by unfold maxLen; omega)) rfl ?_
              simp -dsimp -implicitDefEqProofs (disch := first | assumption | omega | (simp [maxLen, avs_len, r5s_len, r4s_len, gates_len, wires_len, shs_len, nds_len, erow_len] <;> omega) | decide) only [sE_move, sE_load, sE_ia, sE_bin, sE_nil, oK_some, q_o, loadF, ixO, indexAddrF, binF_v, v_bneq, ↓reduceIte, q_b, ifp, q_f, Int.toNat_natCast, q_n, Nat.reduceEqDiff, killAll, get_map, oD, Nat.reduceAdd, get_map, hne, eo_33, sz_4, ag_4, bt_4]
              refine hK21 _ _ ?_
              refine awp_cond rfl (fun ht => ?_) (fun ht => ?_)
              · cases ht
              · refine awp_skip (hK20 _ _ ?_)
                refine awp_s hp KT_ok hc rfl fun K22 hK22 => ?_
                simp -dsimp -implicitDefEqProofs (disch := first | assumption | omega | (simp [maxLen, avs_len, r5s_len, r4s_len, gates_len, wires_len, shs_len, nds_len, erow_len] <;> omega) | decide) only [sT_move, sT_assign, sT_bin, sT_nil, oK_some, q_o, binF_v, v_add, ↓reduceIte, q_b, q_f, Nat.reduceEqDiff]
                refine hK22 _ _ ⟨_, _, _, ?_, ⟨i + 1, by omega, rfl, rfl, rfl⟩, ?_⟩
                · first | omega | (simp only [List.length_cons]; omega) | (dsimp only; omega)
                · refine Rt.end (less_cons (less_cons (less_cons (less_cons (less_cons (less_nil _) rfl) rfl) rfl) rfl) rfl) ?_
                  first | rfl | (simp only [intsD, boolsD, bytesD, intssD, bytessD, gcH, gcO_c, gcO_de, gcO_fr, gc_m, fz_m, gcVs_avs, gcVs, gcV, gcV_d, fzH, fzO_c, fzO_de, fzO_fr, fzVs_avs, Nat.reduceAdd, fzVs, fzV, posN, avs_nil, avs_cons, List.map_cons, List.map_nil, List.getD_cons_zero, List.getD_cons_succ, ↓reduceIte, Nat.reduceEqDiff, Option.map_some, List.set_cons_zero, List.set_cons_succ, takeD_avs, takeD_all, Nat.mul_one, List.length_map, List.cons_append, List.nil_append, rawC, u8D, netD, netC, wiresD, gatesD, shD, bltD, bddC]; first | done | rfl)
            · refine awp_exit (hK16 _ _ ?_)
              refine awp_seq_s hp KT_ok hc rfl fun K23 hK23 => ?_
              simp -dsimp -implicitDefEqProofs (disch := first | assumption | omega | (simp [maxLen, avs_len, r5s_len, r4s_len, gates_len, wires_len, shs_len, nds_len, erow_len] <;> omega) | decide) only [sT_move, sT_assign, sT_nil, ↓reduceIte, q_b, q_f, Nat.reduceEqDiff]
              refine hK23 _ _ ?_
              refine awp_ret ?_
              show closeA _ _ = _
              simp (disch := first | assumption | omega | (simp [maxLen, avs_len, r5s_len, r4s_len, gates_len, wires_len, shs_len, nds_len, erow_len] <;> omega) | decide) only [closeA, retV, deep_d, D.fix, frL_get, ↓reduceIte, Option.map_some, List.length_nil, oD]
end Go.Proofs.Ytgfnpfchdlcoeaa
